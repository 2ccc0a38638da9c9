/- Plain facts: the moved joins are a tree, and their least cost is that of the tree. -/
import Derived.Test.YtcphmeeighhdjaaRM
import Derived.Test.YtcphmeeighhdjaaRB
namespace Go.Proofs.Ytcphmeeighhdjaa.Pure
open Go Go.Proofs Go.RowKit Go.Proofs.Ytcphmeeighhdjaa.P Go.Proofs.YtcphmeeighhdjaaW.PrintWords Go.Proofs.YtcphmeeighhdjaaW.PrintLast
set_option linter.unusedVariables false
/-- The child at a place: even places are first children. -/
def chd (A B : Nat → Nat) (c : Nat) : Nat := if c % 2 = 0 then A (c / 2) else B (c / 2)
theorem used_mem (J : List S67) : ∀ (i j : Nat), j < i → (rd_T67 J j).f0 ∈ usedTo J i ∧ (rd_T67 J j).f1 ∈ usedTo J i
  | 0, j, h => by omega
  | i + 1, j, h => by
    simp only [usedTo]
    by_cases e : j = i
    · subst e; simp
    · have := used_mem J i j (by omega)
      simp [this.1, this.2]
theorem used_of (J : List S67) : ∀ (i : Nat) (x : Int), x ∈ usedTo J i → ∃ j, j < i ∧ (x = (rd_T67 J j).f0 ∨ x = (rd_T67 J j).f1)
  | 0, x, h => by simp [usedTo] at h
  | i + 1, x, h => by
    simp only [usedTo] at h
    rcases List.mem_append.1 h with h | h
    · rcases List.mem_append.1 h with h | h
      · obtain ⟨j, hj, e⟩ := used_of J i x h
        exact ⟨j, by omega, e⟩
      · exact ⟨i, by omega, .inl (List.mem_singleton.1 h)⟩
    · exact ⟨i, by omega, .inr (List.mem_singleton.1 h)⟩
section
variable {n : Nat} {J : List S67}
theorem tree_at (ht : TreeOk n J) {i : Nat} (hi : i < J.length) : (rd_T67 J i).f0 = (aOf J i : Int) ∧ (rd_T67 J i).f1 = (bOf J i : Int) ∧ aOf J i < n + i ∧ bOf J i < n + i := by
  obtain ⟨⟨a1, a2, _⟩, ⟨b1, b2, _⟩⟩ := ht.2.2.2 i hi
  unfold aOf bOf
  omega
theorem tree_inj (ht : TreeOk n J) {c c' : Nat} (h : c < c') (h' : c' < 2 * J.length) : chd (aOf J) (bOf J) c ≠ chd (aOf J) (bOf J) c' := by
  intro e
  have hi : c' / 2 < J.length := by omega
  have hj : c / 2 < J.length := by omega
  obtain ⟨⟨_, _, a3⟩, ⟨_, _, b3⟩⟩ := ht.2.2.2 _ hi
  obtain ⟨p1, p2, _, _⟩ := tree_at ht hi
  obtain ⟨q1, q2, _, _⟩ := tree_at ht hj
  unfold chd at e
  by_cases hc : c / 2 < c' / 2
  · have hm := used_mem J _ _ hc
    rw [q1, q2] at hm
    rw [p1] at a3
    rw [p2] at b3
    have b4 : (bOf J (c' / 2) : Int) ∉ usedTo J (c' / 2) := fun h => b3 (List.mem_append.2 (.inl h))
    by_cases e1 : c % 2 = 0
    · rw [if_pos e1] at e
      by_cases e2 : c' % 2 = 0
      · rw [if_pos e2] at e
        exact a3 (e ▸ hm.1)
      · rw [if_neg e2] at e
        exact b4 (e ▸ hm.1)
    · rw [if_neg e1] at e
      by_cases e2 : c' % 2 = 0
      · rw [if_pos e2] at e
        exact a3 (e ▸ hm.2)
      · rw [if_neg e2] at e
        exact b4 (e ▸ hm.2)
  · have hcc : c / 2 = c' / 2 := by omega
    rw [if_pos (by omega), if_neg (by omega), hcc] at e
    rw [p1, p2] at b3
    exact b3 (List.mem_append.2 (.inr (List.mem_singleton.2 (by rw [e]))))
theorem tree_mk {A' B' : Nat → Nat} (h2 : 2 ≤ n) (h8 : n ≤ 8) (hl : (J.length : Int) = n - 1) (hat : ∀ i, i < J.length → (rd_T67 J i).f0 = (A' i : Int) ∧ (rd_T67 J i).f1 = (B' i : Int))
    (hlt : ∀ i, i < J.length → A' i < n + i ∧ B' i < n + i) (hinj : ∀ c c', c < c' → c' < 2 * J.length → chd A' B' c ≠ chd A' B' c') : TreeOk n J := by
  refine ⟨by omega, by omega, hl, fun i hi => ?_⟩
  obtain ⟨e1, e2⟩ := hat i hi
  obtain ⟨l1, l2⟩ := hlt i hi
  have c0 : ∀ j, chd A' B' (2 * j) = A' j := fun j => by unfold chd; rw [if_pos (by omega), show 2 * j / 2 = j by omega]
  have c1 : ∀ j, chd A' B' (2 * j + 1) = B' j := fun j => by unfold chd; rw [if_neg (by omega), show (2 * j + 1) / 2 = j by omega]
  have nou : ∀ (x : Nat) (c : Nat), (c = 2 * i ∨ c = 2 * i + 1) → chd A' B' c = x → (x : Int) ∉ usedTo J i := fun x c hc hx hm => by
    obtain ⟨j, hj, e⟩ := used_of J i _ hm
    obtain ⟨j1, j2⟩ := hat j (by omega)
    rw [j1, j2] at e
    rcases e with e | e
    · exact hinj (2 * j) c (by omega) (by omega) (by rw [c0, hx]; omega)
    · exact hinj (2 * j + 1) c (by omega) (by omega) (by rw [c1, hx]; omega)
  unfold JoinOk
  rw [e1, e2]
  refine ⟨⟨by omega, by omega, nou _ _ (.inl rfl) (c0 i)⟩, ⟨by omega, by omega, fun hm => ?_⟩⟩
  rcases List.mem_append.1 hm with hm | hm
  · exact nou _ _ (.inr rfl) (c1 i) hm
  · exact hinj (2 * i) (2 * i + 1) (by omega) (by omega) (by rw [c0, c1]; have := List.mem_singleton.1 hm; omega)
end
section
variable {n last a : Nat} {A B A' B' : Nat → Nat} {O : Nat}
/-- Where a child of the moved tree comes from. -/
def srcM (a last o c : Nat) : Nat := if c / 2 < a then c else if c / 2 + 1 < last then c + 2 else if c = 2 * (last - 1) then 2 * a + 1 else if c = 2 * (last - 1) + 1 then 2 * last + o else 2 * a
theorem moved_src (h : Moved n last a A B A' B' O) : ∃ o, o < 2 ∧ chd A B (2 * last + (1 - o)) = n + a ∧ ∀ c, c < 2 * last + 1 → chd A' B' c = nm (n + a) (chd A B (srcM a last o c)) := by
  have hl := h.ha
  have main : ∀ o, o < 2 → chd A B (2 * last + o) = O → ∀ c, c < 2 * last + 1 → chd A' B' c = nm (n + a) (chd A B (srcM a last o c)) := fun o ho hO c hc => by
    unfold srcM
    by_cases h1 : c / 2 < a
    · rw [if_pos h1]
      unfold chd
      split
      · exact (h.low _ h1).1
      · exact (h.low _ h1).2
    · rw [if_neg h1]
      by_cases h2 : c / 2 + 1 < last
      · rw [if_pos h2]
        unfold chd
        rw [show (c + 2) % 2 = c % 2 by omega, show (c + 2) / 2 = c / 2 + 1 by omega]
        split
        · exact (h.up _ (by omega) h2).1
        · exact (h.up _ (by omega) h2).2
      · rw [if_neg h2]
        by_cases h3 : c = 2 * (last - 1)
        · rw [if_pos h3]
          unfold chd
          rw [if_pos (by omega), if_neg (by omega), show (2 * a + 1) / 2 = a by omega, show c / 2 = last - 1 by omega]
          exact h.x.1
        · rw [if_neg h3]
          by_cases h4 : c = 2 * (last - 1) + 1
          · rw [if_pos h4, hO]
            unfold chd
            rw [if_neg (by omega), show c / 2 = last - 1 by omega]
            exact h.x.2
          · rw [if_neg h4]
            unfold chd
            rw [if_pos (by omega), if_pos (by omega), show (2 * a) / 2 = a by omega, show c / 2 = last by omega]
            exact h.r.1
  rcases h.root with ⟨r1, r2⟩ | ⟨r1, r2⟩
  · refine ⟨1, by omega, ?_, main 1 (by omega) ?_⟩
    · unfold chd; rw [if_pos (by omega), show (2 * last + (1 - 1)) / 2 = last by omega]; exact r1
    · unfold chd; rw [if_neg (by omega), show (2 * last + 1) / 2 = last by omega]; exact r2
  · refine ⟨0, by omega, ?_, main 0 (by omega) ?_⟩
    · unfold chd; rw [if_neg (by omega), show (2 * last + (1 - 0)) / 2 = last by omega]; exact r1
    · unfold chd; rw [if_pos (by omega), show (2 * last + 0) / 2 = last by omega]; exact r2
theorem src_inj {o c c' : Nat} (ha : a < last) (ho : o < 2) (h : c < c') (h' : c' < 2 * last + 1) : srcM a last o c ≠ srcM a last o c' ∧ srcM a last o c < 2 * (last + 1) ∧ srcM a last o c' < 2 * (last + 1) ∧ srcM a last o c ≠ 2 * last + (1 - o) ∧ srcM a last o c' ≠ 2 * last + (1 - o) := by
  unfold srcM
  repeat' split
  all_goals omega
theorem moved_inj (h : Moved n last a A B A' B' O) (hinj : ∀ c c', c < c' → c' < 2 * (last + 1) → chd A B c ≠ chd A B c') {c c' : Nat} (hc : c < c') (hc' : c' < 2 * (last + 1)) : chd A' B' c ≠ chd A' B' c' := by
  have hl := h.ha
  obtain ⟨o, ho, hin, hsrc⟩ := moved_src h
  have inj2 : ∀ p q, p ≠ q → p < 2 * (last + 1) → q < 2 * (last + 1) → chd A B p ≠ chd A B q := fun p q hne hp hq => by
    rcases Nat.lt_or_ge p q with hh | hh
    · exact hinj p q hh hq
    · exact fun e => hinj q p (by omega) hp e.symm
  have bnd : ∀ p, p < 2 * (last + 1) → chd A B p < n + last := fun p hp => by
    have := h.lt (p / 2) (by omega)
    unfold chd
    split <;> omega
  by_cases e : c' = 2 * last + 1
  · subst e
    have e1 : chd A' B' (2 * last + 1) = n + last - 1 := by
      unfold chd; rw [if_neg (by omega), show (2 * last + 1) / 2 = last by omega]; exact h.r.2
    rw [e1, hsrc c (by omega)]
    have s := src_inj (o := o) (a := a) (last := last) (c := c) (c' := c) |> fun _ => True.intro
    have hs : srcM a last o c < 2 * (last + 1) ∧ srcM a last o c ≠ 2 * last + (1 - o) := by
      unfold srcM
      repeat' split
      all_goals omega
    have b := bnd _ hs.1
    have hne := inj2 _ _ hs.2 hs.1 (by omega)
    rw [hin] at hne
    unfold nm
    split <;> omega
  · rw [hsrc c (by omega), hsrc c' (by omega)]
    obtain ⟨s1, s2, s3, s4, s5⟩ := src_inj (o := o) hl ho hc (by omega)
    have n1 := inj2 _ _ s1 s2 s3
    have n2 := inj2 _ _ s4 s2 (by omega)
    have n3 := inj2 _ _ s5 s3 (by omega)
    rw [hin] at n2 n3
    unfold nm
    split <;> split <;> omega
theorem moved_lt (h : Moved n last a A B A' B' O) {i : Nat} (hi : i < last + 1) : A' i < n + i ∧ B' i < n + i := by
  have hl := h.ha
  by_cases h1 : i < a
  · rw [(h.low i h1).1, (h.low i h1).2]
    have := h.lt i (by omega)
    unfold nm
    constructor <;> split <;> omega
  · by_cases h2 : i + 1 < last
    · rw [(h.up i (by omega) h2).1, (h.up i (by omega) h2).2]
      have := h.lt (i + 1) (by omega)
      have := h.ne (i + 1) (by omega)
      unfold nm
      constructor <;> split <;> omega
    · by_cases h3 : i = last
      · subst h3
        rw [h.r.1, h.r.2]
        have := h.lt a (by omega)
        unfold nm
        constructor
        · split <;> omega
        · omega
      · obtain rfl : i = last - 1 := by omega
        rw [h.x.1, h.x.2]
        have := h.lt a (by omega)
        have hO : O < n + last := by
          have := h.lt last (Nat.le_refl _)
          rcases h.root with r | r <;> omega
        have := h.one
        unfold nm
        constructor <;> split <;> omega
end
end Go.Proofs.Ytcphmeeighhdjaa.Pure
