/- HatLines' plain law: for every number and every list the function tells true, with some number of rounds. No condition. -/
import Derived.Test.YtgjmfehdjbepiaaPF5
import Derived.Test.YtgjmfehdjbepiaaR30
import Derived.Test.YtgjmfehdjbepiaaR26
namespace Go.Proofs.Ytgjmfehdjbepiaa.Pure
open Go Go.Proofs Go.RowKit Go.Proofs.Ytgjmfehdjbepiaa.P Go.Proofs.YtgjmfehdjbepiaaW.PrintWords Go.Proofs.YtgjmfehdjbepiaaW.PrintLast
set_option maxRecDepth 100000

theorem rd_cons (a : Int) (l : List Int) (p : Nat) (hp : p < l.length) : rd (a :: l) ((p + 1 : Nat) : Int) = l[p] := by
  rw [rd_nat (a :: l) (p + 1) (by rw [List.length_cons]; omega)]; rfl
theorem rline_l0 (q h : Int) (hq : ¬ q = 0) (t : List Int) (ht : t.length ≤ 12) (hb : ∀ x ∈ t, 0 ≤ x ∧ x < 4) (m : Nat) : ∀ (p k : Nat) (s : Int), p + m = t.length → 0 ≤ s → s ≤ 4 * (p : Int) →
    woggleref09_Line.l0 (k + m + 1) q (h :: t) s ((p + 1 : Nat) : Int) = woggleref09_Line.l1 k q (h :: t) [Int.tmod (s + (t.drop p).sum) q] 1 := by
  have hn2 : (h :: t).length = t.length + 1 := rfl
  induction m with
  | zero =>
    intro p k s hp _ _
    have l1 : ¬ ((p + 1 : Nat) : Int) < ((h :: t).length : Int) := by rw [hn2]; omega
    rw [woggleref09_Line.l0, if_neg l1, if_neg hq, List.drop_of_length_le (by omega), List.sum_nil, Int.add_zero]
  | succ m ih =>
    intro p k s hp h1 h2
    have hi : p < t.length := by omega
    have hx := hb t[p] (List.getElem_mem hi)
    have l1 : ((p + 1 : Nat) : Int) < ((h :: t).length : Int) := by rw [hn2]; omega
    have l2 : 0 ≤ ((p + 1 : Nat) : Int) := by omega
    have w1 : wrap64 (s + t[p]) = s + t[p] := IntWalk.wrap64_in _ (by omega)
    show woggleref09_Line.l0 (k + m + 1 + 1) q (h :: t) s ((p + 1 : Nat) : Int) = _
    rw [woggleref09_Line.l0, if_pos l1, if_pos l2, rd_cons h t p hi, w1, succ_w (p + 1) (by omega), ih (p + 1) k (s + t[p]) (by omega) (by omega) (by omega),
      List.drop_eq_getElem_cons hi, List.sum_cons, Int.add_assoc]
def rem (t : List Int) (j p : Nat) : Int := ((t.take j).drop p).sum + (t.drop (if p ≤ j then j + 1 else p)).sum
theorem rem_below (t : List Int) (j p : Nat) (hj : j < t.length) (h : p < j) : rem t j p = t[p] + rem t j (p + 1) := by
  unfold rem
  have n1 : (t.take j).length = j := by rw [List.length_take]; omega
  have e : (t.take j)[p]'(by omega) = t[p] := List.getElem_take
  rw [if_pos (by omega), if_pos (by omega), List.drop_eq_getElem_cons (l := t.take j) (i := p) (by omega), List.sum_cons, Int.add_assoc, e]
theorem rem_at (t : List Int) (j : Nat) (hj : j < t.length) : rem t j j = rem t j (j + 1) := by
  unfold rem
  have n1 : (t.take j).length = j := by rw [List.length_take]; omega
  have d1 : (t.take j).drop j = [] := List.drop_of_length_le (by omega)
  have d2 : (t.take j).drop (j + 1) = [] := List.drop_of_length_le (by omega)
  rw [if_pos (by omega), if_neg (by omega), d1, d2]
theorem rem_above (t : List Int) (j p : Nat) (h : j < p) (hp : p < t.length) : rem t j p = t[p] + rem t j (p + 1) := by
  unfold rem
  have n1 : (t.take j).length = j := by rw [List.length_take]; omega
  have d1 : (t.take j).drop p = [] := List.drop_of_length_le (by omega)
  have d2 : (t.take j).drop (p + 1) = [] := List.drop_of_length_le (by omega)
  rw [if_neg (by omega), if_neg (by omega), d1, d2, List.drop_eq_getElem_cons hp, List.sum_cons]
  simp
theorem rem_end (t : List Int) (j p : Nat) (hj : j < t.length) (h : t.length ≤ p) : rem t j p = 0 := by
  unfold rem
  have n1 : (t.take j).length = j := by rw [List.length_take]; omega
  rw [if_neg (by omega), List.drop_of_length_le (by omega), List.drop_of_length_le (by omega)]; rfl
theorem rline_l2 (q h c : Int) (hq : q = 2 ∨ q = 3 ∨ q = 4) (t : List Int) (ht : t.length ≤ 12) (hb : ∀ x ∈ t, 0 ≤ x ∧ x < 4) (j : Nat) (hj : j < t.length) (m : Nat) :
    ∀ (p k : Nat) (r : Int), p + m = t.length → -1000 - 4 * (p : Int) ≤ r → r ≤ 1000 →
    woggleref09_Line.l2 (k + m + 1) q (h :: t) (c :: t.take j) ((j + 1 : Nat) : Int) r ((p + 1 : Nat) : Int) = woggleref09_Line.l1 k q (h :: t) (c :: t.take j ++ [(r - rem t j p) % q]) ((j + 2 : Nat) : Int) := by
  have hn2 : (h :: t).length = t.length + 1 := rfl
  have n1 : (t.take j).length = j := by rw [List.length_take]; omega
  have hn : (c :: t.take j).length = j + 1 := by rw [List.length_cons, n1]
  have hq0 : ¬ q = 0 := by omega
  induction m with
  | zero =>
    intro p k r hp h1 h2
    have l1 : ¬ ((p + 1 : Nat) : Int) < ((h :: t).length : Int) := by rw [hn2]; omega
    have l7 : (c :: t.take j).length < 17592186044416 := by rw [hn]; omega
    have h6 : -q < Int.tmod r q ∧ Int.tmod r q < q := by
      rcases hq with rfl | rfl | rfl
      · exact ⟨Int.lt_tmod_of_pos _ (by omega), Int.tmod_lt_of_pos _ (by omega)⟩
      · exact ⟨Int.lt_tmod_of_pos _ (by omega), Int.tmod_lt_of_pos _ (by omega)⟩
      · exact ⟨Int.lt_tmod_of_pos _ (by omega), Int.tmod_lt_of_pos _ (by omega)⟩
    have w1 : wrap64 (Int.tmod r q + q) = Int.tmod r q + q := IntWalk.wrap64_in _ (by omega)
    rw [woggleref09_Line.l2, if_neg l1, if_neg hq0, if_pos l7, w1, tm r q hq, succ_w (j + 1) (by omega), rem_end t j p hj (by omega), Int.sub_zero]
  | succ m ih =>
    intro p k r hp h1 h2
    have hi : p < t.length := by omega
    have hx := hb t[p] (List.getElem_mem hi)
    have l1 : ((p + 1 : Nat) : Int) < ((h :: t).length : Int) := by rw [hn2]; omega
    have l2 : 0 ≤ ((p + 1 : Nat) : Int) := by omega
    have w1 : wrap64 (r - t[p]) = r - t[p] := IntWalk.wrap64_in _ (by omega)
    show woggleref09_Line.l2 (k + m + 1 + 1) q (h :: t) (c :: t.take j) ((j + 1 : Nat) : Int) r ((p + 1 : Nat) : Int) = _
    rw [woggleref09_Line.l2, if_pos l1]
    rcases Nat.lt_trichotomy p j with hpj | hpj | hpj
    · have l3 : ((p + 1 : Nat) : Int) < ((j + 1 : Nat) : Int) := by omega
      have l4 : ((p + 1 : Nat) : Int) < ((c :: t.take j).length : Int) := by rw [hn]; omega
      have l5 : ¬ ((p + 1 : Nat) : Int) > ((j + 1 : Nat) : Int) := by omega
      have e : (t.take j)[p]'(by omega) = t[p] := List.getElem_take
      rw [if_pos l3, if_pos l2, if_pos l4, if_neg l5, rd_cons c (t.take j) p (by omega), e, w1, succ_w (p + 1) (by omega), ih (p + 1) k (r - t[p]) (by omega) (by omega) (by omega), rem_below t j p hj hpj]
      rw [show r - (t[p] + rem t j (p + 1)) = r - t[p] - rem t j (p + 1) by omega]
    · subst hpj
      have l3 : ¬ ((p + 1 : Nat) : Int) < ((p + 1 : Nat) : Int) := by omega
      have l5 : ¬ ((p + 1 : Nat) : Int) > ((p + 1 : Nat) : Int) := by omega
      rw [if_neg l3, if_neg l5, succ_w (p + 1) (by omega), ih (p + 1) k r (by omega) (by omega) (by omega), rem_at t p hj]
    · have l3 : ¬ ((p + 1 : Nat) : Int) < ((j + 1 : Nat) : Int) := by omega
      have l5 : ((p + 1 : Nat) : Int) > ((j + 1 : Nat) : Int) := by omega
      rw [if_neg l3, if_pos l5, if_pos l2, rd_cons h t p hi, w1, succ_w (p + 1) (by omega), ih (p + 1) k (r - t[p]) (by omega) (by omega) (by omega), rem_above t j p hpj hi]
      rw [show r - (t[p] + rem t j (p + 1)) = r - t[p] - rem t j (p + 1) by omega]
theorem rline_l1 (q h : Int) (hq : q = 2 ∨ q = 3 ∨ q = 4) (t : List Int) (ht : t.length ≤ 12) (hb : ∀ x ∈ t, 0 ≤ x ∧ x < q) (m : Nat) : ∀ (j k : Nat), j + m = t.length →
    woggleref09_Line.l1 (k + m * (t.length + 2) + 1) q (h :: t) (t.sum % q :: t.take j) ((j + 1 : Nat) : Int) = some (t.sum % q :: t) := by
  have hn2 : (h :: t).length = t.length + 1 := rfl
  have hb4 : ∀ x ∈ t, 0 ≤ x ∧ x < 4 := fun x hx => by have := hb x hx; omega
  have h5 : 0 ≤ t.sum % q ∧ t.sum % q < 4 := ⟨Int.emod_nonneg _ (by omega), by have := Int.emod_lt_of_pos t.sum (b := q) (by omega); omega⟩
  induction m with
  | zero =>
    intro j k hj
    have l1 : ¬ ((j + 1 : Nat) : Int) < ((h :: t).length : Int) := by rw [hn2]; clear h5; omega
    rw [woggleref09_Line.l1, if_neg l1, List.take_of_length_le (by clear h5; omega)]
  | succ m ih =>
    intro j k hj
    have hi : j < t.length := by clear h5; omega
    have n1 : (t.take j).length = j := by rw [List.length_take]; clear h5; omega
    have l1 : ((j + 1 : Nat) : Int) < ((h :: t).length : Int) := by rw [hn2]; clear h5; omega
    have l2 : 0 < ((t.sum % q :: t.take j).length : Int) := by rw [List.length_cons, n1]; clear h5; omega
    have e : k + (m + 1) * (t.length + 2) + 1 = (k + m * (t.length + 2) + 1) + t.length + 1 + 1 := by rw [Nat.succ_mul]; clear h5; omega
    have hrd : rd (t.sum % q :: t.take j) 0 = t.sum % q := rfl
    have hl2 := rline_l2 q h (t.sum % q) hq t ht hb4 j hi t.length 0 (k + m * (t.length + 2) + 1) (t.sum % q) (by clear h5; omega) (by omega) (by omega)
    have hr : (t.sum % q - rem t j 0) % q = t[j] := by
      have := line_step q hq t j hi hb
      unfold rem
      rw [if_pos (Nat.zero_le _), List.drop_zero, ← Int.sub_sub]; exact this
    rw [e, woggleref09_Line.l1, if_pos l1, if_pos l2, hrd]
    refine hl2.trans ?_
    rw [hr, List.cons_append, take_snoc t j hi]
    exact ih (j + 1) k (by clear h5; omega)
/-- ref.Line at good hats. -/
theorem rline_good (q : Int) (hq : q = 2 ∨ q = 3 ∨ q = 4) (h : Int) (t : List Int) (ht : t.length ≤ 12) (hb : ∀ x ∈ t, 0 ≤ x ∧ x < q) (k : Nat) :
    woggleref09_Line.f (k + 200) q (h :: t) = some (t.sum % q :: t) := by
  have hb4 : ∀ x ∈ t, 0 ≤ x ∧ x < 4 := fun x hx => by have := hb x hx; omega
  have hs := sum_bound q (by omega) t hb
  have hm : t.length * (t.length + 2) ≤ 12 * 14 := Nat.mul_le_mul ht (by omega)
  unfold woggleref09_Line.f
  obtain ⟨k', hk⟩ : ∃ k', k + 200 = (k' + t.length * (t.length + 2) + 1) + t.length + 1 := ⟨k + 200 - (t.length * (t.length + 2) + 1 + t.length + 1), by omega⟩
  rw [hk]
  have h0 := rline_l0 q h (by omega) t ht hb4 t.length 0 (k' + t.length * (t.length + 2) + 1) 0 (by omega) (by omega) (by omega)
  refine h0.trans ?_
  rw [List.drop_zero, Int.zero_add, Int.tmod_eq_emod_of_nonneg hs.1]
  have h1 := rline_l1 q h hq t ht hb t.length 0 k' (by omega)
  rw [List.take_zero] at h1
  exact h1
theorem lines_end (k : Nat) (hk : 40 ≤ k) (a e : Int) (y : List Int) (he : ¬ e = 0) : wogglelaw09_HatLines.j1 (k + 1) a y [] e e = some true := by
  rw [wogglelaw09_HatLines.j1, if_neg he, if_pos (by rfl), if_pos rfl, lives_k k hk]; rfl
theorem decide_len (y : List Int) : (((y.length : Int) == (y.length : Int)) = true) := by simp
theorem lines_core (a : Int) (y : List Int) (hy : y.length ≤ 13) : ((hat_Line.f 300 a y).bind fun bt384 => (if a < 2 then (wogglelaw09_HatLines.j0 300 a y bt384.1 bt384.2 0 true) else (wogglelaw09_HatLines.j0 300 a y bt384.1 bt384.2 0 (decide (a > 4))))) = some true := by
  by_cases ha : a < 2
  · have hL : hat_Line.f 300 a y = some ([], 1) := by unfold hat_Line.f; rw [if_pos ha]; rfl
    rw [hL, Option.bind_some, if_pos ha, wogglelaw09_HatLines.j0, if_pos rfl]
    exact lines_end 298 (by omega) a 1 y (by omega)
  by_cases ha4 : a > 4
  · have hL : hat_Line.f 300 a y = some ([], 1) := by unfold hat_Line.f; rw [if_neg ha, decide_eq_true ha4]; rfl
    rw [hL, Option.bind_some, if_neg ha, decide_eq_true ha4, wogglelaw09_HatLines.j0, if_pos rfl]
    exact lines_end 298 (by omega) a 1 y (by omega)
  have hq : a = 2 ∨ a = 3 ∨ a = 4 := by omega
  have hHats : woggleref09_Hats.f 299 y.length a y = some (!(y.any (outside a))) := by
    rw [hats_f _ _ (by omega) y (by omega) 299 (by omega), all_inB, decide_len]; simp
  by_cases hn : 1 ≤ y.length ∧ y.length ≤ 12
  · by_cases hb : y.any (outside a) = true
    · have hv : hat_valid.f 2 y 0 a = some false := by unfold hat_valid.f; rw [if_neg (by omega), if_pos rfl, if_pos hn, hb]; rfl
      have hL : hat_Line.f 300 a y = some ([], 2) := by unfold hat_Line.f; rw [if_neg ha, decide_eq_false ha4, hat_Line.j0, if_neg (by decide), hv]; rfl
      rw [hL, Option.bind_some, if_neg ha, decide_eq_false ha4, wogglelaw09_HatLines.j0, if_neg (by decide), if_neg (by omega), if_neg (by omega), hHats, hb, Option.bind_some, if_neg (by decide)]
      exact lines_end 298 (by omega) a 2 y (by omega)
    · rw [Bool.not_eq_true] at hb
      obtain ⟨h, t, rfl⟩ : ∃ h t, y = h :: t := by
        cases y with
        | nil => simp at hn
        | cons h t => exact ⟨h, t, rfl⟩
      have hn2 : (h :: t).length = t.length + 1 := rfl
      have hall : ∀ x ∈ h :: t, 0 ≤ x ∧ x < a := fun x hx => by
        have : outside a x = false := by
          rw [Bool.eq_false_iff]; intro hh
          rw [List.any_eq_true.2 ⟨x, hx, hh⟩] at hb; cases hb
        unfold outside at this
        simp at this; omega
      have ht : t.length ≤ 11 := by omega
      have hL := line_good a hq h t ht hall 300 (by omega)
      have hR := rline_good a hq h t (by omega) (fun x hx => hall x (List.mem_cons_of_mem _ hx)) 98
      have hS := same_self (t.sum % a :: t) (by rw [List.length_cons]; omega) 298 (by rw [List.length_cons]; omega)
      rw [hL, Option.bind_some, if_neg ha, decide_eq_false ha4, wogglelaw09_HatLines.j0, if_neg (by decide), if_neg (by omega), if_neg (by omega), hHats, hb, Option.bind_some, if_pos (by decide),
        wogglelaw09_HatLines.j1, if_pos rfl, hR, Option.bind_some]
      show ((woggleref01_Same.f 298 (t.sum % a :: t) (t.sum % a :: t)).bind _) = _
      rw [hS, Option.bind_some, if_pos rfl, if_pos rfl, lives_k 298 (by omega)]; rfl
  · have hv : hat_valid.f 2 y 0 a = some false := by unfold hat_valid.f; rw [if_neg (by omega), if_pos rfl, if_neg hn]
    have hL : hat_Line.f 300 a y = some ([], 2) := by unfold hat_Line.f; rw [if_neg ha, decide_eq_false ha4, hat_Line.j0, if_neg (by decide), hv]; rfl
    rw [hL, Option.bind_some, if_neg ha, decide_eq_false ha4, wogglelaw09_HatLines.j0, if_neg (by decide)]
    by_cases h1 : (y.length : Int) < 1
    · rw [if_pos h1]; exact lines_end 298 (by omega) a 2 y (by omega)
    · rw [if_neg h1, if_pos (by omega)]; exact lines_end 298 (by omega) a 2 y (by omega)
theorem HatLines : wogglelaw09_HatLines.Pure := by
  intro a l _ hl _ _
  refine ⟨300, ?_⟩
  have h1 : 0 ≤ mn (l.length : Int) 13 ∧ mn (l.length : Int) 13 ≤ l.length ∧ mn (l.length : Int) 13 ≤ 13 := by unfold mn; split <;> omega
  have h2 : (l.take (mn (l.length : Int) 13).toNat).length ≤ 13 := by rw [List.length_take]; omega
  unfold wogglelaw09_HatLines.f
  rw [Option.bind_some, if_pos h1.1, if_pos h1.2.1, if_pos (by simp only [List.length_nil]; omega), Option.bind_some, List.nil_append]
  exact lines_core a _ h2

end Go.Proofs.Ytgjmfehdjbepiaa.Pure
