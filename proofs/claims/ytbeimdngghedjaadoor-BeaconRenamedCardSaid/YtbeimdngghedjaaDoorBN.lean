/- Plain facts on graphs: what read makes of a list of edges is a metric; who resolves, who doubly resolves; the search finds. -/
import Derived.Test.YtbeimdngghedjaaDoorBT
namespace Go.Proofs.YtbeimdngghedjaaDoor.Pure
open Go Go.Proofs Go.RowKit Go.Proofs.YtbeimdngghedjaaDoor.P Go.Proofs.YtbeimdngghedjaaDoorW.PrintWords Go.Proofs.YtbeimdngghedjaaDoorW.PrintLast
set_option linter.unusedVariables false

theorem snoc_ind {α : Type} {P : List α → Prop} (h0 : P []) (h1 : ∀ l x, P l → P (l ++ [x])) (l : List α) : P l := by
  have : ∀ r : List α, P r.reverse := by
    intro r
    induction r with
    | nil => exact h0
    | cons x r ih => rw [List.reverse_cons]; exact h1 _ _ ih
  simpa using this l.reverse
theorem updE_iff {E : Nat → Nat → Bool} {i j a b : Nat} : GM.updE E i j a b = true ↔ (a = i ∧ b = j) ∨ E a b = true := by
  unfold GM.updE
  by_cases h : a = i ∧ b = j
  · rw [if_pos h]; simp [h]
  · rw [if_neg h]; simp [h]
theorem edE_iff (l : List S47) (i j : Nat) : edE l i j = true ↔ ∃ e ∈ l, (i = e.f0.toNat ∧ j = e.f1.toNat) ∨ (i = e.f1.toNat ∧ j = e.f0.toNat) := by
  induction l using snoc_ind with
  | h0 => simp [edE, noE]
  | h1 l x ih =>
    rw [edE_snoc, updE_iff, updE_iff, ih]
    constructor
    · rintro (h | h | ⟨e, he, h⟩)
      · exact ⟨x, by simp, .inr h⟩
      · exact ⟨x, by simp, .inl h⟩
      · exact ⟨e, by simp [he], h⟩
    · rintro ⟨e, he, h⟩
      rcases List.mem_append.1 he with he | he
      · exact .inr (.inr ⟨e, he, h⟩)
      · obtain rfl := List.mem_singleton.1 he
        rcases h with h | h
        · exact .inr (.inl h)
        · exact .inl h
theorem edE_sym (l : List S47) (i j : Nat) : edE l i j = edE l j i := by
  rw [Bool.eq_iff_iff, edE_iff, edE_iff]
  constructor <;> rintro ⟨e, he, h⟩ <;> exact ⟨e, he, by omega⟩
theorem edE_irr {l : List S47} (h : ∀ e ∈ l, e.f0.toNat ≠ e.f1.toNat) (i : Nat) : edE l i i = false := by
  cases hE : edE l i i with
  | false => rfl
  | true =>
    obtain ⟨e, he, h1⟩ := (edE_iff l i i).1 hE
    exact absurd (show e.f0.toNat = e.f1.toNat by omega) (h e he)
theorem edM_start (n : Nat) {l : List S47} (h : ∀ e ∈ l, e.f0.toNat ≠ e.f1.toNat) : edM n l = P.start n (edE l) := by
  induction l using snoc_ind with
  | h0 => funext i j; simp [edM, edE, noE, P.start, initM]
  | h1 l x ih =>
    rw [edM_snoc, edE_snoc, ih (fun e he => h e (by simp [he]))]
    have hx := h x (by simp)
    funext i j
    unfold upd P.start
    by_cases h1 : i = x.f1.toNat ∧ j = x.f0.toNat
    · rw [if_pos h1, if_pos (updE_iff.2 (.inl h1))]
    · rw [if_neg h1]
      by_cases h2 : i = x.f0.toNat ∧ j = x.f1.toNat
      · rw [if_pos h2, if_pos (updE_iff.2 (.inr (updE_iff.2 (.inl h2))))]
      · rw [if_neg h2]
        by_cases h3 : edE l i j = true
        · rw [if_pos h3, if_pos (updE_iff.2 (.inr (updE_iff.2 (.inr h3))))]
        · rw [if_neg h3, if_neg (fun h => (updE_iff.1 h).elim h1 fun h => (updE_iff.1 h).elim h2 h3)]
theorem edOk_ne {n : Nat} {l : List S47} (h : l.all (edOk n) = true) : ∀ e ∈ l, e.f0.toNat ≠ e.f1.toNat ∧ e.f0.toNat < n ∧ e.f1.toNat < n ∧ 0 ≤ e.f0 ∧ 0 ≤ e.f1 := by
  intro e he
  obtain ⟨h1, h2, h3, h4, h5⟩ := edOk_parts (a := e.f0) (b := e.f1) (List.all_eq_true.1 h e he)
  omega
theorem final_ok {n : Nat} (hn : 1 ≤ n) {l : List S47} (h : l.all (edOk n) = true) : FlOk n (edE l) n (finalM n l) := by
  unfold finalM
  rw [edM_start n (fun e he => (edOk_ne h e he).1)]
  exact floyd_ok n (edE l) hn (edE_irr fun e he => (edOk_ne h e he).1)
/-! ### The greatest and the least -/
theorem mx_ge (a b : Int) : a ≤ mx a b ∧ b ≤ mx a b := by unfold mx; split <;> omega
theorem mn_le (a b : Int) : mn a b ≤ a ∧ mn a b ≤ b := by unfold mn; split <;> omega
theorem mx_or (a b : Int) : mx a b = a ∨ mx a b = b := by unfold mx; split <;> simp
theorem mn_or (a b : Int) : mn a b = a ∨ mn a b = b := by unfold mn; split <;> simp
theorem maxTo_ge (l : List Int) : ∀ t, t ≤ l.length → ∀ i, i < t → rd l i ≤ maxTo l t
  | 0, _, i, hi => by omega
  | t + 1, ht, i, hi => by
    rw [maxTo_succ l t (by omega)]
    by_cases e : i = t
    · subst e; exact (mx_ge _ _).2
    · exact Int.le_trans (maxTo_ge l t (by omega) i (by omega)) (mx_ge _ _).1
theorem minTo_le (l : List Int) : ∀ t, t ≤ l.length → ∀ i, i < t → minTo l t ≤ rd l i
  | 0, _, i, hi => by omega
  | t + 1, ht, i, hi => by
    rw [minTo_succ l t (by omega)]
    by_cases e : i = t
    · subst e; exact (mn_le _ _).2
    · exact Int.le_trans (mn_le _ _).1 (minTo_le l t (by omega) i (by omega))
theorem maxTo_mem (l : List Int) : ∀ t, t ≤ l.length → 0 < t → ∃ i, i < t ∧ maxTo l t = rd l i
  | 0, _, h => by omega
  | t + 1, ht, _ => by
    rw [maxTo_succ l t (by omega)]
    rcases mx_or (maxTo l t) (rd l t) with h | h
    · by_cases h0 : t = 0
      · subst h0; exact ⟨0, by omega, by rw [h]; rfl⟩
      · obtain ⟨i, hi, e⟩ := maxTo_mem l t (by omega) (by omega)
        exact ⟨i, by omega, by rw [h, e]⟩
    · exact ⟨t, by omega, h⟩
theorem minTo_mem (l : List Int) : ∀ t, t ≤ l.length → 0 < t → ∃ i, i < t ∧ minTo l t = rd l i
  | 0, _, h => by omega
  | t + 1, ht, _ => by
    rw [minTo_succ l t (by omega)]
    rcases mn_or (minTo l t) (rd l t) with h | h
    · by_cases h0 : t = 0
      · subst h0; exact ⟨0, by omega, by rw [h]; rfl⟩
      · obtain ⟨i, hi, e⟩ := minTo_mem l t (by omega) (by omega)
        exact ⟨i, by omega, by rw [h, e]⟩
    · exact ⟨t, by omega, h⟩
theorem rd_map (n : Nat) (f : Nat → Int) (i : Nat) (hi : i < n) : rd ((List.range n).map f) (i : Int) = f i := by unfold rd; simp [hi]
theorem rowMax_iff {n : Nat} (hn : 1 ≤ n) (l : List S47) (b : Int) : rowMax n l < b ↔ ∀ j, j < n → finalM n l 0 j < b := by
  unfold rowMax
  constructor
  · intro h j hj
    have := maxTo_ge ((List.range n).map (finalM n l 0)) n (by simp) j hj
    rw [rd_map n _ j hj] at this
    omega
  · intro h
    obtain ⟨i, hi, e⟩ := maxTo_mem ((List.range n).map (finalM n l 0)) n (by simp) (by omega)
    rw [e, rd_map n _ i hi]
    exact h i hi
/-- A connected graph with its distances. -/
structure Met (n : Nat) (E : Nat → Nat → Bool) (M : Mt) : Prop where
  n1 : 1 ≤ n
  n10 : n ≤ 10
  fl : FlOk n E n M
  es : ∀ i j, E i j = E j i
  lt : ∀ a b, a < n → b < n → M a b < n
  bd : Bd n M
namespace Met
variable {n : Nat} {E : Nat → Nat → Bool} {M : Mt}
theorem pos (h : Met n E M) {a b : Nat} (ha : a < n) (hb : b < n) : 0 ≤ M a b := h.fl.pos a b ha hb
theorem self (h : Met n E M) {a : Nat} (ha : a < n) : M a a = 0 := h.fl.diag a ha
theorem sym (h : Met n E M) {a b : Nat} (ha : a < n) (hb : b < n) : M a b = M b a := h.fl.sym h.es a b ha hb
theorem tri (h : Met n E M) {a b c : Nat} (ha : a < n) (hb : b < n) (hc : c < n) : M a c ≤ M a b + M b c := h.fl.tri b a c hb hb ha hc
theorem zero (h : Met n E M) {a b : Nat} (ha : a < n) (hb : b < n) (h0 : M a b = 0) : a = b := by
  have := h.fl.wk a b ha hb (h.lt a b ha hb)
  rw [h0] at this
  exact this
theorem ne (h : Met n E M) {a b : Nat} (ha : a < n) (hb : b < n) (hab : a ≠ b) : 1 ≤ M a b := by
  have := h.pos ha hb
  have : M a b ≠ 0 := fun e => hab (h.zero ha hb e)
  omega
end Met
theorem readOk_parts {n : Int} {l : List S47} (h : readOk n l = true) : ∃ N : Nat, n = N ∧ 1 ≤ N ∧ N ≤ 10 ∧ l.length ≤ 60 ∧ l.all (edOk N) = true ∧ rowMax N l < N := by
  unfold readOk at h
  simp only [Bool.and_eq_true, decide_eq_true_eq] at h
  obtain ⟨⟨⟨⟨h1, h2⟩, h3⟩, h4⟩, h5⟩ := h
  exact ⟨n.toNat, by omega, by omega, by omega, h3, h4, by omega⟩
theorem met_of {n : Nat} {l : List S47} (h : readOk (n : Int) l = true) : Met n (edE l) (finalM n l) := by
  obtain ⟨N, e, h1, h2, h3, h4, h5⟩ := readOk_parts h
  obtain rfl : n = N := by omega
  have hf := final_ok h1 h4
  rw [rowMax_iff h1] at h5
  have w0 : ∀ a, a < n → ∃ r, Wk n (edE l) r 0 a := fun a ha => ⟨_, hf.wk 0 a (by omega) ha (h5 a ha)⟩
  refine ⟨h1, h2, hf, edE_sym l, fun a b ha hb => ?_, finalM_bd h1 l⟩
  obtain ⟨r, hr⟩ := w0 a ha
  obtain ⟨s, hs⟩ := w0 b hb
  exact hf.reach _ a b ha hb ((hr.rev (edE_sym l) (by omega)).cat hs)
theorem readOk_mk {n : Nat} {l : List S47} (h1 : 1 ≤ n) (h2 : n ≤ 10) (h3 : l.length ≤ 60) (h4 : l.all (edOk n) = true) (h5 : ∀ j, j < n → ∃ r, Wk n (edE l) r 0 j) : readOk (n : Int) l = true := by
  unfold readOk
  simp only [Bool.and_eq_true, decide_eq_true_eq, Int.toNat_natCast]
  refine ⟨⟨⟨⟨by omega, by omega⟩, h3⟩, h4⟩, (rowMax_iff h1 l n).2 fun j hj => ?_⟩
  obtain ⟨r, hr⟩ := h5 j hj
  exact (final_ok h1 h4).reach r 0 j (by omega) hj hr
/-! ### Who resolves -/
section
variable {n : Nat} {E : Nat → Nat → Bool} {M : Mt} {m : List Int}
theorem codeL_eq (x y : Nat) : codeL M x m = codeL M y m ↔ ∀ a ∈ m, M x a.toNat = M y a.toNat := by
  unfold codeL
  exact List.map_inj_left
theorem mem_full {n x : Nat} (h : x < n) : (x : Int) ∈ fullL n := List.mem_map.2 ⟨x, by simpa using h, rfl⟩
theorem res_full (h : Met n E M) : resP n M (fullL n) = true := by
  rw [resP_iff]
  intro x y hxy hy e
  have := (codeL_eq x y).1 e (x : Int) (mem_full (by omega))
  rw [Int.toNat_natCast, h.self (by omega)] at this
  have := h.zero (a := y) (b := x) hy (by omega) this.symm
  omega
theorem difL_rd (u v i : Nat) (hi : i < m.length) : rd (difL M u v m) (i : Int) = M u m[i].toNat - M v m[i].toNat := by unfold difL rd; simp [hi]
theorem sep_iff (u v : Nat) : sepP M u v m = true ↔ ∃ a ∈ m, ∃ b ∈ m, M u a.toNat - M v a.toNat ≠ M u b.toNat - M v b.toNat := by
  unfold sepP
  have hl := difL_len (M := M) (m := m) u v
  constructor
  · intro h
    by_cases h2 : m.length < 2
    · rw [if_pos h2] at h; cases h
    · rw [if_neg h2] at h
      by_cases h3 : minTo (difL M u v m) m.length = maxTo (difL M u v m) m.length
      · rw [if_pos h3] at h; cases h
      · obtain ⟨i, hi, ei⟩ := minTo_mem (difL M u v m) m.length (by omega) (by omega)
        obtain ⟨j, hj, ej⟩ := maxTo_mem (difL M u v m) m.length (by omega) (by omega)
        rw [difL_rd u v i hi] at ei
        rw [difL_rd u v j hj] at ej
        exact ⟨m[i], List.getElem_mem hi, m[j], List.getElem_mem hj, by omega⟩
  · rintro ⟨a, ha, b, hb, hne⟩
    obtain ⟨i, hi, rfl⟩ := List.getElem_of_mem ha
    obtain ⟨j, hj, rfl⟩ := List.getElem_of_mem hb
    have hij : i ≠ j := fun e => by subst e; exact hne rfl
    rw [if_neg (by omega), if_neg]
    intro e
    have a1 := minTo_le (difL M u v m) m.length (by omega) i hi
    have a2 := minTo_le (difL M u v m) m.length (by omega) j hj
    have b1 := maxTo_ge (difL M u v m) m.length (by omega) i hi
    have b2 := maxTo_ge (difL M u v m) m.length (by omega) j hj
    rw [difL_rd u v i hi] at a1 b1
    rw [difL_rd u v j hj] at a2 b2
    omega
theorem dblP_iff : dblP n M m = true ↔ ∀ u v, v < u → u < n → sepP M u v m = true := by
  unfold dblP
  rw [List.all_eq_true]
  constructor
  · intro h u v hv hu
    have := h u (by simpa using hu)
    rw [List.all_eq_true] at this
    exact this v (by simpa using hv)
  · intro h u hu
    rw [List.all_eq_true]
    exact fun v hv => h u v (by simpa using hv) (by simpa using hu)
theorem dbl_full (h : Met n E M) : dblP n M (fullL n) = true := by
  rw [dblP_iff]
  intro u v hv hu
  rw [sep_iff]
  refine ⟨(u : Int), mem_full hu, (v : Int), mem_full (by omega), ?_⟩
  rw [Int.toNat_natCast, Int.toNat_natCast, h.self hu, h.self (a := v) (by omega), h.sym (a := v) (b := u) (by omega) hu]
  have := h.ne (a := u) (b := v) hu (by omega) (by omega)
  omega
theorem res_of_dbl (hd : dblP n M m = true) : resP n M m = true := by
  rw [resP_iff]
  intro x y hxy hy e
  rw [codeL_eq] at e
  obtain ⟨a, ha, b, hb, hne⟩ := (sep_iff y x).1 ((dblP_iff.1 hd) y x hxy hy)
  have := e a ha; have := e b hb
  omega
end
theorem basis_ex {n : Nat} {l : List S47} (h : readOk (n : Int) l = true) : ∃ r, beacon_Basis.f n l = some (r, 0) ∧ resP n (finalM n l) r = true ∧ Ris n 0 r ∧ ∀ s, Ris n 0 s → resP n (finalM n l) s = true → r.length ≤ s.length := by
  have hm := met_of h
  obtain ⟨r, hr⟩ := small_ex hm.n10 (res_full hm)
  refine ⟨r, ?_, smallF_least hr⟩
  unfold beacon_Basis.f
  rw [if_pos h, Int.toNat_natCast, hr]; rfl
theorem double_ex {n : Nat} {l : List S47} (h : readOk (n : Int) l = true) : ∃ r, beacon_Double.f n l = some (r, 0) ∧ dblP n (finalM n l) r = true ∧ Ris n 0 r ∧ ∀ s, Ris n 0 s → dblP n (finalM n l) s = true → r.length ≤ s.length := by
  have hm := met_of h
  obtain ⟨r, hr⟩ := small_ex hm.n10 (dbl_full hm)
  refine ⟨r, ?_, smallF_least hr⟩
  unfold beacon_Double.f
  rw [if_pos h, Int.toNat_natCast, hr]; rfl
theorem ris_mem {n : Int} : ∀ {lo : Int} {s : List Int}, 0 ≤ lo → Ris n lo s → ∀ x ∈ s, lo ≤ x ∧ x < n
  | _, [], _, _, x, hx => by cases hx
  | lo, y :: s, h0, ⟨h1, h2, h3⟩, x, hx => by
    rcases List.mem_cons.1 hx with rfl | hx
    · exact ⟨h1, h2⟩
    · have := ris_mem (lo := y + 1) (by omega) h3 x hx
      omega
theorem ris_len {n : Int} : ∀ {lo : Int} {s : List Int}, Ris n lo s → lo ≤ n → (s.length : Int) ≤ n - lo
  | _, [], _, h => by simp; omega
  | lo, y :: s, ⟨h1, h2, h3⟩, _ => by
    have := ris_len h3 (by omega)
    simp only [List.length_cons]
    omega
end Go.Proofs.YtbeimdngghedjaaDoor.Pure
