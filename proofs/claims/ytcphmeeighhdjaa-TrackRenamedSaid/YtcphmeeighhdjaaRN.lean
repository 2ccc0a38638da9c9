/- Plain facts: the reference's cost of a labeling, and copies of rows. -/
import Derived.Test.YtcphmeeighhdjaaPF42
import Derived.Test.YtcphmeeighhdjaaPF26
import Derived.Test.YtcphmeeighhdjaaRL
import Derived.Test.YtcphmeeighhdjaaRF
namespace Go.Proofs.Ytcphmeeighhdjaa.Pure
open Go Go.Proofs Go.RowKit Go.Proofs.Ytcphmeeighhdjaa.P Go.Proofs.YtcphmeeighhdjaaW.PrintWords Go.Proofs.YtcphmeeighhdjaaW.PrintLast
set_option linter.unusedVariables false

theorem rows_ev (y : List (List Int)) (h : y.length ≤ maxLen ∧ ∀ x ∈ y, x.length ≤ maxLen) : Ev (fun k => wogglelaw02_rows.f k y) ((y.take 9).map (fun x => x.take 9)) := by
  unfold wogglelaw02_rows.f
  have hm : maxLen = 9223372036854775807 := rfl
  have hy := h.1
  rw [hm] at hy
  have key := up_ind (fun i => Ev (fun k => wogglelaw02_rows.l0 k y ((y.take i).map (fun x => x.take 9)) (i : Int)) ((y.take 9).map (fun x => x.take 9))) (min y.length 9) ?_ ?_
  · exact key
  · refine Ev.step (f := fun _ => some ((y.take 9).map (fun x => x.take 9))) (fun k => ?_) (Ev.now _)
    simp only [wogglelaw02_rows.l0]
    by_cases c : y.length ≤ 9
    · rw [Nat.min_eq_left c, if_neg (Int.lt_irrefl _), List.take_of_length_le (Nat.le_refl _), List.take_of_length_le c]
    · rw [Nat.min_eq_right (by omega), if_pos (show ((9 : Nat) : Int) < y.length by omega), if_neg (show ¬ ((9 : Nat) : Int) ≤ 8 by decide)]
  · intro i hi ih
    have hi1 : i < y.length := by omega
    have p1 : (i : Int) < y.length := by omega
    have p2 : (0 : Int) ≤ i := by omega
    have p3 : (i : Int) ≤ 8 := by omega
    have hl : ((y.take i).map (fun x => x.take 9)).length < 5864062014805 := by rw [List.length_map, List.length_take]; omega
    refine Ev.step (fun k => ?_) ih
    simp only [wogglelaw02_rows.l0, hl, if_true]
    rw [if_pos p1, if_pos p3, if_pos p2, rd_L3_nat y i hi1, cut_f _ (h.2 _ (List.getElem_mem hi1)), succ_w i (by omega), take_up y i hi1, List.map_append]
    rfl
section
variable {n : Nat} {J : List S67} {C : List (List Int)} {L : List Int}
theorem rd_app_l (l r : List Int) (v : Nat) (h : v < l.length) : rd (l ++ r) v = rd l v := by
  unfold rd; rw [Int.toNat_natCast, List.getD_eq_getElem?_getD, List.getD_eq_getElem?_getD, List.getElem?_append_left h]
theorem rd_app_r (l r : List Int) (v : Nat) (h : l.length ≤ v) : rd (l ++ r) v = rd r ((v - l.length : Nat) : Int) := by
  unfold rd; rw [Int.toNat_natCast, Int.toNat_natCast, List.getD_eq_getElem?_getD, List.getD_eq_getElem?_getD, List.getElem?_append_right h]
theorem all_rd (hs : StatesOk n C.length L) (F : List Int) (hl : F.length = J.length) (hF : ∀ i, i < J.length → 0 ≤ rd F i ∧ rd F i < C.length) (v : Nat) (hv : v < n + J.length) :
    rd (L ++ F) v = ((TT.st n (lOf L) (xOf F) v : Nat) : Int) ∧ TT.st n (lOf L) (xOf F) v < C.length := by
  have hL : L.length = n := by have := hs.2; omega
  unfold TT.st
  by_cases c : v < n
  · rw [if_pos c, rd_app_l _ _ _ (by omega)]
    have := hs.1 _ (List.getElem_mem (show v < L.length by omega))
    unfold lOf
    rw [rd_nat L v (by omega)]
    omega
  · rw [if_neg c, rd_app_r _ _ _ (by omega), hL]
    have := hF (v - n) (by omega)
    unfold xOf
    omega
theorem row_len (hc : CostsOk C) (a : Nat) (ha : a < C.length) : (rd_L3 C a).length = C.length := by
  rw [rd_L3_nat C a ha]; exact (hc.1 _ (List.getElem_mem ha)).1
theorem total_bd (ht : TreeOk n J) (hc : CostsOk C) (hs : StatesOk n C.length L) (F : List Int) (hl : F.length = J.length) (hF : ∀ i, i < J.length → 0 ≤ rd F i ∧ rd F i < C.length) (m : Nat) (hm : m ≤ J.length) :
    0 ≤ TT.total n (aOf J) (bOf J) (cOf C) (lOf L) (xOf F) m ∧ TT.total n (aOf J) (bOf J) (cOf C) (lOf L) (xOf F) m ≤ 200 * m := by
  induction m with
  | zero => simp [TT.total]
  | succ m ih =>
    have i := ih (by omega)
    obtain ⟨⟨a0, a1, _⟩, b0, b1, _⟩ := ht.2.2.2 m (by omega)
    have h1 := (all_rd hs F hl hF (aOf J m) (by unfold aOf; omega)).2
    have h2 := (all_rd hs F hl hF (bOf J m) (by unfold bOf; omega)).2
    have h3 := hF m (by omega)
    have hx : xOf F m < C.length := by unfold xOf; omega
    have c1 := costs_of hc _ _ hx h1
    have c2 := costs_of hc _ _ hx h2
    simp only [TT.total, TT.edge]
    omega
theorem wsum (a b c : Int) (h : 0 ≤ a ∧ a ≤ 100000) (h1 : 0 ≤ b ∧ b ≤ 100) (h2 : 0 ≤ c ∧ c ≤ 100) : wrap64 (a + wrap64 (b + c)) = a + (b + c) := by
  have e : wrap64 (b + c) = b + c := w64 _ (by omega) (by omega)
  rw [e]
  exact w64 _ (by omega) (by omega)
theorem wnm (n m : Nat) (h1 : n ≤ 8) (h2 : m ≤ 8) : wrap64 ((n : Int) + (m : Int)) = ((n + m : Nat) : Int) := by
  rw [w64 _ (by omega) (by omega)]; rfl
theorem cost_ev (ht : TreeOk n J) (hc : CostsOk C) (hs : StatesOk n C.length L) (F : List Int) (hl : F.length = J.length) (hF : ∀ i, i < J.length → 0 ≤ rd F i ∧ rd F i < C.length) :
    Ev (fun k => woggleref02_Cost.f k n J C L F) (totalOf n J C L (xOf F)) := by
  have hn8 := ht.2.1
  have hJ := ht.2.2.1
  have hL : L.length = n := by have := hs.2; omega
  unfold woggleref02_Cost.f totalOf
  have e1 : ([] : List Int).length + L.length < 17592186044416 := by simp only [List.length_nil]; omega
  have e2 : ([] ++ L).length + F.length < 17592186044416 := by simp only [List.nil_append]; omega
  refine Ev.congr (f := fun k => woggleref02_Cost.l0 k n J C (L ++ F) 0 0) (fun k => by simp only [Option.bind_some]; rw [if_pos e1, if_pos e2, List.nil_append]) ?_
  have key := up_ind (fun m => Ev (fun k => woggleref02_Cost.l0 k n J C (L ++ F) (TT.total n (aOf J) (bOf J) (cOf C) (lOf L) (xOf F) m) (m : Int)) (TT.total n (aOf J) (bOf J) (cOf C) (lOf L) (xOf F) J.length)) J.length ?_ ?_
  · exact key
  · exact Ev.step (f := fun _ => some (TT.total n (aOf J) (bOf J) (cOf C) (lOf L) (xOf F) J.length)) (fun k => by simp only [woggleref02_Cost.l0]; rw [if_neg (Int.lt_irrefl _)]) (Ev.now _)
  · intro m hm ih
    obtain ⟨⟨a0, a1, _⟩, b0, b1, _⟩ := ht.2.2.2 m hm
    have ea : (rd_T67 J m).f0 = ((aOf J m : Nat) : Int) := by unfold aOf; omega
    have eb : (rd_T67 J m).f1 = ((bOf J m : Nat) : Int) := by unfold bOf; omega
    have la : aOf J m < n + m := by omega
    have lb : bOf J m < n + m := by omega
    obtain ⟨ra, sa⟩ := all_rd hs F hl hF (aOf J m) (by omega)
    obtain ⟨rb, sb⟩ := all_rd hs F hl hF (bOf J m) (by omega)
    obtain ⟨rx, sx⟩ := all_rd hs F hl hF (n + m) (by omega)
    have ex : TT.st n (lOf L) (xOf F) (n + m) = xOf F m := by unfold TT.st; rw [if_neg (by omega), Nat.add_sub_cancel_left]
    rw [ex] at rx sx
    have bd := total_bd ht hc hs F hl hF m (by omega)
    have c1 := costs_of hc _ _ sx sa
    have c2 := costs_of hc _ _ sx sb
    have hlen : (L ++ F).length = n + J.length := by rw [List.length_append, hL, hl]
    have hrow := row_len hc (xOf F m) sx
    have q1 : (m : Int) < J.length := by omega
    have q2 : (0 : Int) ≤ ((n + m : Nat) : Int) := by omega
    have q3 : ((n + m : Nat) : Int) < ((L ++ F).length : Int) := by omega
    have q4 : (0 : Int) ≤ ((xOf F m : Nat) : Int) := by omega
    have q5 : ((xOf F m : Nat) : Int) < (C.length : Int) := by omega
    have q6 : (0 : Int) ≤ (m : Int) := by omega
    have q7 : (0 : Int) ≤ ((aOf J m : Nat) : Int) := by omega
    have q8 : ((aOf J m : Nat) : Int) < ((L ++ F).length : Int) := by omega
    have q9 : (0 : Int) ≤ ((TT.st n (lOf L) (xOf F) (aOf J m) : Nat) : Int) := by omega
    have q10 : ((TT.st n (lOf L) (xOf F) (aOf J m) : Nat) : Int) < ((rd_L3 C (xOf F m)).length : Int) := by omega
    have q11 : (0 : Int) ≤ ((bOf J m : Nat) : Int) := by omega
    have q12 : ((bOf J m : Nat) : Int) < ((L ++ F).length : Int) := by omega
    have q13 : (0 : Int) ≤ ((TT.st n (lOf L) (xOf F) (bOf J m) : Nat) : Int) := by omega
    have q14 : ((TT.st n (lOf L) (xOf F) (bOf J m) : Nat) : Int) < ((rd_L3 C (xOf F m)).length : Int) := by omega
    have bT : TT.total n (aOf J) (bOf J) (cOf C) (lOf L) (xOf F) (m + 1) = TT.total n (aOf J) (bOf J) (cOf C) (lOf L) (xOf F) m + (cOf C (xOf F m) (TT.st n (lOf L) (xOf F) (aOf J m)) + cOf C (xOf F m) (TT.st n (lOf L) (xOf F) (bOf J m))) := rfl
    have W1 := wsum (TT.total n (aOf J) (bOf J) (cOf C) (lOf L) (xOf F) m) _ _ (show 0 ≤ TT.total n (aOf J) (bOf J) (cOf C) (lOf L) (xOf F) m ∧ TT.total n (aOf J) (bOf J) (cOf C) (lOf L) (xOf F) m ≤ 100000 by omega) c1 c2
    rw [← bT] at W1
    have W2 : wrap64 (TT.total n (aOf J) (bOf J) (cOf C) (lOf L) (xOf F) m + wrap64 (rd (rd_L3 C (xOf F m)) (TT.st n (lOf L) (xOf F) (aOf J m)) + rd (rd_L3 C (xOf F m)) (TT.st n (lOf L) (xOf F) (bOf J m)))) = TT.total n (aOf J) (bOf J) (cOf C) (lOf L) (xOf F) (m + 1) := W1
    have W34 : wrap64 ((n : Int) + (m : Int)) = ((n + m : Nat) : Int) ∧ wrap64 ((m : Int) + 1) = ((m + 1 : Nat) : Int) := ⟨wnm n m (by clear W1 W2 ih bT; omega) (by clear W1 W2 ih bT; omega), succ_w m (by clear W1 W2 ih bT; omega)⟩
    refine Ev.step (fun k => ?_) ih
    simp only [woggleref02_Cost.l0]
    rw [if_pos q1, W34.1, if_pos q2, if_pos q3, rx, if_pos q4, if_pos q5, if_pos q6, ea, eb, if_pos q7, if_pos q8, ra, rb, if_pos q9, if_pos q10, if_pos q11, if_pos q12, if_pos q13, if_pos q14, W2, W34.2]
end
theorem succ_div (K u : Nat) (hK : 0 < K) : ((u % K = K - 1) → (u + 1) / K = u / K + 1 ∧ (u + 1) % K = 0) ∧ ((u % K ≠ K - 1) → (u + 1) / K = u / K ∧ (u + 1) % K = u % K + 1) := by
  have h := Nat.div_add_mod u K
  have hl := Nat.mod_lt u hK
  constructor
  · intro e
    refine (Nat.div_mod_unique hK).2 ⟨?_, hK⟩
    rw [Nat.mul_add]; omega
  · intro e
    exact (Nat.div_mod_unique hK).2 ⟨by omega, by omega⟩
theorem dig_last (K m u : Nat) (Z : List Int) : rd (dig K (m + 1) u ++ Z) m = ((u % K : Nat) : Int) := by
  rw [rd_app_l _ _ _ (by rw [dig_length]; omega)]
  simp only [dig]
  rw [rd_app_r _ _ _ (by rw [dig_length]; exact Nat.le_refl _), dig_length, Nat.sub_self]
  rfl
theorem dig_set (K m u : Nat) (Z : List Int) (v : Int) : (dig K (m + 1) u ++ Z).set m v = dig K m (u / K) ++ v :: Z := by
  simp only [dig]
  rw [List.append_assoc, List.set_append_right _ _ (by rw [dig_length]; exact Nat.le_refl _), dig_length, Nat.sub_self]
  rfl
theorem dig_zero (K m : Nat) : dig K m 0 = List.replicate m 0 := by
  induction m with
  | zero => rfl
  | succ m ih => simp only [dig]; rw [Nat.zero_div, ih, Nat.zero_mod, List.replicate_succ']; rfl
end Go.Proofs.Ytcphmeeighhdjaa.Pure
