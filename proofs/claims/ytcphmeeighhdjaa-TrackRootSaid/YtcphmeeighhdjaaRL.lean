/- Plain facts: what Label answers: the first of the labelings with the least cost. -/
import Derived.Test.YtcphmeeighhdjaaRC
import Derived.Test.YtcphmeeighhdjaaGI
namespace Go.Proofs.Ytcphmeeighhdjaa.Pure
open Go Go.Proofs Go.RowKit Go.Proofs.Ytcphmeeighhdjaa.P Go.Proofs.YtcphmeeighhdjaaW.PrintWords Go.Proofs.YtcphmeeighhdjaaW.PrintLast
set_option linter.unusedVariables false

/-- The first digits as a number. -/
def num (K : Nat) (x : Nat → Nat) : Nat → Nat
  | 0 => 0
  | q + 1 => num K x q * K + x q
theorem num_congr (K : Nat) (x y : Nat → Nat) (q : Nat) (h : ∀ i, i < q → x i = y i) : num K x q = num K y q := by
  induction q with
  | zero => rfl
  | succ q ih => simp only [num]; rw [ih (fun i hi => h i (by omega)), h q (by omega)]
theorem mul_step (a b K c d : Nat) (h : a < b) (hc : c < K) : a * K + c < b * K + d := by
  have : (a + 1) * K ≤ b * K := Nat.mul_le_mul_right K h
  rw [Nat.add_mul] at this
  omega
/-- All digits of a number, the last one the lowest. -/
def dig (K : Nat) : Nat → Nat → List Int
  | 0, _ => []
  | m + 1, t => dig K m (t / K) ++ [((t % K : Nat) : Int)]
theorem dig_length (K m t : Nat) : (dig K m t).length = m := by
  induction m generalizing t with
  | zero => rfl
  | succ m ih => simp only [dig, List.length_append, ih, List.length_singleton]
theorem dig_num (K : Nat) (hK : 0 < K) (x : Nat → Nat) (m : Nat) (hx : ∀ i, i < m → x i < K) : dig K m (num K x m) = (List.range m).map (fun i => (x i : Int)) := by
  induction m with
  | zero => rfl
  | succ m ih =>
    have hm := hx m (by omega)
    have e1 : (num K x m * K + x m) / K = num K x m := by
      rw [Nat.mul_comm, Nat.mul_add_div hK, Nat.div_eq_of_lt hm, Nat.add_zero]
    have e2 : (num K x m * K + x m) % K = x m := by
      rw [Nat.mul_comm, Nat.mul_add_mod, Nat.mod_eq_of_lt hm]
    simp only [dig, num]
    rw [e1, e2, ih (fun i hi => hx i (by omega)), range_succ_map]
theorem dig_is (K : Nat) (hK : 0 < K) (m t : Nat) (ht : t < K ^ m) : ∃ x : Nat → Nat, (∀ i, x i < K) ∧ num K x m = t := by
  induction m generalizing t with
  | zero => exact ⟨fun _ => 0, fun _ => hK, by simp at ht; simp [num, ht]⟩
  | succ m ih =>
    obtain ⟨x, hx, hn⟩ := ih (t / K) (by
      rw [Nat.pow_succ] at ht
      exact Nat.div_lt_of_lt_mul (by rw [Nat.mul_comm]; exact ht))
    refine ⟨fun i => if i < m then x i else t % K, fun i => ?_, ?_⟩
    · simp only []
      split
      · exact hx i
      · exact Nat.mod_lt _ hK
    · simp only [num]
      rw [num_congr K (fun i => if i < m then x i else t % K) x m (fun i hi => if_pos hi), hn, if_neg (Nat.lt_irrefl m), Nat.mul_comm]
      exact Nat.div_add_mod t K
theorem num_lt (K : Nat) (x : Nat → Nat) (m : Nat) (hx : ∀ i, i < m → x i < K) : num K x m < K ^ m := by
  induction m with
  | zero => simp [num]
  | succ m ih =>
    have h1 := ih (fun i hi => hx i (by omega))
    have h2 := hx m (by omega)
    simp only [num]
    rw [Nat.pow_succ]
    have := mul_step (num K x m) (K ^ m) K (x m) 0 h1 h2
    omega
section
variable {n : Nat} {J : List S67} {C : List (List Int)} {L : List Int}
/-- A labeling by a list. -/
def xOf (F : List Int) (i : Nat) : Nat := (rd F i).toNat
/-- The least cost of all. -/
def bestOf (J : List S67) (C : List (List Int)) (L : List Int) : Int := (P.leastOf C.length C (none_ J) J L).1
def Opt (n : Nat) (J : List S67) (C : List (List Int)) (L : List Int) (x : Nat → Nat) : Prop := (∀ i, i < J.length → x i < C.length) ∧ totalOf n J C L x = bestOf J C L
theorem best_le (ht : TreeOk n J) (hc : CostsOk C) (hs : StatesOk n C.length L) (x : Nat → Nat) (hx : ∀ i, i < J.length → x i < C.length) : bestOf J C L ≤ totalOf n J C L x :=
  (least_min (F := none_ J) ht hc hs (fun i hi => by rw [none_free J i hi]; have := hc.2.1; omega)).1 x (fun i hi => ⟨hx i hi, fun h => by rw [none_free J i hi] at h; omega⟩)
theorem opt_some (ht : TreeOk n J) (hc : CostsOk C) (hs : StatesOk n C.length L) : ∃ x, Opt n J C L x := by
  obtain ⟨x, x1, _, x3⟩ := (least_min (F := none_ J) ht hc hs (fun i hi => by rw [none_free J i hi]; have := hc.2.1; omega)).2.1
  exact ⟨x, fun i _ => x1 i, x3⟩
theorem total_congr (x y : Nat → Nat) (hJ : TreeOk n J) (h : ∀ i, i < J.length → x i = y i) : totalOf n J C L x = totalOf n J C L y := by
  unfold totalOf
  have hl := hJ.2.2.1
  have key : ∀ m, m ≤ J.length → TT.total n (aOf J) (bOf J) (cOf C) (lOf L) x m = TT.total n (aOf J) (bOf J) (cOf C) (lOf L) y m := by
    intro m
    induction m with
    | zero => intro _; rfl
    | succ m ih =>
      intro hm
      obtain ⟨⟨a0, a1, _⟩, b0, b1, _⟩ := hJ.2.2.2 m (by omega)
      have st : ∀ v, v < n + m → TT.st n (lOf L) x v = TT.st n (lOf L) y v := by
        intro v hv
        unfold TT.st
        split
        · rfl
        · exact h _ (by omega)
      simp only [TT.total, TT.edge]
      rw [ih (by omega), h m (by omega), st (aOf J m) (by unfold aOf; omega), st (bOf J m) (by unfold bOf; omega)]
  exact key _ (Nat.le_refl _)
/-- When least tells the least cost of all. -/
theorem least_best (ht : TreeOk n J) (hc : CostsOk C) (hs : StatesOk n C.length L) (F : List Int) (hF : ∀ i, i < J.length → fOf F i < C.length) :
    (P.leastOf C.length C F J L).1 = bestOf J C L ↔ ∃ x, Opt n J C L x ∧ ∀ i, i < J.length → 0 ≤ fOf F i → fOf F i = x i := by
  obtain ⟨h1, ⟨x, x1, x2, x3⟩, _, _⟩ := least_min (F := F) ht hc hs hF
  constructor
  · intro e
    exact ⟨x, ⟨fun i _ => x1 i, x3.trans e⟩, x2⟩
  · rintro ⟨y, ⟨y1, y2⟩, y3⟩
    have a := h1 y (fun i hi => ⟨y1 i hi, y3 i hi⟩)
    have b := best_le ht hc hs x (fun i _ => x1 i)
    omega
theorem lab1_spec (k : Nat) (C : List (List Int)) (J : List S67) (L : List Int) (best : Int) (q : Nat) (G : List Int) (d : Nat) : ∀ (F : List Int) (s : Nat), (∀ u : Int, F.set q u = G.set q u) →
    (∃ u : Nat, s ≤ u ∧ u < s + d ∧ (P.leastOf k C (G.set q u) J L).1 = best) →
    ∃ u : Nat, s ≤ u ∧ u < s + d ∧ (P.leastOf k C (G.set q u) J L).1 = best ∧ (∀ v : Nat, s ≤ v → v < u → (P.leastOf k C (G.set q v) J L).1 ≠ best) ∧ lab1 k C J L best q F s d = G.set q u := by
  induction d with
  | zero => rintro F s _ ⟨u, h1, h2, _⟩; omega
  | succ d ih =>
    rintro F s hF ⟨u, h1, h2, h3⟩
    unfold lab1
    rw [hF]
    by_cases c : (P.leastOf k C (G.set q (s : Int)) J L).1 = best
    · rw [if_pos c]
      exact ⟨s, Nat.le_refl _, by omega, c, fun v v1 v2 => by omega, rfl⟩
    · rw [if_neg c]
      have hne : u ≠ s := fun e => c (by rw [← e]; exact h3)
      obtain ⟨w, w1, w2, w3, w4, w5⟩ := ih (G.set q (s : Int)) (s + 1) (fun u => List.set_set _) ⟨u, by omega, by omega, h3⟩
      refine ⟨w, by omega, by omega, w3, fun v v1 v2 => ?_, w5⟩
      by_cases e : v = s
      · rw [e]; exact c
      · exact w4 v (by omega) v2
/-- The states of the first joins are found. -/
structure Found (n : Nat) (J : List S67) (C : List (List Int)) (L : List Int) (F : List Int) (q : Nat) : Prop where
  len : F.length = J.length
  low : ∀ i, i < q → 0 ≤ rd F i ∧ rd F i < C.length
  high : ∀ i, q ≤ i → i < J.length → rd F i = -1
  ext : ∃ x, Opt n J C L x ∧ ∀ i, i < q → x i = xOf F i
  first : ∀ x, Opt n J C L x → num C.length (xOf F) q ≤ num C.length x q
theorem found_step (ht : TreeOk n J) (hc : CostsOk C) (hs : StatesOk n C.length L) (F : List Int) (q : Nat) (hq : q < J.length) (h : Found n J C L F q) : Found n J C L (lab1 C.length C J L (bestOf J C L) q F 0 C.length) (q + 1) := by
  have hFs : ∀ u : Nat, ∀ i, i < J.length → fOf (F.set q (u : Int)) i = if i = q then (u : Int) else rd F i := by
    intro u i hi
    unfold fOf
    by_cases e : i = q
    · subst e; rw [if_pos rfl, rd_set_same _ _ _ (by rw [h.len]; exact hi)]
    · rw [if_neg e, rd_set_ne _ _ _ _ (fun q => e q.symm)]
  have hlt : ∀ i, i < J.length → rd F i < C.length := by
    intro i hi
    by_cases e : i < q
    · exact (h.low i e).2
    · rw [h.high i (by omega) hi]; have := hc.2.1; omega
  have iffP : ∀ u : Nat, u < C.length → ((P.leastOf C.length C (F.set q (u : Int)) J L).1 = bestOf J C L ↔ ∃ x, Opt n J C L x ∧ (∀ i, i < q → x i = xOf F i) ∧ x q = u) := by
    intro u hu
    rw [least_best ht hc hs (F.set q (u : Int)) (fun i hi => by rw [hFs u i hi]; split; omega; exact hlt i hi)]
    constructor
    · rintro ⟨x, hx, hy⟩
      refine ⟨x, hx, fun i hi => ?_, ?_⟩
      · have := hy i (by omega)
        rw [hFs u i (by omega), if_neg (by omega)] at this
        have h2 := this (h.low i hi).1
        unfold xOf; omega
      · have := hy q hq
        rw [hFs u q hq, if_pos rfl] at this
        have := this (by omega); omega
    · rintro ⟨x, hx, hy, hz⟩
      refine ⟨x, hx, fun i hi h0 => ?_⟩
      rw [hFs u i hi] at h0 ⊢
      by_cases e : i = q
      · subst e; rw [if_pos rfl]; omega
      · rw [if_neg e] at h0 ⊢
        by_cases e2 : i < q
        · rw [hy i e2]; unfold xOf; omega
        · rw [h.high i (by omega) hi] at h0; omega
  obtain ⟨x, hx, hxp⟩ := h.ext
  obtain ⟨u, _, u2, u3, u4, u5⟩ := lab1_spec C.length C J L (bestOf J C L) q F C.length F 0 (fun _ => rfl) ⟨x q, Nat.zero_le _, by have := hx.1 q hq; omega, (iffP (x q) (hx.1 q hq)).2 ⟨x, hx, hxp, rfl⟩⟩
  rw [u5]
  have hu : u < C.length := by omega
  obtain ⟨y, hy, hyp, hyq⟩ := (iffP u hu).1 u3
  have hxo : ∀ i, i < q → xOf (F.set q (u : Int)) i = xOf F i := fun i hi => by unfold xOf; rw [rd_set_ne _ _ _ _ (by omega)]
  have hxq : xOf (F.set q (u : Int)) q = u := by unfold xOf; rw [rd_set_same _ _ _ (by rw [h.len]; exact hq)]; omega
  refine ⟨by rw [List.length_set]; exact h.len, fun i hi => ?_, fun i hi hi2 => ?_, ⟨y, hy, fun i hi => ?_⟩, fun z hz => ?_⟩
  · by_cases e : i = q
    · subst e; rw [rd_set_same _ _ _ (by rw [h.len]; exact hq)]; omega
    · rw [rd_set_ne _ _ _ _ (fun q => e q.symm)]; exact h.low i (by omega)
  · rw [rd_set_ne _ _ _ _ (by omega)]; exact h.high i (by omega) hi2
  · by_cases e : i = q
    · subst e; rw [hyq, hxq]
    · rw [hxo i (by omega)]; exact hyp i (by omega)
  · simp only [num]
    rw [num_congr C.length (xOf (F.set q (u : Int))) (xOf F) q hxo, hxq]
    have hf := h.first z hz
    have hzq := hz.1 q hq
    rcases Nat.lt_or_eq_of_le hf with hlt2 | heq
    · exact Nat.le_of_lt (mul_step _ _ _ _ _ hlt2 hu)
    · -- the same number: the same digits
      have inj : ∀ m, (∀ i, i < m → xOf F i < C.length) → (∀ i, i < m → z i < C.length) → num C.length (xOf F) m = num C.length z m → ∀ i, i < m → z i = xOf F i := by
        intro m
        induction m with
        | zero => intro _ _ _ i hi; omega
        | succ m ih =>
          intro a b e i hi
          simp only [num] at e
          have am := a m (by omega)
          have bm := b m (by omega)
          have e1 : num C.length (xOf F) m = num C.length z m := by
            rcases Nat.lt_trichotomy (num C.length (xOf F) m) (num C.length z m) with l | l | l
            · have := mul_step _ _ C.length (xOf F m) (z m) l am; omega
            · exact l
            · have := mul_step _ _ C.length (z m) (xOf F m) l bm; omega
          rw [e1] at e
          by_cases c : i = m
          · subst c; omega
          · exact ih (fun i hi => a i (by omega)) (fun i hi => b i (by omega)) e1 i (by omega)
      have same := inj q (fun i hi => by have := h.low i hi; unfold xOf; omega) (fun i hi => hz.1 i (by omega)) heq
      rw [heq]
      have hle : u ≤ z q := Nat.le_of_not_lt fun hlt3 => u4 (z q) (Nat.zero_le _) hlt3 ((iffP (z q) hzq).2 ⟨z, hz, same, rfl⟩)
      omega
theorem found_all (ht : TreeOk n J) (hc : CostsOk C) (hs : StatesOk n C.length L) (d : Nat) : ∀ (F : List Int) (q : Nat), q + d = J.length → Found n J C L F q → Found n J C L (labAll C.length C J L (bestOf J C L) F q d) J.length := by
  induction d with
  | zero => intro F q h hf; rw [← h]; exact hf
  | succ d ih => intro F q h hf; exact ih _ (q + 1) (by omega) (found_step ht hc hs F q (by omega) hf)
theorem found_none (ht : TreeOk n J) (hc : CostsOk C) (hs : StatesOk n C.length L) : Found n J C L (none_ J) 0 := by
  obtain ⟨x, hx⟩ := opt_some ht hc hs
  exact ⟨List.length_replicate, fun i hi => absurd hi (by omega), fun i _ hi => none_free J i hi, ⟨x, hx, fun i hi => absurd hi (by omega)⟩, fun _ _ => Nat.le_refl _⟩
/-- What Label answers. -/
def labelOf (J : List S67) (C : List (List Int)) (L : List Int) : List Int := labAll C.length C J L (bestOf J C L) (none_ J) 0 J.length
theorem label_found (ht : TreeOk n J) (hc : CostsOk C) (hs : StatesOk n C.length L) : Found n J C L (labelOf J C L) J.length := found_all ht hc hs J.length _ 0 (by omega) (found_none ht hc hs)
theorem label_opt (ht : TreeOk n J) (hc : CostsOk C) (hs : StatesOk n C.length L) : Opt n J C L (xOf (labelOf J C L)) := by
  have f := label_found ht hc hs
  obtain ⟨x, hx, hy⟩ := f.ext
  refine ⟨fun i hi => by have := f.low i hi; unfold xOf; omega, ?_⟩
  rw [← total_congr x _ ht hy]
  exact hx.2
theorem list_of (F : List Int) (m : Nat) (h : F.length = m) (h0 : ∀ i, i < m → 0 ≤ rd F i) : F = (List.range m).map (fun i => (xOf F i : Int)) := by
  apply List.ext_getElem
  · simp [h]
  · intro i h1 h2
    have := h0 i (by omega)
    simp only [List.getElem_map, List.getElem_range]
    unfold xOf
    rw [Int.toNat_of_nonneg this, rd_nat F i h1]
/-- The labeling with the least number among those of least cost. -/
theorem label_first (ht : TreeOk n J) (hc : CostsOk C) (hs : StatesOk n C.length L) (x : Nat → Nat) (hx : Opt n J C L x) (h : ∀ y, Opt n J C L y → num C.length x J.length ≤ num C.length y J.length) :
    labelOf J C L = dig C.length J.length (num C.length x J.length) := by
  have f := label_found ht hc hs
  have o := label_opt ht hc hs
  have e : num C.length x J.length = num C.length (xOf (labelOf J C L)) J.length := Nat.le_antisymm (h _ o) (f.first x hx)
  rw [e, dig_num C.length (by have := hc.2.1; omega) _ _ o.1]
  exact list_of _ _ f.len (fun i hi => (f.low i hi).1)
end
end Go.Proofs.Ytcphmeeighhdjaa.Pure
