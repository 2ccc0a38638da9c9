/- For all trees, costs and lists, Least answers the least cost of a labeling, and Ways the number of labelings with it, or the errors: in plain numbers and lists. -/
import Derived.Test.YtcphmeeighhdjaaPF6
import Derived.Test.YtcphmeeighhdjaaRT
import Derived.Test.YtcphmeeighhdjaaRA
import Derived.Test.YtcphmeeighhdjaaTT
import Derived.Test.YtcphmeeighhdjaaGH
-- out of RF
namespace Go.Proofs.Ytcphmeeighhdjaa.Pure
open Go Go.Proofs Go.RowKit Go.Proofs.Ytcphmeeighhdjaa.P Go.Proofs.YtcphmeeighhdjaaW.PrintWords Go.Proofs.YtcphmeeighhdjaaW.PrintLast
set_option linter.unusedVariables false

theorem few_f (n : Int) (J : List S67) (h : J.length ≤ maxLen) : wogglelaw02_Plant_few.f n J = some (n, J.take 9) := by
  unfold wogglelaw02_Plant_few.f
  have e := cut_take J 9 (by decide)
  have m := mn_cut J.length 9 (by decide)
  try simp only [Option.bind_some]
  rw [if_pos m.1, if_pos m.2, e]
  try simp only [Option.bind_some]
  have hl : (J.take (9 : Int).toNat).length ≤ 9 := List.length_take_le _ _
  rw [if_pos (show ([] : List S67).length + (J.take (9 : Int).toNat).length < 8796093022208 by simp only [List.length_nil]; omega)]
  rfl
theorem cut_f (L : List Int) (h : L.length ≤ maxLen) : wogglelaw02_cut.f L = some (L.take 9) := by
  unfold wogglelaw02_cut.f
  have e := cut_take L 9 (by decide)
  have m := mn_cut L.length 9 (by decide)
  try simp only [Option.bind_some]
  rw [if_pos m.1, if_pos m.2, e]
  have hl : (L.take (9 : Int).toNat).length ≤ 9 := List.length_take_le _ _
  rw [if_pos (show ([] : List Int).length + (L.take (9 : Int).toNat).length < 17592186044416 by simp only [List.length_nil]; omega)]
  rfl
section
variable {n : Int} {J : List S67} {k : Int} {L : List Int}
end
end Go.Proofs.Ytcphmeeighhdjaa.Pure

-- out of RN
namespace Go.Proofs.Ytcphmeeighhdjaa.Pure
open Go Go.Proofs Go.RowKit Go.Proofs.Ytcphmeeighhdjaa.P Go.Proofs.YtcphmeeighhdjaaW.PrintWords Go.Proofs.YtcphmeeighhdjaaW.PrintLast
set_option linter.unusedVariables false

theorem rows_ev (y : List (List Int)) (h : y.length ≤ maxLen ∧ ∀ x ∈ y, x.length ≤ maxLen) : Ev (fun k => wogglelaw02_rows.f k y) ((y.take 9).map (fun x => x.take 9)) := by
  unfold wogglelaw02_rows.f
  have hm : maxLen = 9223372036854775807 := rfl
  have hy := h.1
  rw [hm] at hy
  have key := up_ind (fun i => Ev (fun k => wogglelaw02_rows.l0 k y ((y.take i).map (fun x => x.take 9)) (i : Int)) ((y.take 9).map (fun x => x.take 9))) (min y.length 9) ?_ ?_
  · exact key
  · refine Ev.step (f := fun _ => some ((y.take 9).map (fun x => x.take 9))) (fun k => ?_) (Ev.now _)
    simp only [wogglelaw02_rows.l0]
    by_cases c : y.length ≤ 9
    · rw [Nat.min_eq_left c, if_neg (Int.lt_irrefl _), List.take_of_length_le (Nat.le_refl _), List.take_of_length_le c]
    · rw [Nat.min_eq_right (by omega), if_pos (show ((9 : Nat) : Int) < y.length by omega), if_neg (show ¬ ((9 : Nat) : Int) ≤ 8 by decide)]
  · intro i hi ih
    have hi1 : i < y.length := by omega
    have p1 : (i : Int) < y.length := by omega
    have p2 : (0 : Int) ≤ i := by omega
    have p3 : (i : Int) ≤ 8 := by omega
    have hl : ((y.take i).map (fun x => x.take 9)).length < 5864062014805 := by rw [List.length_map, List.length_take]; omega
    refine Ev.step (fun k => ?_) ih
    simp only [wogglelaw02_rows.l0, hl, if_true]
    rw [if_pos p1, if_pos p3, if_pos p2, rd_L3_nat y i hi1, cut_f _ (h.2 _ (List.getElem_mem hi1)), succ_w i (by omega), take_up y i hi1, List.map_append]
    rfl
section
variable {n : Nat} {J : List S67} {C : List (List Int)} {L : List Int}
end
end Go.Proofs.Ytcphmeeighhdjaa.Pure

-- out of RC
namespace Go.Proofs.Ytcphmeeighhdjaa.Pure
open Go Go.Proofs Go.RowKit Go.Proofs.Ytcphmeeighhdjaa.P Go.Proofs.YtcphmeeighhdjaaW.PrintWords Go.Proofs.YtcphmeeighhdjaaW.PrintLast
set_option linter.unusedVariables false

def cOf (C : List (List Int)) (a b : Nat) : Int := rd (rd_L3 C a) b
def lOf (L : List Int) (v : Nat) : Nat := (rd L v).toNat
def fOf (F : List Int) (i : Nat) : Int := rd F i
def aOf (J : List S67) (i : Nat) : Nat := (rd_T67 J i).f0.toNat
def bOf (J : List S67) (i : Nat) : Nat := (rd_T67 J i).f1.toNat
theorem rd_set_same (l : List Int) (i : Nat) (x : Int) (h : i < l.length) : rd (l.set i x) i = x := by
  rw [rd_nat _ i (by rw [List.length_set]; exact h), List.getElem_set_self]
theorem rd_set_ne (l : List Int) (i j : Nat) (x : Int) (h : i ≠ j) : rd (l.set i x) j = rd l j := by
  unfold rd
  rw [Int.toNat_natCast, List.getD_eq_getElem?_getD, List.getD_eq_getElem?_getD, List.getElem?_set_ne h]
theorem rd_replicate (k j : Nat) (x : Int) (h : j < k) : rd (List.replicate k x) j = x := by
  rw [rd_nat _ j (by rw [List.length_replicate]; exact h), List.getElem_replicate]
/-- A table of lists tells a table. -/
def Tells (k : Nat) (t : S111) (f : Nat → Int × Int) : Prop := t.f0.length = k ∧ t.f1.length = k ∧ ∀ s, s < k → (rd t.f0 s, rd t.f1 s) = f s
theorem belowTo_is (k : Nat) (row : List Int) (C : Nat → Int) (t : S111) (f : Nat → Int × Int) (M : Int) (ht : Tells k t f) (hr : ∀ s, s < k → rd row s = C s) (hM : k * M ≤ 4611686018427387904) (hb : ∀ s, s < k → 0 ≤ (f s).2 ∧ (f s).2 ≤ M) (hc : ∀ s, s < k → (f s).2 ≠ 0 → 0 ≤ (f s).1 + C s ∧ (f s).1 + C s ≤ 4611686018427387904) :
    ∀ m, m ≤ k → belowTo row t.f0 t.f1 m = TT.belowE C f m := by
  intro m
  induction m with
  | zero => intro _; rfl
  | succ m ih =>
    intro hm
    have e := ht.2.2 m (by omega)
    have e1 : rd t.f0 m = (f m).1 := congrArg Prod.fst e
    have e2 : rd t.f1 m = (f m).2 := congrArg Prod.snd e
    simp only [belowTo, TT.belowE]
    rw [ih (by omega), e1, e2, hr m (by omega)]
    by_cases c : (f m).2 = 0
    · rw [if_pos c, if_pos c]
    · have h1 := hc m (by omega) c
      rw [if_neg c, if_neg c, w64 ((f m).1 + C m) (by omega) (by omega)]
      have h2 := TT.below_many C f (m + 1) M (fun s hs => hb s (by omega))
      have h3 := TT.below_many C f m M (fun s hs => hb s (by omega))
      have h4 := hb m (by omega)
      have h5 : ((m + 1 : Nat) : Int) * M ≤ k * M := Int.mul_le_mul_of_nonneg_right (by omega) (by omega)
      have h6 : ((m + 1 : Nat) : Int) * M = m * M + M := by rw [Int.natCast_add, Int.add_mul]; simp
      rw [w64 ((TT.belowE C f m).2 + (f m).2) (by omega) (by omega)]
theorem leastTo_is (k : Nat) (t : S111) (f : Nat → Int × Int) (M : Int) (ht : Tells k t f) (hM : k * M ≤ 4611686018427387904) (hb : ∀ s, s < k → 0 ≤ (f s).2 ∧ (f s).2 ≤ M) :
    ∀ m, m ≤ k → leastTo t.f0 t.f1 m = TT.leastE f m := by
  intro m
  induction m with
  | zero => intro _; rfl
  | succ m ih =>
    intro hm
    have e := ht.2.2 m (by omega)
    have e1 : rd t.f0 m = (f m).1 := congrArg Prod.fst e
    have e2 : rd t.f1 m = (f m).2 := congrArg Prod.snd e
    simp only [leastTo, TT.leastE]
    rw [ih (by omega), e1, e2]
    by_cases c : (f m).2 = 0
    · rw [if_pos c, if_pos c]
    · rw [if_neg c, if_neg c]
      have h3 := TT.least_many f m M (fun s hs => hb s (by omega))
      have h4 := hb m (by omega)
      have h5 : ((m + 1 : Nat) : Int) * M ≤ k * M := Int.mul_le_mul_of_nonneg_right (by omega) (by omega)
      have h6 : ((m + 1 : Nat) : Int) * M = m * M + M := by rw [Int.natCast_add, Int.add_mul]; simp
      rw [w64 ((TT.leastE f m).2 + (f m).2) (by omega) (by omega)]
theorem leaf_tells (k : Nat) (C : Nat → Nat → Int) (L : Nat → Nat) (F : Nat → Int) (v s : Nat) (hs : s < k) (hL : L v = s) : Tells k (leafTab k s) (TT.tab C k L F (TT.T.leaf v)) := by
  refine ⟨by simp [leafTab], by simp [leafTab], fun u hu => ?_⟩
  simp only [leafTab, TT.tab, hL, Int.toNat_natCast]
  by_cases e : u = s
  · subst e
    rw [if_pos rfl, rd_set_same _ _ _ (by rw [List.length_replicate]; exact hu), rd_set_same _ _ _ (by rw [List.length_replicate]; exact hu)]
  · rw [if_neg e, rd_set_ne _ _ _ _ (fun h => e h.symm), rd_set_ne _ _ _ _ (fun h => e h.symm), rd_replicate _ _ _ hu, rd_replicate _ _ _ hu]; rfl
section
variable {C : List (List Int)} {k : Nat} {L : List Int} {F : List Int}
theorem costs_of (h : CostsOk C) : TT.Costs (cOf C) C.length := by
  intro a b ha hb
  unfold cOf
  rw [rd_L3_nat C a ha]
  have h1 := h.1 _ (List.getElem_mem ha)
  rw [rd_nat _ b (by rw [h1.1]; exact hb)]
  exact h1.2 _ (List.getElem_mem _)
theorem join_tells (hC : CostsOk C) (i : Nat) (l r : TT.T) (ta tb : S111) (hk : C.length = k) (hn : 1 + (l.idx.length + r.idx.length) ≤ 7)
    (hl : Tells k ta (TT.tab (cOf C) k (lOf L) (fOf F) l)) (hr : Tells k tb (TT.tab (cOf C) k (lOf L) (fOf F) r)) :
    Tells k (joinTo k C (rd F i) ta tb k) (TT.tab (cOf C) k (lOf L) (fOf F) (TT.T.node i l r)) := by
  subst hk
  have k4 := hC.2.2
  have hc := costs_of hC
  have B := TT.tab_bounds (cOf C) C.length (lOf L) (fOf F) k4 hc
  have Bl := B l (by omega)
  have Br := B r (by omega)
  have mono : ∀ a b : Nat, a ≤ b → (16 : Int) ^ a ≤ 16 ^ b := by
    intro a b h
    obtain ⟨d, rfl⟩ := Nat.exists_eq_add_of_le h
    rw [Int.pow_add]
    have h1 := TT.pow_pos16 d
    have h2 := TT.pow_pos16 a
    have := Int.mul_le_mul_of_nonneg_left h1 (show (0 : Int) ≤ 16 ^ a by omega)
    omega
  have M7 : (16 : Int) ^ 7 = 268435456 := by decide
  have Ml := mono l.idx.length 7 (by omega)
  have Mr := mono r.idx.length 7 (by omega)
  have key : ∀ m, m ≤ C.length → ∀ s, s < C.length → (rd (joinTo C.length C (rd F i) ta tb m).f0 s, rd (joinTo C.length C (rd F i) ta tb m).f1 s) = if s < m then TT.tab (cOf C) C.length (lOf L) (fOf F) (TT.T.node i l r) s else (TT.far, 0) := by
    intro m
    induction m with
    | zero =>
      intro _ s hs
      rw [if_neg (by omega)]
      simp only [joinTo]
      rw [rd_replicate _ _ _ hs, rd_replicate _ _ _ hs]; rfl
    | succ m ih =>
      intro hm s hs
      have ihm := ih (by omega)
      have hlen := joinTo_len C.length C (rd F i) ta tb m
      simp only [joinTo]
      have rowe : ∀ s, s < C.length → rd (rd_L3 C m) s = cOf C m s := fun s _ => rfl
      have bl := belowTo_is C.length (rd_L3 C m) (cOf C m) ta _ (16 ^ l.idx.length) hl rowe (by
        have : (C.length : Int) * 16 ^ l.idx.length ≤ 4 * 16 ^ l.idx.length := Int.mul_le_mul_of_nonneg_right (by omega) (by have := TT.pow_pos16 l.idx.length; omega)
        omega) (fun s hs => (Bl s hs).1) (fun s hs h => by have := (Bl s hs).2 h; have := hc m s (by omega) hs; omega) C.length (Nat.le_refl _)
      have br := belowTo_is C.length (rd_L3 C m) (cOf C m) tb _ (16 ^ r.idx.length) hr rowe (by
        have : (C.length : Int) * 16 ^ r.idx.length ≤ 4 * 16 ^ r.idx.length := Int.mul_le_mul_of_nonneg_right (by omega) (by have := TT.pow_pos16 r.idx.length; omega)
        omega) (fun s hs => (Br s hs).1) (fun s hs h => by have := (Br s hs).2 h; have := hc m s (by omega) hs; omega) C.length (Nat.le_refl _)
      rw [bl, br]
      have sl := TT.below_spec (cOf C m) _ C.length (fun u hu => (Bl u hu).1.1) (fun u hu h => by have := (Bl u hu).2 h; have := hc m u (by omega) hu; unfold TT.far; omega)
      have sr := TT.below_spec (cOf C m) _ C.length (fun u hu => (Br u hu).1.1) (fun u hu h => by have := (Br u hu).2 h; have := hc m u (by omega) hu; unfold TT.far; omega)
      have ml := TT.below_many (cOf C m) _ C.length _ (fun u hu => (Bl u hu).1)
      have mr := TT.below_many (cOf C m) _ C.length _ (fun u hu => (Br u hu).1)
      have fl : 0 ≤ (TT.belowE (cOf C m) (TT.tab (cOf C) C.length (lOf L) (fOf F) l) C.length).1 ∧ (TT.belowE (cOf C m) (TT.tab (cOf C) C.length (lOf L) (fOf F) l) C.length).1 ≤ 1073741824 := by
        by_cases z : (TT.belowE (cOf C m) (TT.tab (cOf C) C.length (lOf L) (fOf F) l) C.length).2 = 0
        · rw [sl.2.2.2 z]; unfold TT.far; omega
        · obtain ⟨u, hu, hu1, hu2⟩ := sl.2.2.1 z
          have := (Bl u hu).2 hu1; have := hc m u (by omega) hu
          rw [hu2]; omega
      have fr : 0 ≤ (TT.belowE (cOf C m) (TT.tab (cOf C) C.length (lOf L) (fOf F) r) C.length).1 ∧ (TT.belowE (cOf C m) (TT.tab (cOf C) C.length (lOf L) (fOf F) r) C.length).1 ≤ 1073741824 := by
        by_cases z : (TT.belowE (cOf C m) (TT.tab (cOf C) C.length (lOf L) (fOf F) r) C.length).2 = 0
        · rw [sr.2.2.2 z]; unfold TT.far; omega
        · obtain ⟨u, hu, hu1, hu2⟩ := sr.2.2.1 z
          have := (Br u hu).2 hu1; have := hc m u (by omega) hu
          rw [hu2]; omega
      have pr : 0 ≤ (TT.belowE (cOf C m) (TT.tab (cOf C) C.length (lOf L) (fOf F) l) C.length).2 * (TT.belowE (cOf C m) (TT.tab (cOf C) C.length (lOf L) (fOf F) r) C.length).2 ∧ (TT.belowE (cOf C m) (TT.tab (cOf C) C.length (lOf L) (fOf F) l) C.length).2 * (TT.belowE (cOf C m) (TT.tab (cOf C) C.length (lOf L) (fOf F) r) C.length).2 ≤ 268435456 := by
        refine ⟨Int.mul_nonneg ml.1 mr.1, ?_⟩
        have kl : (C.length : Int) * 16 ^ l.idx.length ≤ 4 * 16 ^ l.idx.length := Int.mul_le_mul_of_nonneg_right (by omega) (by have := TT.pow_pos16 l.idx.length; omega)
        have kr : (C.length : Int) * 16 ^ r.idx.length ≤ 4 * 16 ^ r.idx.length := Int.mul_le_mul_of_nonneg_right (by omega) (by have := TT.pow_pos16 r.idx.length; omega)
        have h1 := Int.mul_le_mul (Int.le_trans ml.2 kl) (Int.le_trans mr.2 kr) mr.1 (by have := TT.pow_pos16 l.idx.length; omega)
        rw [TT.pow16] at h1
        have h2 := mono _ _ hn
        omega
      have hnode : TT.tab (cOf C) C.length (lOf L) (fOf F) (TT.T.node i l r) m = if 0 ≤ rd F i ∧ rd F i ≠ m then (TT.far, 0) else
          ((TT.belowE (cOf C m) (TT.tab (cOf C) C.length (lOf L) (fOf F) l) C.length).1 + (TT.belowE (cOf C m) (TT.tab (cOf C) C.length (lOf L) (fOf F) r) C.length).1, (TT.belowE (cOf C m) (TT.tab (cOf C) C.length (lOf L) (fOf F) l) C.length).2 * (TT.belowE (cOf C m) (TT.tab (cOf C) C.length (lOf L) (fOf F) r) C.length).2) := rfl
      rw [w64 _ (by omega) (by omega), w64 _ (by omega) (by omega)]
      generalize (TT.belowE (cOf C m) (TT.tab (cOf C) C.length (lOf L) (fOf F) l) C.length) = bl at *
      generalize (TT.belowE (cOf C m) (TT.tab (cOf C) C.length (lOf L) (fOf F) r) C.length) = br at *
      by_cases c : 0 ≤ rd F i ∧ rd F i ≠ m
      · rw [if_pos c, ihm s hs]
        by_cases e : s = m
        · subst e
          rw [if_neg (Nat.lt_irrefl _), if_pos (Nat.lt_succ_self _), hnode, if_pos c]
        · by_cases e2 : s < m
          · rw [if_pos e2, if_pos (by omega)]
          · rw [if_neg e2, if_neg (by omega)]
      · rw [if_neg c]
        by_cases e : s = m
        · subst e
          rw [if_pos (Nat.lt_succ_self _), hnode, if_neg c, rd_set_same _ _ _ (by rw [hlen.1]; exact hs), rd_set_same _ _ _ (by rw [hlen.2]; exact hs)]
        · rw [rd_set_ne _ _ _ _ (fun h => e h.symm), rd_set_ne _ _ _ _ (fun h => e h.symm), ihm s hs]
          by_cases e2 : s < m
          · rw [if_pos e2, if_pos (by omega)]
          · rw [if_neg e2, if_neg (by omega)]
  refine ⟨(joinTo_len _ _ _ _ _ _).1, (joinTo_len _ _ _ _ _ _).2, fun s hs => ?_⟩
  rw [key C.length (Nat.le_refl _) s hs, if_pos hs]
end
theorem rd_T111_old (l : List S111) (x : S111) (v : Nat) (h : v < l.length) : rd_T111 (l ++ [x]) v = rd_T111 l v := by
  unfold rd_T111
  rw [Int.toNat_natCast, List.getD_eq_getElem?_getD, List.getD_eq_getElem?_getD, List.getElem?_append_left h]
theorem rd_T111_new (l : List S111) (x : S111) (v : Nat) (h : v = l.length) : rd_T111 (l ++ [x]) v = x := by
  unfold rd_T111
  rw [Int.toNat_natCast, List.getD_eq_getElem?_getD, h]
  simp
theorem idx_le (n : Nat) (A B : Nat → Nat) (m : Nat) (h : TT.Valid n A B m) (v : Nat) (hv : v ∈ TT.rootsTo n A B m) : (TT.tr n A B m v).idx.length ≤ m := by
  have p := TT.roots_idx n A B m h
  have := p.length_eq
  rw [List.length_range] at this
  have e := List.perm_cons_erase hv
  have q := (e.flatMap_right (fun v => (TT.tr n A B m v).idx)).length_eq
  rw [List.flatMap_cons, List.length_append] at q
  omega
section
variable {n : Nat} {J : List S67} {C : List (List Int)} {L F : List Int}
theorem sank_tells (ht : TreeOk n J) (hc : CostsOk C) (hs : StatesOk n C.length L) (m : Nat) (hm : m ≤ J.length) (v : Nat) (hv : v < n + m) :
    Tells C.length (rd_T111 (sankTo C.length C F J L m) v) (TT.tab (cOf C) C.length (lOf L) (fOf F) (TT.tr n (aOf J) (bOf J) m v)) := by
  have hV : TT.Valid n (aOf J) (bOf J) J.length := valid_of ht
  have hLn : L.length = n := by have := hs.2; omega
  induction m generalizing v with
  | zero =>
    rw [TT.tr_leaf n _ _ v (by omega)]
    have hvL : v < L.length := by omega
    have e : rd_T111 (sankTo C.length C F J L 0) v = leafTab C.length L[v] := by
      unfold rd_T111 sankTo
      rw [Int.toNat_natCast, List.getD_eq_getElem?_getD, List.getElem?_map, List.getElem?_eq_getElem hvL]; rfl
    rw [e]
    have hb := hs.1 _ (List.getElem_mem hvL)
    obtain ⟨s, hs'⟩ : ∃ s : Nat, L[v] = s := ⟨L[v].toNat, by omega⟩
    rw [hs']
    exact leaf_tells _ _ _ _ v s (by omega) (by unfold lOf; rw [rd_nat L v hvL, hs']; rfl)
  | succ m ih =>
    have hlen := sankTo_length C.length C F J L m
    by_cases e : v < n + m
    · simp only [sankTo]
      rw [rd_T111_old _ _ v (by omega), TT.tr_succ n _ _ m v e]
      exact ih (by omega) v e
    · obtain rfl : v = n + m := by omega
      simp only [sankTo]
      rw [rd_T111_new _ _ _ (by omega), TT.tr_new]
      obtain ⟨⟨a0, a1, _⟩, b0, b1, _⟩ := ht.2.2.2 m (by omega)
      have ea : (rd_T67 J m).f0 = ((aOf J m : Nat) : Int) := by unfold aOf; omega
      have eb : (rd_T67 J m).f1 = ((bOf J m : Nat) : Int) := by unfold bOf; omega
      rw [ea, eb]
      have hVm : TT.Valid n (aOf J) (bOf J) (m + 1) := fun i hi => hV i (by omega)
      have hx := idx_le n (aOf J) (bOf J) (m + 1) hVm (n + m) (by simp [TT.rootsTo])
      rw [TT.tr_new, TT.idx_length_node] at hx
      have := ht.2.2.1
      have := ht.2.1
      exact join_tells hc m _ _ _ _ rfl (by omega) (ih (by omega) _ (by omega)) (ih (by omega) _ (by omega))
/-- What least answers. -/
theorem leastOf_is (ht : TreeOk n J) (hc : CostsOk C) (hs : StatesOk n C.length L) : P.leastOf C.length C F J L = TT.leastE (TT.tab (cOf C) C.length (lOf L) (fOf F) (TT.whole n (aOf J) (bOf J))) C.length := by
  have hV : TT.Valid n (aOf J) (bOf J) J.length := valid_of ht
  have h1 := ht.2.2.1
  have h2 := ht.2.1
  have h3 := ht.1
  have hLn : L.length = n := by have := hs.2; omega
  have hJn : J.length = n - 1 := by omega
  unfold P.leastOf
  have e : L.length + J.length - 1 = 2 * n - 2 := by omega
  rw [e]
  have T := sank_tells (F := F) ht hc hs J.length (Nat.le_refl _) (2 * n - 2) (by omega)
  rw [hJn] at T
  have hk := hc.2.2
  have hidx := TT.whole_idx n (aOf J) (bOf J) (by omega) (by rw [← hJn]; exact hV)
  have hlen : (TT.whole n (aOf J) (bOf J)).idx.length ≤ 7 := by rw [hidx.length_eq, List.length_range]; omega
  have B := TT.tab_bounds (cOf C) C.length (lOf L) (fOf F) hk (costs_of hc) (TT.whole n (aOf J) (bOf J)) (by omega)
  rw [hJn]
  refine leastTo_is C.length _ _ 268435456 T (by omega) (fun s hs => ⟨(B s hs).1.1, Int.le_trans (B s hs).1.2 ?_⟩) C.length (Nat.le_refl _)
  have mono : ∀ a : Nat, a ≤ 7 → (16 : Int) ^ a ≤ 268435456 := by decide
  exact mono _ hlen
/-- The cost of a labeling. -/
def totalOf (n : Nat) (J : List S67) (C : List (List Int)) (L : List Int) (x : Nat → Nat) : Int := TT.total n (aOf J) (bOf J) (cOf C) (lOf L) x J.length
theorem least_min (ht : TreeOk n J) (hc : CostsOk C) (hs : StatesOk n C.length L) (hF : ∀ i, i < J.length → fOf F i < C.length) :
    (∀ x : Nat → Nat, (∀ i, i < J.length → x i < C.length ∧ (0 ≤ fOf F i → fOf F i = x i)) → (P.leastOf C.length C F J L).1 ≤ totalOf n J C L x) ∧
    (∃ x : Nat → Nat, (∀ i, x i < C.length) ∧ (∀ i, i < J.length → 0 ≤ fOf F i → fOf F i = x i) ∧ totalOf n J C L x = (P.leastOf C.length C F J L).1) ∧
    0 < (P.leastOf C.length C F J L).2 ∧ 0 ≤ (P.leastOf C.length C F J L).1 := by
  have h1 := ht.2.2.1
  have h2 := ht.2.1
  have h3 := ht.1
  have hJn : J.length = n - 1 := by omega
  have hV : TT.Valid n (aOf J) (bOf J) J.length := valid_of ht
  have hL : ∀ v, v < n → lOf L v < C.length := by
    intro v hv
    have hvL : v < L.length := by have := hs.2; omega
    have := hs.1 _ (List.getElem_mem hvL)
    unfold lOf
    rw [rd_nat L v hvL]
    omega
  rw [leastOf_is ht hc hs]
  unfold totalOf
  rw [hJn] at hV hF ⊢
  exact TT.sankoff_is n (aOf J) (bOf J) (cOf C) C.length (lOf L) (fOf F) hc.2.2 hc.2.1 (costs_of hc) (by omega) (by omega) hV hL hF
end
theorem none_free (J : List S67) (i : Nat) (h : i < J.length) : fOf (none_ J) i = -1 := by
  unfold fOf none_
  exact rd_replicate _ _ _ h
end Go.Proofs.Ytcphmeeighhdjaa.Pure

-- out of RY
namespace Go.Proofs.Ytcphmeeighhdjaa.Pure
open Go Go.Proofs Go.RowKit Go.Proofs.Ytcphmeeighhdjaa.P Go.Proofs.YtcphmeeighhdjaaW.PrintWords Go.Proofs.YtcphmeeighhdjaaW.PrintLast
set_option linter.unusedVariables false
/-- A table, as the reference lays it. -/
def mk3 (k : Nat) (f : Nat → Int × Int) : S63 := ⟨(List.range k).map (fun s => (f s).1), (List.range k).map (fun s => (f s).2)⟩
/-- A table in which a state without ways costs more than any cost. -/
def Vt (k : Nat) (f : Nat → Int × Int) : Prop := ∀ s, s < k → (0 ≤ (f s).2 ∧ (f s).2 ≤ 268435456) ∧ ((f s).2 = 0 → (f s).1 = TT.far) ∧ ((f s).2 ≠ 0 → 0 ≤ (f s).1 ∧ (f s).1 ≤ 1400)
theorem mk3_rd (k : Nat) (f : Nat → Int × Int) (s : Nat) (hs : s < k) : rd (mk3 k f).f0 s = (f s).1 ∧ rd (mk3 k f).f1 s = (f s).2 := by
  unfold mk3
  constructor
  · rw [rd_nat _ s (by simp; exact hs)]; simp
  · rw [rd_nat _ s (by simp; exact hs)]; simp
theorem best3_ev (k : Nat) (hk : k ≤ 4) (f : Nat → Int × Int) (R : Nat → Int) (row : List Int) (hf : Vt k f) (hl : row.length = k) (hr : ∀ s, s < k → rd row s = R s ∧ 0 ≤ R s ∧ R s ≤ 100) :
    Ev (fun q => woggleref02_Best.f q (mk3 k f).f0 (mk3 k f).f1 row) (TT.belowE R f k) := by
  unfold woggleref02_Best.f
  have l0 : (mk3 k f).f0.length = k := by simp [mk3]
  have l1 : (mk3 k f).f1.length = k := by simp [mk3]
  have B := fun m (hm : m ≤ k) => TT.below_many R f m 268435456 (fun s hs => (hf s (by omega)).1)
  have key := up_ind (fun m => Ev (fun q => woggleref02_Best.l0 q row (TT.belowE R f m).1 (TT.belowE R f m).2 (m : Int) (mk3 k f).f0 (mk3 k f).f1) (TT.belowE R f k)) k ?_ ?_
  · exact key
  · exact Ev.step (f := fun _ => some (TT.belowE R f k)) (fun q => by simp only [woggleref02_Best.l0]; rw [if_neg (by omega)]) (Ev.now _)
  · intro m hm ih
    obtain ⟨e0, e1⟩ := mk3_rd k f m hm
    obtain ⟨r0, r1, r2⟩ := hr m hm
    obtain ⟨f1, f2, f3⟩ := hf m hm
    have Bm := B m (by omega)
    have hbest : (TT.belowE R f (m + 1)) = if (f m).2 = 0 then TT.belowE R f m else if (f m).1 + R m < (TT.belowE R f m).1 then ((f m).1 + R m, (f m).2) else if (f m).1 + R m = (TT.belowE R f m).1 then ((TT.belowE R f m).1, (TT.belowE R f m).2 + (f m).2) else TT.belowE R f m := rfl
    have p1 : (m : Int) < (row.length : Int) := by omega
    have p2 : (m : Int) < ((mk3 k f).f0.length : Int) := by omega
    have p3 : (m : Int) < ((mk3 k f).f1.length : Int) := by omega
    by_cases c : (f m).2 = 0
    · have hfar := f2 c
      rw [hbest, if_pos c] at ih
      refine Ev.step (f := fun q => woggleref02_Best.j1 q row (TT.belowE R f m).1 (TT.belowE R f m).2 (m : Int) (wrap64 ((f m).1 + R m)) false (mk3 k f).f0 (mk3 k f).f1) (fun q => ?_) (Ev.step (fun q => ?_) ih)
      · simp only [woggleref02_Best.l0]
        rw [if_pos p1, if_pos (show 0 ≤ (m : Int) by omega), if_pos p2, e0, r0, if_neg (by rw [hfar]; unfold TT.far; omega)]
      · simp only [woggleref02_Best.j1]
        rw [if_neg (by decide), if_pos (show 0 ≤ (m : Int) by omega), if_pos p2, e0, if_neg (by rw [hfar]; unfold TT.far; omega), succ_w m (by omega)]
    · have hs := f3 c
      rw [hbest, if_neg c] at ih
      have hw : wrap64 ((f m).1 + R m) = (f m).1 + R m := w64 _ (by omega) (by omega)
      have hwz : wrap64 ((TT.belowE R f m).2 + (f m).2) = (TT.belowE R f m).2 + (f m).2 := by
        have : (m : Int) * 268435456 ≤ 4 * 268435456 := Int.mul_le_mul_of_nonneg_right (by omega) (by omega)
        exact w64 _ (by omega) (by omega)
      have HW := Aside0.mk hw
      have HWZ := Aside0.mk hwz
      clear hw hwz
      refine Ev.step (f := fun q => woggleref02_Best.j1 q row (TT.belowE R f m).1 (TT.belowE R f m).2 (m : Int) ((f m).1 + R m) (decide ((f m).1 + R m < (TT.belowE R f m).1)) (mk3 k f).f0 (mk3 k f).f1) (fun q => ?_) ?_
      · simp only [woggleref02_Best.l0]
        rw [if_pos p1, if_pos (show 0 ≤ (m : Int) by omega), if_pos p2, e0, r0, if_pos (by omega), HW.out]
      · by_cases d : (f m).1 + R m < (TT.belowE R f m).1
        · rw [if_pos d] at ih
          refine Ev.step (fun q => ?_) ih
          simp only [woggleref02_Best.j1]
          rw [if_pos (decide_eq_true d), if_pos (show 0 ≤ (m : Int) by omega), if_pos p3, e1, succ_w m (by omega)]
        · rw [if_neg d] at ih
          by_cases e : (f m).1 + R m = (TT.belowE R f m).1
          · rw [if_pos e] at ih
            refine Ev.step (fun q => ?_) ih
            simp only [woggleref02_Best.j1]
            rw [if_neg (by rw [decide_eq_false d]; decide), if_pos (show 0 ≤ (m : Int) by omega), if_pos p2, e0, if_pos (by omega), if_pos e, if_pos p3, e1, HWZ.out, succ_w m (by omega)]
          · rw [if_neg e] at ih
            refine Ev.step (fun q => ?_) ih
            simp only [woggleref02_Best.j1]
            rw [if_neg (by rw [decide_eq_false d]; decide), if_pos (show 0 ≤ (m : Int) by omega), if_pos p2, e0, if_pos (by omega), if_neg e, succ_w m (by omega)]
/-- With no costs at all the least is the root's. -/
theorem zero_least (f : Nat → Int × Int) (k : Nat) (hf : Vt k f) : ∀ m, m ≤ k → (TT.leastE f m = (-1, 0) ∧ TT.belowE (fun _ => 0) f m = (TT.far, 0)) ∨ (TT.leastE f m = TT.belowE (fun _ => 0) f m ∧ 0 ≤ (TT.leastE f m).1 ∧ (TT.leastE f m).1 ≤ 1400)
  | 0, _ => .inl ⟨rfl, rfl⟩
  | m + 1, h => by
    have ih := zero_least f k hf m (by omega)
    obtain ⟨f1, f2, f3⟩ := hf m (by omega)
    simp only [TT.leastE, TT.belowE, Int.add_zero]
    by_cases c : (f m).2 = 0
    · rw [if_pos c, if_pos c]; exact ih
    · have hs := f3 c
      rw [if_neg c, if_neg c]
      rcases ih with ⟨e1, e2⟩ | ⟨e1, e2, e3⟩
      · rw [e1, e2, if_pos (.inl (by decide)), if_pos (show (f m).1 < TT.far by unfold TT.far; omega)]
        exact .inr ⟨rfl, hs⟩
      · rw [← e1]
        by_cases d : (f m).1 < (TT.leastE f m).1
        · rw [if_pos (.inr d), if_pos d]
          exact .inr ⟨rfl, hs⟩
        · rw [if_neg (show ¬ ((TT.leastE f m).1 < 0 ∨ (f m).1 < (TT.leastE f m).1) by omega), if_neg d]
          by_cases e : (f m).1 = (TT.leastE f m).1
          · rw [if_pos e]; exact .inr ⟨rfl, e2, e3⟩
          · rw [if_neg e]; exact .inr ⟨rfl, e2, e3⟩
section
variable {n : Nat} {J : List S67} {C : List (List Int)} {L : List Int}
/-- The tables of the trees: no state is fixed. -/
def tb (C : List (List Int)) (L : List Int) : TT.T → Nat → Int × Int := TT.tab (cOf C) C.length (lOf L) (fun _ => -1)
theorem pow7 : ∀ a : Nat, a ≤ 7 → (16 : Int) ^ a ≤ 268435456 := by decide
theorem tb_vt (hc : CostsOk C) (t : TT.T) (hn : t.idx.length ≤ 7) (hL : ∀ v ∈ t.leaves, lOf L v < C.length) : Vt C.length (tb C L t) := by
  intro s hs
  have B := TT.tab_bounds (cOf C) C.length (lOf L) (fun _ => -1) hc.2.2 (costs_of hc) t (by omega) s hs
  refine ⟨⟨B.1.1, Int.le_trans B.1.2 (pow7 _ hn)⟩, fun h0 => ?_, fun h0 => by have b2 : 0 ≤ (tb C L t s).1 ∧ (tb C L t s).1 ≤ 200 * (t.idx.length : Int) := B.2 h0; omega⟩
  cases t with
  | leaf v =>
    unfold tb TT.tab at h0 ⊢
    by_cases e : s = lOf L v
    · rw [if_pos e] at h0; exact absurd h0 (by decide)
    · rw [if_neg e]
  | node i l r =>
    exfalso
    have := TT.tab_le (cOf C) C.length (lOf L) (fun _ => -1) hc.2.2 (costs_of hc) (TT.T.node i l r) (by omega) hL (fun _ => s) (fun j hj => ⟨hs, fun h => absurd (show (0 : Int) ≤ -1 from h) (by decide)⟩)
    exact this.2.1 h0
theorem jr_ev (hc : CostsOk C) (i : Nat) (l r : TT.T) (hn : 1 + (l.idx.length + r.idx.length) ≤ 7) (hl : ∀ v ∈ l.leaves, lOf L v < C.length) (hr : ∀ v ∈ r.leaves, lOf L v < C.length) :
    Ev (fun q => jr q (mk3 C.length (tb C L l)) (mk3 C.length (tb C L r)) C C.length 0 [] []) (mk3 C.length (tb C L (TT.T.node i l r))) := by
  have vl := tb_vt hc l (by omega) hl
  have vr := tb_vt hc r (by omega) hr
  have hC := costs_of hc
  have Bn := TT.tab_bounds (cOf C) C.length (lOf L) (fun _ => -1) hc.2.2 hC (TT.T.node i l r) (by rw [TT.idx_length_node]; omega)
  have key := up_ind (fun s => Ev (fun q => jr q (mk3 C.length (tb C L l)) (mk3 C.length (tb C L r)) C (C.length - s) s ((List.range s).map (fun u => (tb C L (TT.T.node i l r) u).1)) ((List.range s).map (fun u => (tb C L (TT.T.node i l r) u).2))) (mk3 C.length (tb C L (TT.T.node i l r)))) C.length ?_ ?_
  · exact key
  · rw [Nat.sub_self]; exact Ev.now _
  · intro s hs ih
    have hrow : (rd_L3 C s).length = C.length ∧ ∀ u, u < C.length → rd (rd_L3 C s) u = cOf C s u ∧ 0 ≤ cOf C s u ∧ cOf C s u ≤ 100 := by
      refine ⟨by rw [rd_L3_nat C s hs]; exact (hc.1 _ (List.getElem_mem _)).1, fun u hu => ⟨rfl, hC s u hs hu⟩⟩
    have e1 := best3_ev C.length hc.2.2 (tb C L l) (cOf C s) (rd_L3 C s) vl hrow.1 hrow.2
    have e2 := best3_ev C.length hc.2.2 (tb C L r) (cOf C s) (rd_L3 C s) vr hrow.1 hrow.2
    have sl := TT.below_spec (cOf C s) (tb C L l) C.length (fun u hu => (vl u hu).1.1) (fun u hu h => by have := (vl u hu).2.2 h; have := hC s u hs hu; unfold TT.far; omega)
    have sr := TT.below_spec (cOf C s) (tb C L r) C.length (fun u hu => (vr u hu).1.1) (fun u hu h => by have := (vr u hu).2.2 h; have := hC s u hs hu; unfold TT.far; omega)
    have bd : ∀ (t : TT.T), Vt C.length (tb C L t) → ((TT.belowE (cOf C s) (tb C L t) C.length).2 ≠ 0 → ∃ u, u < C.length ∧ (tb C L t u).2 ≠ 0 ∧ (TT.belowE (cOf C s) (tb C L t) C.length).1 = (tb C L t u).1 + cOf C s u) → ((TT.belowE (cOf C s) (tb C L t) C.length).2 = 0 → (TT.belowE (cOf C s) (tb C L t) C.length).1 = TT.far) → 0 ≤ (TT.belowE (cOf C s) (tb C L t) C.length).1 ∧ (TT.belowE (cOf C s) (tb C L t) C.length).1 ≤ 1073741824 := by
      intro t vt h1 h2
      by_cases z : (TT.belowE (cOf C s) (tb C L t) C.length).2 = 0
      · rw [h2 z]; unfold TT.far; omega
      · obtain ⟨u, hu, g1, g2⟩ := h1 z
        have := (vt u hu).2.2 g1
        have := hC s u hs hu
        omega
    have dl := bd l vl sl.2.2.1 sl.2.2.2
    have dr := bd r vr sr.2.2.1 sr.2.2.2
    have hnode : tb C L (TT.T.node i l r) s = ((TT.belowE (cOf C s) (tb C L l) C.length).1 + (TT.belowE (cOf C s) (tb C L r) C.length).1, (TT.belowE (cOf C s) (tb C L l) C.length).2 * (TT.belowE (cOf C s) (tb C L r) C.length).2) := by
      unfold tb
      simp only [TT.tab]
      rw [if_neg (by omega)]
    have w1 : wrap64 ((TT.belowE (cOf C s) (tb C L l) C.length).1 + (TT.belowE (cOf C s) (tb C L r) C.length).1) = (tb C L (TT.T.node i l r) s).1 := by rw [hnode]; exact w64 _ (by omega) (by omega)
    have w2 : wrap64 ((TT.belowE (cOf C s) (tb C L l) C.length).2 * (TT.belowE (cOf C s) (tb C L r) C.length).2) = (tb C L (TT.T.node i l r) s).2 := by
      have b := (Bn s hs).1
      have b2 : (tb C L (TT.T.node i l r) s).2 ≤ 268435456 := Int.le_trans b.2 (pow7 _ (by rw [TT.idx_length_node]; omega))
      have b1 : 0 ≤ (tb C L (TT.T.node i l r) s).2 := b.1
      rw [hnode] at b1 b2 ⊢
      exact w64 _ (by omega) (by omega)
    have W := Aside0.mk (And.intro w1 w2)
    clear w1 w2
    rw [show C.length - s = (C.length - (s + 1)) + 1 by omega]
    refine Ev.bind e1 (Ev.bind e2 ?_)
    show Ev (fun q => jr q (mk3 C.length (tb C L l)) (mk3 C.length (tb C L r)) C (C.length - (s + 1)) (s + 1) ((List.range s).map (fun u => (tb C L (TT.T.node i l r) u).1) ++ [wrap64 ((TT.belowE (cOf C s) (tb C L l) C.length).1 + (TT.belowE (cOf C s) (tb C L r) C.length).1)]) ((List.range s).map (fun u => (tb C L (TT.T.node i l r) u).2) ++ [wrap64 ((TT.belowE (cOf C s) (tb C L l) C.length).2 * (TT.belowE (cOf C s) (tb C L r) C.length).2)])) _
    rw [W.out.1, W.out.2, ← range_succ_map (fun u => (tb C L (TT.T.node i l r) u).1), ← range_succ_map (fun u => (tb C L (TT.T.node i l r) u).2)]
    exact ih
theorem leaf3 (K s : Nat) (f : Nat → Int × Int) (hf : ∀ t, t < K → f t = if t = s then (0, 1) else (TT.far, 0)) : leafN K (s : Int) = mk3 K f := by
  have key : ∀ t, t ≤ K → (leafTo (s : Int) t).1 = (List.range t).map (fun u => (f u).1) ∧ (leafTo (s : Int) t).2 = (List.range t).map (fun u => (f u).2) := by
    intro t
    induction t with
    | zero => intro _; exact ⟨rfl, rfl⟩
    | succ t ih =>
      intro h
      obtain ⟨a, b⟩ := ih (by omega)
      rw [range_succ_map, range_succ_map, hf t (by omega), ← a, ← b]
      have el : leafTo (s : Int) (t + 1) = if (t : Int) = s then ((leafTo (s : Int) t).1 ++ [0], (leafTo (s : Int) t).2 ++ [1]) else ((leafTo (s : Int) t).1 ++ [1073741824], (leafTo (s : Int) t).2 ++ [0]) := rfl
      rw [el]
      by_cases c : t = s
      · rw [if_pos (by omega), if_pos c]; exact ⟨rfl, rfl⟩
      · rw [if_neg (by omega), if_neg c]; exact ⟨rfl, rfl⟩
  have := key K (Nat.le_refl _)
  unfold leafN mk3
  rw [this.1, this.2]
/-- The tables of all nodes. -/
def nodes3 (n : Nat) (J : List S67) (C : List (List Int)) (L : List Int) (m : Nat) : List S63 := (List.range (n + m)).map (fun v => mk3 C.length (tb C L (TT.tr n (aOf J) (bOf J) m v)))
theorem nodes_rd (m v : Nat) (hv : v < n + m) : rd_T63 (nodes3 n J C L m) v = mk3 C.length (tb C L (TT.tr n (aOf J) (bOf J) m v)) := by
  unfold rd_T63 nodes3
  rw [Int.toNat_natCast, List.getD_eq_getElem?_getD, List.getElem?_map, List.getElem?_eq_getElem (by simp; exact hv)]
  simp
theorem tr_facts (ht : TreeOk n J) (hs : StatesOk n C.length L) (m : Nat) (hm : m ≤ J.length) (v : Nat) (hv : v ∈ TT.rootsTo n (aOf J) (bOf J) m) :
    (TT.tr n (aOf J) (bOf J) m v).idx.length ≤ m ∧ ∀ u ∈ (TT.tr n (aOf J) (bOf J) m v).leaves, lOf L u < C.length := by
  have hV : TT.Valid n (aOf J) (bOf J) J.length := valid_of ht
  have hVm : TT.Valid n (aOf J) (bOf J) m := fun i hi => hV i (by omega)
  refine ⟨idx_le n _ _ m hVm v hv, fun u hu => ?_⟩
  have p := TT.roots_leaves n (aOf J) (bOf J) m hVm
  have hin : u ∈ List.range n := p.mem_iff.1 (List.mem_flatMap.2 ⟨v, hv, hu⟩)
  have hu' := List.mem_range.1 hin
  have hvL : u < L.length := by have := hs.2; omega
  have := hs.1 _ (List.getElem_mem hvL)
  unfold lOf
  rw [rd_nat L u hvL]
  omega
theorem nr_ev (ht : TreeOk n J) (hc : CostsOk C) (hs : StatesOk n C.length L) : Ev (fun q => nr q C J J.length 0 (L.map (leafN C.length))) (nodes3 n J C L J.length) := by
  have hLn : L.length = n := by have := hs.2; omega
  have hV : TT.Valid n (aOf J) (bOf J) J.length := valid_of ht
  have h0 : L.map (leafN C.length) = nodes3 n J C L 0 := by
    unfold nodes3
    refine List.ext_getElem (by simp [hLn]) (fun v h1 h2 => ?_)
    simp only [List.length_map] at h1
    simp only [List.getElem_map, List.getElem_range]
    rw [TT.tr_leaf n _ _ v (by omega)]
    have hb := hs.1 _ (List.getElem_mem h1)
    obtain ⟨s, hs'⟩ : ∃ s : Nat, L[v] = s := ⟨L[v].toNat, by omega⟩
    rw [hs']
    refine leaf3 C.length s _ (fun t _ => ?_)
    have e : lOf L v = s := by unfold lOf; rw [rd_nat L v h1, hs']; rfl
    unfold tb TT.tab
    rw [e]
  rw [h0]
  have key := up_ind (fun m => Ev (fun q => nr q C J (J.length - m) m (nodes3 n J C L m)) (nodes3 n J C L J.length)) J.length ?_ ?_
  · exact key
  · rw [Nat.sub_self]; exact Ev.now _
  · intro m hm ih
    obtain ⟨⟨a0, a1, _⟩, b0, b1, _⟩ := ht.2.2.2 m hm
    have ea : (rd_T67 J m).f0 = ((aOf J m : Nat) : Int) := by unfold aOf; omega
    have eb : (rd_T67 J m).f1 = ((bOf J m : Nat) : Int) := by unfold bOf; omega
    obtain ⟨ra, rb, _⟩ := hV m hm
    have Fa := tr_facts ht hs m (by omega) _ ra
    have Fb := tr_facts ht hs m (by omega) _ rb
    have hx := tr_facts ht hs (m + 1) (by omega) (n + m) (by simp [TT.rootsTo])
    rw [TT.tr_new, TT.idx_length_node] at hx
    have hn := ht.2.2.1
    have hn8 := ht.2.1
    have e := jr_ev hc m _ _ (by omega) Fa.2 Fb.2
    have hup : nodes3 n J C L (m + 1) = nodes3 n J C L m ++ [mk3 C.length (tb C L (TT.T.node m (TT.tr n (aOf J) (bOf J) m (aOf J m)) (TT.tr n (aOf J) (bOf J) m (bOf J m))))] := by
      unfold nodes3
      rw [show n + (m + 1) = n + m + 1 by omega, range_succ_map, TT.tr_new]
      congr 1
      refine List.map_congr_left (fun v hv => ?_)
      rw [TT.tr_succ n _ _ m v (List.mem_range.1 hv)]
    rw [show J.length - m = (J.length - (m + 1)) + 1 by omega]
    show Ev (fun q => (jr q (rd_T63 (nodes3 n J C L m) (rd_T67 J m).f0) (rd_T63 (nodes3 n J C L m) (rd_T67 J m).f1) C C.length 0 [] []).bind fun x => nr q C J (J.length - (m + 1)) (m + 1) (nodes3 n J C L m ++ [x])) _
    rw [ea, eb, nodes_rd m _ (by omega), nodes_rd m _ (by omega)]
    refine Ev.bind e ?_
    rw [← hup]
    exact ih
theorem nodes_ev (ht : TreeOk n J) (hc : CostsOk C) (hs : StatesOk n C.length L) : Ev (fun q => woggleref02_Nodes.f q n J C L) (nodes3 n J C L J.length) := by
  have h1 := ht.2.2.1
  have h2 := ht.2.1
  have h3 := hc.2.2
  have h4 := hs.2
  refine Ev.congr (fun q => ?_) (nr_ev ht hc hs)
  unfold woggleref02_Nodes.f
  have hok : NodesOk n J C L := ⟨by omega, by omega, by omega, by omega, fun i hi => by
    obtain ⟨⟨a0, a1, _⟩, b0, b1, _⟩ := ht.2.2.2 i hi
    omega⟩
  rw [if_pos hok]
/-- The root's table. -/
theorem root_rd (ht : TreeOk n J) : rd_T63 (nodes3 n J C L J.length) ((2 * n - 2 : Nat) : Int) = mk3 C.length (tb C L (TT.whole n (aOf J) (bOf J))) := by
  have h1 := ht.2.2.1
  have h2 := ht.1
  rw [nodes_rd J.length (2 * n - 2) (by omega)]
  unfold TT.whole
  rw [show J.length = n - 1 by omega]
theorem root_vt (ht : TreeOk n J) (hc : CostsOk C) (hs : StatesOk n C.length L) : Vt C.length (tb C L (TT.whole n (aOf J) (bOf J))) := by
  have h1 := ht.2.2.1
  have h2 := ht.1
  have h3 := ht.2.1
  have hV : TT.Valid n (aOf J) (bOf J) J.length := valid_of ht
  rw [show J.length = n - 1 by omega] at hV
  refine tb_vt hc _ (by rw [(TT.whole_idx n _ _ (by omega) hV).length_eq, List.length_range]; omega) (fun u hu => ?_)
  have hin := (TT.whole_leaves n _ _ (by omega) hV).mem_iff.1 hu
  have hu' := List.mem_range.1 hin
  have hvL : u < L.length := by have := hs.2; omega
  have := hs.1 _ (List.getElem_mem hvL)
  unfold lOf
  rw [rd_nat L u hvL]
  omega
theorem rleast_ev (ht : TreeOk n J) (hc : CostsOk C) (hs : StatesOk n C.length L) : Ev (fun q => woggleref02_Least.f q n J C L) (P.leastOf C.length C (none_ J) J L) := by
  have h1 := ht.2.2.1
  have h2 := ht.1
  have h3 := ht.2.1
  have k4 := hc.2.2
  have hlen : (nodes3 n J C L J.length).length = 2 * n - 1 := by unfold nodes3; rw [List.length_map, List.length_range]; omega
  have hw : wrap64 (((nodes3 n J C L J.length).length : Int) - 1) = ((2 * n - 2 : Nat) : Int) := by rw [hlen, w64 _ (by omega) (by omega)]; omega
  have vt := root_vt ht hc hs
  have eb := best3_ev C.length k4 (tb C L (TT.whole n (aOf J) (bOf J))) (fun _ => 0) (List.replicate C.length 0) vt (by simp) (fun s hs => ⟨rd_replicate _ _ _ hs, Int.le_refl _, by decide⟩)
  have LM := least_min (F := none_ J) ht hc hs (fun i hi => by rw [none_free J i hi]; omega)
  have hlo := leastOf_is (F := none_ J) ht hc hs
  have hcongr : TT.leastE (TT.tab (cOf C) C.length (lOf L) (fOf (none_ J)) (TT.whole n (aOf J) (bOf J))) C.length = TT.leastE (tb C L (TT.whole n (aOf J) (bOf J))) C.length := by
    congr 1
    have hV : TT.Valid n (aOf J) (bOf J) J.length := valid_of ht
    rw [show J.length = n - 1 by omega] at hV
    have hidx := TT.whole_idx n (aOf J) (bOf J) (by omega) hV
    have key : ∀ t : TT.T, (∀ i ∈ t.idx, i < J.length) → TT.tab (cOf C) C.length (lOf L) (fOf (none_ J)) t = TT.tab (cOf C) C.length (lOf L) (fun _ => -1) t := by
      intro t
      induction t with
      | leaf v => intro _; rfl
      | node i l r ihl ihr =>
        intro h
        funext s
        simp only [TT.tab]
        rw [ihl (fun j hj => h j (by simp [TT.T.idx, hj])), ihr (fun j hj => h j (by simp [TT.T.idx, hj])), none_free J i (h i (by simp [TT.T.idx]))]
    exact key _ (fun i hi => by have := List.mem_range.1 (hidx.mem_iff.1 hi); omega)
  rw [hcongr] at hlo
  have hz := zero_least (tb C L (TT.whole n (aOf J) (bOf J))) C.length vt C.length (Nat.le_refl _)
  rw [hlo] at LM ⊢
  have hz' : TT.leastE (tb C L (TT.whole n (aOf J) (bOf J))) C.length = TT.belowE (fun _ => 0) (tb C L (TT.whole n (aOf J) (bOf J))) C.length := by
    rcases hz with ⟨e, _⟩ | ⟨e, _⟩
    · have := LM.2.2.1
      rw [e] at this
      exact absurd this (by decide)
    · exact e
  rw [hz']
  unfold woggleref02_Least.f
  refine Ev.bind (nodes_ev ht hc hs) ?_
  rw [hw, root_rd ht]
  refine ev_pos (by omega) (ev_pos (by rw [hlen]; omega) (ev_pos (by omega) (ev_pos (by omega) ?_)))
  rw [Int.toNat_natCast]
  exact Ev.bind eb (Ev.now _)
end
end Go.Proofs.Ytcphmeeighhdjaa.Pure

-- out of PureTrackLeasts
namespace Go.Proofs.Ytcphmeeighhdjaa.Pure
open Go Go.Proofs Go.RowKit Go.Proofs.Ytcphmeeighhdjaa.P Go.Proofs.YtcphmeeighhdjaaW.PrintWords Go.Proofs.YtcphmeeighhdjaaW.PrintLast
set_option linter.unusedVariables false
theorem livesL_ev : Ev (fun k => wogglelaw02_lives.f k) true := Ev.of wogglelaw02_lives.mono track_lives_at
theorem TrackLeasts : wogglelaw02_TrackLeasts.Pure := by
  intro a0 x0 x1 x2 h0 g0 g1 g2
  apply Ev.rounds
  unfold wogglelaw02_TrackLeasts.f
  rw [few_f a0 x0 g0.1]
  have hJ : (x0.take 9).length ≤ 9 := List.length_take_le _ _
  have hL : (x2.take 9).length ≤ 9 := List.length_take_le _ _
  have hC : ((x1.take 9).map (fun x => x.take 9)).length ≤ 9 := by rw [List.length_map]; exact List.length_take_le _ _
  have hr := rows_ev x1 ⟨g1.1, fun x hx => (g1.2 x hx).1⟩
  rw [cut_f x2 g2.1]
  generalize x0.take 9 = J at *
  generalize x2.take 9 = L at *
  generalize (x1.take 9).map (fun x => x.take 9) = C at *
  simp only [Option.bind_some]
  refine Ev.bind hr ?_
  have why := why_ev a0 J C L (by omega) (by omega)
  have rd := read_ev a0 J C L (by omega)
  by_cases c : errOf a0 J C L = 0
  · rw [c] at why rd
    obtain ⟨ht, hc, hs⟩ := errOf_zero c
    have t1 := ht.1
    obtain ⟨n, rfl⟩ : ∃ n : Nat, a0 = n := ⟨a0.toNat, by omega⟩
    have e1 : Ev (fun k => track_Least.f k n J C L) ((P.leastOf C.length C (none_ J) J L).1, 0) := by
      unfold track_Least.f
      exact Ev.bind rd (ev_pos rfl (Ev.now _))
    have e2 : Ev (fun k => track_Ways.f k n J C L) ((P.leastOf C.length C (none_ J) J L).2, 0) := by
      unfold track_Ways.f
      exact Ev.bind rd (ev_pos rfl (Ev.now _))
    exact Ev.bind e1 (Ev.bind e2 (Ev.bind why (ev_pos rfl (Ev.bind (rleast_ev ht hc hs) (ev_pos rfl (ev_pos rfl (ev_pos rfl (ev_pos rfl (Ev.bind livesL_ev (Ev.now _))))))))))
  · have e1 : Ev (fun k => track_Least.f k a0 J C L) (0, errOf a0 J C L) := by
      unfold track_Least.f
      exact Ev.bind rd (ev_neg c (Ev.now _))
    have e2 : Ev (fun k => track_Ways.f k a0 J C L) (0, errOf a0 J C L) := by
      unfold track_Ways.f
      exact Ev.bind rd (ev_neg c (Ev.now _))
    exact Ev.bind e1 (Ev.bind e2 (Ev.bind why (ev_neg c (ev_pos rfl (ev_pos rfl (ev_pos rfl (ev_pos rfl (Ev.bind livesL_ev (Ev.now _)))))))))
end Go.Proofs.Ytcphmeeighhdjaa.Pure
