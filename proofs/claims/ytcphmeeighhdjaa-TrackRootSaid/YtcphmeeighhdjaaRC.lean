/- Plain facts: what least answers is what the theory of trees calls the least cost. -/
import Derived.Test.YtcphmeeighhdjaaGH
import Derived.Test.YtcphmeeighhdjaaRA
namespace Go.Proofs.Ytcphmeeighhdjaa.Pure
open Go Go.Proofs Go.RowKit Go.Proofs.Ytcphmeeighhdjaa.P Go.Proofs.YtcphmeeighhdjaaW.PrintWords Go.Proofs.YtcphmeeighhdjaaW.PrintLast
set_option linter.unusedVariables false

def cOf (C : List (List Int)) (a b : Nat) : Int := rd (rd_L3 C a) b
def lOf (L : List Int) (v : Nat) : Nat := (rd L v).toNat
def fOf (F : List Int) (i : Nat) : Int := rd F i
def aOf (J : List S67) (i : Nat) : Nat := (rd_T67 J i).f0.toNat
def bOf (J : List S67) (i : Nat) : Nat := (rd_T67 J i).f1.toNat
theorem rd_set_same (l : List Int) (i : Nat) (x : Int) (h : i < l.length) : rd (l.set i x) i = x := by
  rw [rd_nat _ i (by rw [List.length_set]; exact h), List.getElem_set_self]
theorem rd_set_ne (l : List Int) (i j : Nat) (x : Int) (h : i ≠ j) : rd (l.set i x) j = rd l j := by
  unfold rd
  rw [Int.toNat_natCast, List.getD_eq_getElem?_getD, List.getD_eq_getElem?_getD, List.getElem?_set_ne h]
theorem rd_replicate (k j : Nat) (x : Int) (h : j < k) : rd (List.replicate k x) j = x := by
  rw [rd_nat _ j (by rw [List.length_replicate]; exact h), List.getElem_replicate]
/-- A table of lists tells a table. -/
def Tells (k : Nat) (t : S111) (f : Nat → Int × Int) : Prop := t.f0.length = k ∧ t.f1.length = k ∧ ∀ s, s < k → (rd t.f0 s, rd t.f1 s) = f s
theorem belowTo_is (k : Nat) (row : List Int) (C : Nat → Int) (t : S111) (f : Nat → Int × Int) (M : Int) (ht : Tells k t f) (hr : ∀ s, s < k → rd row s = C s) (hM : k * M ≤ 4611686018427387904) (hb : ∀ s, s < k → 0 ≤ (f s).2 ∧ (f s).2 ≤ M) (hc : ∀ s, s < k → (f s).2 ≠ 0 → 0 ≤ (f s).1 + C s ∧ (f s).1 + C s ≤ 4611686018427387904) :
    ∀ m, m ≤ k → belowTo row t.f0 t.f1 m = TT.belowE C f m := by
  intro m
  induction m with
  | zero => intro _; rfl
  | succ m ih =>
    intro hm
    have e := ht.2.2 m (by omega)
    have e1 : rd t.f0 m = (f m).1 := congrArg Prod.fst e
    have e2 : rd t.f1 m = (f m).2 := congrArg Prod.snd e
    simp only [belowTo, TT.belowE]
    rw [ih (by omega), e1, e2, hr m (by omega)]
    by_cases c : (f m).2 = 0
    · rw [if_pos c, if_pos c]
    · have h1 := hc m (by omega) c
      rw [if_neg c, if_neg c, w64 ((f m).1 + C m) (by omega) (by omega)]
      have h2 := TT.below_many C f (m + 1) M (fun s hs => hb s (by omega))
      have h3 := TT.below_many C f m M (fun s hs => hb s (by omega))
      have h4 := hb m (by omega)
      have h5 : ((m + 1 : Nat) : Int) * M ≤ k * M := Int.mul_le_mul_of_nonneg_right (by omega) (by omega)
      have h6 : ((m + 1 : Nat) : Int) * M = m * M + M := by rw [Int.natCast_add, Int.add_mul]; simp
      rw [w64 ((TT.belowE C f m).2 + (f m).2) (by omega) (by omega)]
theorem leastTo_is (k : Nat) (t : S111) (f : Nat → Int × Int) (M : Int) (ht : Tells k t f) (hM : k * M ≤ 4611686018427387904) (hb : ∀ s, s < k → 0 ≤ (f s).2 ∧ (f s).2 ≤ M) :
    ∀ m, m ≤ k → leastTo t.f0 t.f1 m = TT.leastE f m := by
  intro m
  induction m with
  | zero => intro _; rfl
  | succ m ih =>
    intro hm
    have e := ht.2.2 m (by omega)
    have e1 : rd t.f0 m = (f m).1 := congrArg Prod.fst e
    have e2 : rd t.f1 m = (f m).2 := congrArg Prod.snd e
    simp only [leastTo, TT.leastE]
    rw [ih (by omega), e1, e2]
    by_cases c : (f m).2 = 0
    · rw [if_pos c, if_pos c]
    · rw [if_neg c, if_neg c]
      have h3 := TT.least_many f m M (fun s hs => hb s (by omega))
      have h4 := hb m (by omega)
      have h5 : ((m + 1 : Nat) : Int) * M ≤ k * M := Int.mul_le_mul_of_nonneg_right (by omega) (by omega)
      have h6 : ((m + 1 : Nat) : Int) * M = m * M + M := by rw [Int.natCast_add, Int.add_mul]; simp
      rw [w64 ((TT.leastE f m).2 + (f m).2) (by omega) (by omega)]
theorem leaf_tells (k : Nat) (C : Nat → Nat → Int) (L : Nat → Nat) (F : Nat → Int) (v s : Nat) (hs : s < k) (hL : L v = s) : Tells k (leafTab k s) (TT.tab C k L F (TT.T.leaf v)) := by
  refine ⟨by simp [leafTab], by simp [leafTab], fun u hu => ?_⟩
  simp only [leafTab, TT.tab, hL, Int.toNat_natCast]
  by_cases e : u = s
  · subst e
    rw [if_pos rfl, rd_set_same _ _ _ (by rw [List.length_replicate]; exact hu), rd_set_same _ _ _ (by rw [List.length_replicate]; exact hu)]
  · rw [if_neg e, rd_set_ne _ _ _ _ (fun h => e h.symm), rd_set_ne _ _ _ _ (fun h => e h.symm), rd_replicate _ _ _ hu, rd_replicate _ _ _ hu]; rfl
section
variable {C : List (List Int)} {k : Nat} {L : List Int} {F : List Int}
theorem costs_of (h : CostsOk C) : TT.Costs (cOf C) C.length := by
  intro a b ha hb
  unfold cOf
  rw [rd_L3_nat C a ha]
  have h1 := h.1 _ (List.getElem_mem ha)
  rw [rd_nat _ b (by rw [h1.1]; exact hb)]
  exact h1.2 _ (List.getElem_mem _)
theorem join_tells (hC : CostsOk C) (i : Nat) (l r : TT.T) (ta tb : S111) (hk : C.length = k) (hn : 1 + (l.idx.length + r.idx.length) ≤ 7)
    (hl : Tells k ta (TT.tab (cOf C) k (lOf L) (fOf F) l)) (hr : Tells k tb (TT.tab (cOf C) k (lOf L) (fOf F) r)) :
    Tells k (joinTo k C (rd F i) ta tb k) (TT.tab (cOf C) k (lOf L) (fOf F) (TT.T.node i l r)) := by
  subst hk
  have k4 := hC.2.2
  have hc := costs_of hC
  have B := TT.tab_bounds (cOf C) C.length (lOf L) (fOf F) k4 hc
  have Bl := B l (by omega)
  have Br := B r (by omega)
  have mono : ∀ a b : Nat, a ≤ b → (16 : Int) ^ a ≤ 16 ^ b := by
    intro a b h
    obtain ⟨d, rfl⟩ := Nat.exists_eq_add_of_le h
    rw [Int.pow_add]
    have h1 := TT.pow_pos16 d
    have h2 := TT.pow_pos16 a
    have := Int.mul_le_mul_of_nonneg_left h1 (show (0 : Int) ≤ 16 ^ a by omega)
    omega
  have M7 : (16 : Int) ^ 7 = 268435456 := by decide
  have Ml := mono l.idx.length 7 (by omega)
  have Mr := mono r.idx.length 7 (by omega)
  have key : ∀ m, m ≤ C.length → ∀ s, s < C.length → (rd (joinTo C.length C (rd F i) ta tb m).f0 s, rd (joinTo C.length C (rd F i) ta tb m).f1 s) = if s < m then TT.tab (cOf C) C.length (lOf L) (fOf F) (TT.T.node i l r) s else (TT.far, 0) := by
    intro m
    induction m with
    | zero =>
      intro _ s hs
      rw [if_neg (by omega)]
      simp only [joinTo]
      rw [rd_replicate _ _ _ hs, rd_replicate _ _ _ hs]; rfl
    | succ m ih =>
      intro hm s hs
      have ihm := ih (by omega)
      have hlen := joinTo_len C.length C (rd F i) ta tb m
      simp only [joinTo]
      have rowe : ∀ s, s < C.length → rd (rd_L3 C m) s = cOf C m s := fun s _ => rfl
      have bl := belowTo_is C.length (rd_L3 C m) (cOf C m) ta _ (16 ^ l.idx.length) hl rowe (by
        have : (C.length : Int) * 16 ^ l.idx.length ≤ 4 * 16 ^ l.idx.length := Int.mul_le_mul_of_nonneg_right (by omega) (by have := TT.pow_pos16 l.idx.length; omega)
        omega) (fun s hs => (Bl s hs).1) (fun s hs h => by have := (Bl s hs).2 h; have := hc m s (by omega) hs; omega) C.length (Nat.le_refl _)
      have br := belowTo_is C.length (rd_L3 C m) (cOf C m) tb _ (16 ^ r.idx.length) hr rowe (by
        have : (C.length : Int) * 16 ^ r.idx.length ≤ 4 * 16 ^ r.idx.length := Int.mul_le_mul_of_nonneg_right (by omega) (by have := TT.pow_pos16 r.idx.length; omega)
        omega) (fun s hs => (Br s hs).1) (fun s hs h => by have := (Br s hs).2 h; have := hc m s (by omega) hs; omega) C.length (Nat.le_refl _)
      rw [bl, br]
      have sl := TT.below_spec (cOf C m) _ C.length (fun u hu => (Bl u hu).1.1) (fun u hu h => by have := (Bl u hu).2 h; have := hc m u (by omega) hu; unfold TT.far; omega)
      have sr := TT.below_spec (cOf C m) _ C.length (fun u hu => (Br u hu).1.1) (fun u hu h => by have := (Br u hu).2 h; have := hc m u (by omega) hu; unfold TT.far; omega)
      have ml := TT.below_many (cOf C m) _ C.length _ (fun u hu => (Bl u hu).1)
      have mr := TT.below_many (cOf C m) _ C.length _ (fun u hu => (Br u hu).1)
      have fl : 0 ≤ (TT.belowE (cOf C m) (TT.tab (cOf C) C.length (lOf L) (fOf F) l) C.length).1 ∧ (TT.belowE (cOf C m) (TT.tab (cOf C) C.length (lOf L) (fOf F) l) C.length).1 ≤ 1073741824 := by
        by_cases z : (TT.belowE (cOf C m) (TT.tab (cOf C) C.length (lOf L) (fOf F) l) C.length).2 = 0
        · rw [sl.2.2.2 z]; unfold TT.far; omega
        · obtain ⟨u, hu, hu1, hu2⟩ := sl.2.2.1 z
          have := (Bl u hu).2 hu1; have := hc m u (by omega) hu
          rw [hu2]; omega
      have fr : 0 ≤ (TT.belowE (cOf C m) (TT.tab (cOf C) C.length (lOf L) (fOf F) r) C.length).1 ∧ (TT.belowE (cOf C m) (TT.tab (cOf C) C.length (lOf L) (fOf F) r) C.length).1 ≤ 1073741824 := by
        by_cases z : (TT.belowE (cOf C m) (TT.tab (cOf C) C.length (lOf L) (fOf F) r) C.length).2 = 0
        · rw [sr.2.2.2 z]; unfold TT.far; omega
        · obtain ⟨u, hu, hu1, hu2⟩ := sr.2.2.1 z
          have := (Br u hu).2 hu1; have := hc m u (by omega) hu
          rw [hu2]; omega
      have pr : 0 ≤ (TT.belowE (cOf C m) (TT.tab (cOf C) C.length (lOf L) (fOf F) l) C.length).2 * (TT.belowE (cOf C m) (TT.tab (cOf C) C.length (lOf L) (fOf F) r) C.length).2 ∧ (TT.belowE (cOf C m) (TT.tab (cOf C) C.length (lOf L) (fOf F) l) C.length).2 * (TT.belowE (cOf C m) (TT.tab (cOf C) C.length (lOf L) (fOf F) r) C.length).2 ≤ 268435456 := by
        refine ⟨Int.mul_nonneg ml.1 mr.1, ?_⟩
        have kl : (C.length : Int) * 16 ^ l.idx.length ≤ 4 * 16 ^ l.idx.length := Int.mul_le_mul_of_nonneg_right (by omega) (by have := TT.pow_pos16 l.idx.length; omega)
        have kr : (C.length : Int) * 16 ^ r.idx.length ≤ 4 * 16 ^ r.idx.length := Int.mul_le_mul_of_nonneg_right (by omega) (by have := TT.pow_pos16 r.idx.length; omega)
        have h1 := Int.mul_le_mul (Int.le_trans ml.2 kl) (Int.le_trans mr.2 kr) mr.1 (by have := TT.pow_pos16 l.idx.length; omega)
        rw [TT.pow16] at h1
        have h2 := mono _ _ hn
        omega
      have hnode : TT.tab (cOf C) C.length (lOf L) (fOf F) (TT.T.node i l r) m = if 0 ≤ rd F i ∧ rd F i ≠ m then (TT.far, 0) else
          ((TT.belowE (cOf C m) (TT.tab (cOf C) C.length (lOf L) (fOf F) l) C.length).1 + (TT.belowE (cOf C m) (TT.tab (cOf C) C.length (lOf L) (fOf F) r) C.length).1, (TT.belowE (cOf C m) (TT.tab (cOf C) C.length (lOf L) (fOf F) l) C.length).2 * (TT.belowE (cOf C m) (TT.tab (cOf C) C.length (lOf L) (fOf F) r) C.length).2) := rfl
      rw [w64 _ (by omega) (by omega), w64 _ (by omega) (by omega)]
      generalize (TT.belowE (cOf C m) (TT.tab (cOf C) C.length (lOf L) (fOf F) l) C.length) = bl at *
      generalize (TT.belowE (cOf C m) (TT.tab (cOf C) C.length (lOf L) (fOf F) r) C.length) = br at *
      by_cases c : 0 ≤ rd F i ∧ rd F i ≠ m
      · rw [if_pos c, ihm s hs]
        by_cases e : s = m
        · subst e
          rw [if_neg (Nat.lt_irrefl _), if_pos (Nat.lt_succ_self _), hnode, if_pos c]
        · by_cases e2 : s < m
          · rw [if_pos e2, if_pos (by omega)]
          · rw [if_neg e2, if_neg (by omega)]
      · rw [if_neg c]
        by_cases e : s = m
        · subst e
          rw [if_pos (Nat.lt_succ_self _), hnode, if_neg c, rd_set_same _ _ _ (by rw [hlen.1]; exact hs), rd_set_same _ _ _ (by rw [hlen.2]; exact hs)]
        · rw [rd_set_ne _ _ _ _ (fun h => e h.symm), rd_set_ne _ _ _ _ (fun h => e h.symm), ihm s hs]
          by_cases e2 : s < m
          · rw [if_pos e2, if_pos (by omega)]
          · rw [if_neg e2, if_neg (by omega)]
  refine ⟨(joinTo_len _ _ _ _ _ _).1, (joinTo_len _ _ _ _ _ _).2, fun s hs => ?_⟩
  rw [key C.length (Nat.le_refl _) s hs, if_pos hs]
end
theorem rd_T111_old (l : List S111) (x : S111) (v : Nat) (h : v < l.length) : rd_T111 (l ++ [x]) v = rd_T111 l v := by
  unfold rd_T111
  rw [Int.toNat_natCast, List.getD_eq_getElem?_getD, List.getD_eq_getElem?_getD, List.getElem?_append_left h]
theorem rd_T111_new (l : List S111) (x : S111) (v : Nat) (h : v = l.length) : rd_T111 (l ++ [x]) v = x := by
  unfold rd_T111
  rw [Int.toNat_natCast, List.getD_eq_getElem?_getD, h]
  simp
theorem idx_le (n : Nat) (A B : Nat → Nat) (m : Nat) (h : TT.Valid n A B m) (v : Nat) (hv : v ∈ TT.rootsTo n A B m) : (TT.tr n A B m v).idx.length ≤ m := by
  have p := TT.roots_idx n A B m h
  have := p.length_eq
  rw [List.length_range] at this
  have e := List.perm_cons_erase hv
  have q := (e.flatMap_right (fun v => (TT.tr n A B m v).idx)).length_eq
  rw [List.flatMap_cons, List.length_append] at q
  omega
section
variable {n : Nat} {J : List S67} {C : List (List Int)} {L F : List Int}
theorem sank_tells (ht : TreeOk n J) (hc : CostsOk C) (hs : StatesOk n C.length L) (m : Nat) (hm : m ≤ J.length) (v : Nat) (hv : v < n + m) :
    Tells C.length (rd_T111 (sankTo C.length C F J L m) v) (TT.tab (cOf C) C.length (lOf L) (fOf F) (TT.tr n (aOf J) (bOf J) m v)) := by
  have hV : TT.Valid n (aOf J) (bOf J) J.length := valid_of ht
  have hLn : L.length = n := by have := hs.2; omega
  induction m generalizing v with
  | zero =>
    rw [TT.tr_leaf n _ _ v (by omega)]
    have hvL : v < L.length := by omega
    have e : rd_T111 (sankTo C.length C F J L 0) v = leafTab C.length L[v] := by
      unfold rd_T111 sankTo
      rw [Int.toNat_natCast, List.getD_eq_getElem?_getD, List.getElem?_map, List.getElem?_eq_getElem hvL]; rfl
    rw [e]
    have hb := hs.1 _ (List.getElem_mem hvL)
    obtain ⟨s, hs'⟩ : ∃ s : Nat, L[v] = s := ⟨L[v].toNat, by omega⟩
    rw [hs']
    exact leaf_tells _ _ _ _ v s (by omega) (by unfold lOf; rw [rd_nat L v hvL, hs']; rfl)
  | succ m ih =>
    have hlen := sankTo_length C.length C F J L m
    by_cases e : v < n + m
    · simp only [sankTo]
      rw [rd_T111_old _ _ v (by omega), TT.tr_succ n _ _ m v e]
      exact ih (by omega) v e
    · obtain rfl : v = n + m := by omega
      simp only [sankTo]
      rw [rd_T111_new _ _ _ (by omega), TT.tr_new]
      obtain ⟨⟨a0, a1, _⟩, b0, b1, _⟩ := ht.2.2.2 m (by omega)
      have ea : (rd_T67 J m).f0 = ((aOf J m : Nat) : Int) := by unfold aOf; omega
      have eb : (rd_T67 J m).f1 = ((bOf J m : Nat) : Int) := by unfold bOf; omega
      rw [ea, eb]
      have hVm : TT.Valid n (aOf J) (bOf J) (m + 1) := fun i hi => hV i (by omega)
      have hx := idx_le n (aOf J) (bOf J) (m + 1) hVm (n + m) (by simp [TT.rootsTo])
      rw [TT.tr_new, TT.idx_length_node] at hx
      have := ht.2.2.1
      have := ht.2.1
      exact join_tells hc m _ _ _ _ rfl (by omega) (ih (by omega) _ (by omega)) (ih (by omega) _ (by omega))
/-- What least answers. -/
theorem leastOf_is (ht : TreeOk n J) (hc : CostsOk C) (hs : StatesOk n C.length L) : P.leastOf C.length C F J L = TT.leastE (TT.tab (cOf C) C.length (lOf L) (fOf F) (TT.whole n (aOf J) (bOf J))) C.length := by
  have hV : TT.Valid n (aOf J) (bOf J) J.length := valid_of ht
  have h1 := ht.2.2.1
  have h2 := ht.2.1
  have h3 := ht.1
  have hLn : L.length = n := by have := hs.2; omega
  have hJn : J.length = n - 1 := by omega
  unfold P.leastOf
  have e : L.length + J.length - 1 = 2 * n - 2 := by omega
  rw [e]
  have T := sank_tells (F := F) ht hc hs J.length (Nat.le_refl _) (2 * n - 2) (by omega)
  rw [hJn] at T
  have hk := hc.2.2
  have hidx := TT.whole_idx n (aOf J) (bOf J) (by omega) (by rw [← hJn]; exact hV)
  have hlen : (TT.whole n (aOf J) (bOf J)).idx.length ≤ 7 := by rw [hidx.length_eq, List.length_range]; omega
  have B := TT.tab_bounds (cOf C) C.length (lOf L) (fOf F) hk (costs_of hc) (TT.whole n (aOf J) (bOf J)) (by omega)
  rw [hJn]
  refine leastTo_is C.length _ _ 268435456 T (by omega) (fun s hs => ⟨(B s hs).1.1, Int.le_trans (B s hs).1.2 ?_⟩) C.length (Nat.le_refl _)
  have mono : ∀ a : Nat, a ≤ 7 → (16 : Int) ^ a ≤ 268435456 := by decide
  exact mono _ hlen
/-- The cost of a labeling. -/
def totalOf (n : Nat) (J : List S67) (C : List (List Int)) (L : List Int) (x : Nat → Nat) : Int := TT.total n (aOf J) (bOf J) (cOf C) (lOf L) x J.length
theorem least_min (ht : TreeOk n J) (hc : CostsOk C) (hs : StatesOk n C.length L) (hF : ∀ i, i < J.length → fOf F i < C.length) :
    (∀ x : Nat → Nat, (∀ i, i < J.length → x i < C.length ∧ (0 ≤ fOf F i → fOf F i = x i)) → (P.leastOf C.length C F J L).1 ≤ totalOf n J C L x) ∧
    (∃ x : Nat → Nat, (∀ i, x i < C.length) ∧ (∀ i, i < J.length → 0 ≤ fOf F i → fOf F i = x i) ∧ totalOf n J C L x = (P.leastOf C.length C F J L).1) ∧
    0 < (P.leastOf C.length C F J L).2 ∧ 0 ≤ (P.leastOf C.length C F J L).1 := by
  have h1 := ht.2.2.1
  have h2 := ht.2.1
  have h3 := ht.1
  have hJn : J.length = n - 1 := by omega
  have hV : TT.Valid n (aOf J) (bOf J) J.length := valid_of ht
  have hL : ∀ v, v < n → lOf L v < C.length := by
    intro v hv
    have hvL : v < L.length := by have := hs.2; omega
    have := hs.1 _ (List.getElem_mem hvL)
    unfold lOf
    rw [rd_nat L v hvL]
    omega
  rw [leastOf_is ht hc hs]
  unfold totalOf
  rw [hJn] at hV hF ⊢
  exact TT.sankoff_is n (aOf J) (bOf J) (cOf C) C.length (lOf L) (fOf F) hc.2.2 hc.2.1 (costs_of hc) (by omega) (by omega) hV hL hF
end
theorem none_free (J : List S67) (i : Nat) (h : i < J.length) : fOf (none_ J) i = -1 := by
  unfold fOf none_
  exact rd_replicate _ _ _ h
end Go.Proofs.Ytcphmeeighhdjaa.Pure
