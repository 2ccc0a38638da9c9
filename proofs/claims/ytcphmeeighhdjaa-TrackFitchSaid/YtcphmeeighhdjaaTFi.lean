/- For all arguments derived from arbitrary numbers, Fitch's number is the least cost with unit costs, and its set of the root is the states of that cost: in plain numbers and lists. -/
import Derived.Test.YtcphmeeighhdjaaPF7
import Derived.Test.YtcphmeeighhdjaaRT
import Derived.Test.YtcphmeeighhdjaaRA
import Derived.Test.YtcphmeeighhdjaaTT
import Derived.Test.YtcphmeeighhdjaaGH
import Derived.Test.YtcphmeeighhdjaaGI
-- out of RF
namespace Go.Proofs.Ytcphmeeighhdjaa.Pure
open Go Go.Proofs Go.RowKit Go.Proofs.Ytcphmeeighhdjaa.P Go.Proofs.YtcphmeeighhdjaaW.PrintWords Go.Proofs.YtcphmeeighhdjaaW.PrintLast
set_option linter.unusedVariables false

theorem before_self (l : List Int) (hl : l.length ≤ 1000000) : Ev (fun k => woggleref01_Before.f k l l) false := by
  unfold woggleref01_Before.f
  have key := up_ind (fun i => Ev (fun k => woggleref01_Before.l0 k l l (i : Int)) false) l.length ?_ ?_
  · exact key
  · refine Ev.step (f := fun k => woggleref01_Before.j1 k l l (l.length : Int) false) (fun k => by simp only [woggleref01_Before.l0]; rw [if_neg (Int.lt_irrefl _)]) ?_
    refine Ev.step (f := fun _ => some false) (fun k => ?_) (Ev.now _)
    simp only [woggleref01_Before.j1]
    rw [if_neg (by decide), decide_eq_false (Int.lt_irrefl _)]
  · intro i hi ih
    have p1 : (i : Int) < l.length := by omega
    have p2 : (0 : Int) ≤ i := by omega
    refine Ev.step (f := fun k => woggleref01_Before.j1 k l l (i : Int) true) (fun k => by simp only [woggleref01_Before.l0]; rw [if_pos p1, decide_eq_true p1]) ?_
    refine Ev.step (fun k => ?_) ih
    simp only [woggleref01_Before.j1]
    rw [if_pos trivial, if_pos p2, if_pos p1, if_pos p1, if_pos trivial, succ_w i (by omega)]
theorem same_self (l : List Int) (hl : l.length ≤ 1000000) : Ev (fun k => woggleref01_Same.f k l l) true := by
  unfold woggleref01_Same.f
  refine Ev.bind (before_self l hl) ?_
  refine Ev.congr (f := fun k => (woggleref01_Before.f k l l).bind fun t => some (!t)) (fun k => if_neg (by decide)) (Ev.bind (before_self l hl) (Ev.now _))
/-- Fitch's sets of all leaves and of the first joins, and the number of changes. -/
def fitTo (J : List S67) (L : List Int) : Nat → List Int × Int
  | 0 => (L.map (fun s => shl .i64 1 s), 0)
  | m + 1 => if Go.bits .and .i64 (rd (fitTo J L m).1 (rd_T67 J m).f0) (rd (fitTo J L m).1 (rd_T67 J m).f1) = 0
      then ((fitTo J L m).1 ++ [Go.bits .or .i64 (rd (fitTo J L m).1 (rd_T67 J m).f0) (rd (fitTo J L m).1 (rd_T67 J m).f1)], wrap64 ((fitTo J L m).2 + 1))
      else ((fitTo J L m).1 ++ [Go.bits .and .i64 (rd (fitTo J L m).1 (rd_T67 J m).f0) (rd (fitTo J L m).1 (rd_T67 J m).f1)], (fitTo J L m).2)
theorem fitTo_length (J : List S67) (L : List Int) (m : Nat) : (fitTo J L m).1.length = L.length + m := by
  induction m with
  | zero => simp [fitTo]
  | succ m ih => simp only [fitTo]; split <;> simp only [List.length_append, List.length_singleton, ih] <;> omega
section
variable {n : Int} {J : List S67} {k : Int} {L : List Int}
theorem fitch_ev (ht : TreeOk n J) (hs : StatesOk n k L) : Ev (fun q => track_fitch.f q J L) (fitTo J L J.length) := by
  have hn := ht.1; have hn8 := ht.2.1; have hJ := ht.2.2.1; have hL := hs.2
  unfold track_fitch.f
  have joins := up_ind (fun m => Ev (fun q => track_fitch.l1 q (fitTo J L m).1 (fitTo J L m).2 J (J.length : Int) (m : Int)) (fitTo J L J.length)) J.length ?_ ?_
  · have leaves := up_ind (fun i => Ev (fun q => track_fitch.l0 q J ((L.take i).map (fun s => shl .i64 1 s)) L (L.length : Int) (i : Int)) (fitTo J L J.length)) L.length ?_ ?_
    · exact leaves
    · refine Ev.step (f := fun q => track_fitch.l1 q (fitTo J L 0).1 (fitTo J L 0).2 J (J.length : Int) ((0 : Nat) : Int)) (fun q => ?_) joins
      simp only [track_fitch.l0]
      rw [if_neg (Int.lt_irrefl _), List.take_length]; rfl
    · intro i hi ih
      have p1 : (i : Int) < L.length := by omega
      have p2 : (0 : Int) ≤ i := by omega
      have hb := hs.1 _ (List.getElem_mem hi)
      refine Ev.step (fun q => ?_) ih
      simp only [track_fitch.l0]
      rw [if_pos p1, if_pos p2, if_pos p1, rd_nat L i hi, if_pos hb.1, if_pos (show ((L.take i).map (fun s => shl .i64 1 s)).length < 17592186044416 by rw [List.length_map, List.length_take]; omega), succ_w i (by omega), take_up L i hi, List.map_append]
      rfl
  · exact Ev.step (f := fun _ => some (fitTo J L J.length)) (fun q => by simp only [track_fitch.l1]; rw [if_neg (Int.lt_irrefl _)]) (Ev.now _)
  · intro m hm ih
    have p1 : (m : Int) < J.length := by omega
    have p2 : (0 : Int) ≤ m := by omega
    obtain ⟨⟨a0, a1, _⟩, b0, b1, _⟩ := ht.2.2.2 m hm
    have hl := fitTo_length J L m
    have p3 : (rd_T67 J m).f0 < (fitTo J L m).1.length := by omega
    have p4 : (rd_T67 J m).f1 < (fitTo J L m).1.length := by omega
    have p5 : (fitTo J L m).1.length < 17592186044416 := by omega
    refine Ev.step (fun q => ?_) ih
    simp only [track_fitch.l1]
    rw [if_pos p1, if_pos p2, if_pos p1, if_pos a0, if_pos p3, if_pos b0, if_pos p4, if_pos p5, if_pos p5, succ_w m (by omega)]
    simp only [fitTo]
    split <;> rfl
end
/-- The members of a set, below a bound. -/
def memTo (s : Int) : Nat → List Int
  | 0 => []
  | i + 1 => if Go.bits .and .i64 (shr .i64 s i) 1 = 1 then memTo s i ++ [(i : Int)] else memTo s i
theorem memTo_length (s : Int) (i : Nat) : (memTo s i).length ≤ i := by
  induction i with
  | zero => exact Nat.le_refl _
  | succ i ih =>
    simp only [memTo]
    split
    · rw [List.length_append, List.length_singleton]; omega
    · omega
/-- What Fitch answers. -/
def fitOut (n k : Nat) (J : List S67) (L : List Int) : List (List Int) := ((fitTo J L J.length).1.drop n).map (fun s => memTo s k)
theorem Fitch_ev {n k : Nat} {J : List S67} {L : List Int} (ht : TreeOk n J) (h1 : 1 ≤ k) (hk : k ≤ 4) (hs : StatesOk n k L) : Ev (fun q => track_Fitch.f q n J k L) (fitOut n k J L, (fitTo J L J.length).2, 0) := by
  have hn8 := ht.2.1; have hJ := ht.2.2.1; have hL := hs.2; have hn := ht.1
  have hl := fitTo_length J L J.length
  have tr := tree_ev n J (by omega)
  rw [@decide_eq_true _ (_) ht] at tr
  unfold track_Fitch.f
  refine Ev.bind tr ?_
  refine Ev.congr (f := fun q => track_Fitch.j0 q n J k L false) (fun q => by rw [if_pos rfl, if_neg (show ¬ (k : Int) < 1 by omega), decide_eq_false (show ¬ (k : Int) > 4 by omega)]) ?_
  refine Ev.step (f := fun q => (track_states.f L n k).bind fun t => if t = true then (track_fitch.f q J L).bind fun b => if 0 ≤ (n : Int) then if (n : Int) ≤ (b.1.length : Int) then (some (b.1.drop ((n : Int)).toNat)).bind fun y => track_Fitch.l0 q k b.2 [] y (y.length : Int) 0 else none else none else some ([], 0, 2)) (fun q => by simp only [track_Fitch.j0]; rw [if_neg (by decide)]) ?_
  rw [states_f, @decide_eq_true _ (_) hs]
  refine Ev.congr (f := fun q => (track_fitch.f q J L).bind fun b => if 0 ≤ (n : Int) then if (n : Int) ≤ (b.1.length : Int) then (some (b.1.drop ((n : Int)).toNat)).bind fun y => track_Fitch.l0 q k b.2 [] y (y.length : Int) 0 else none else none) (fun q => by simp only [Option.bind_some]; rw [if_pos trivial]) ?_
  refine Ev.bind (fitch_ev ht hs) ?_
  refine Ev.congr (f := fun q => track_Fitch.l0 q k (fitTo J L J.length).2 [] ((fitTo J L J.length).1.drop n) (((fitTo J L J.length).1.drop n).length : Int) 0) (fun q => by rw [if_pos (show (0 : Int) ≤ n by omega), if_pos (show (n : Int) ≤ (fitTo J L J.length).1.length by omega)]; rfl) ?_
  unfold fitOut
  generalize (fitTo J L J.length).2 = c
  have hY : ((fitTo J L J.length).1.drop n).length ≤ 100 := by rw [List.length_drop]; omega
  generalize (fitTo J L J.length).1.drop n = Y at *
  have key := up_ind (fun m => Ev (fun q => track_Fitch.l0 q k c ((Y.take m).map (fun s => memTo s k)) Y (Y.length : Int) (m : Int)) (Y.map (fun s => memTo s k), c, 0)) Y.length ?_ ?_
  · exact key
  · refine Ev.step (f := fun _ => some (Y.map (fun s => memTo s k), c, 0)) (fun q => ?_) (Ev.now _)
    simp only [track_Fitch.l0]
    rw [if_neg (Int.lt_irrefl _), List.take_length]
  · intro m hm ih
    have p1 : (m : Int) < Y.length := by omega
    have p2 : (0 : Int) ≤ m := by omega
    refine Ev.step (f := fun q => track_Fitch.l1 q k c ((Y.take m).map (fun s => memTo s k)) (rd Y m) [] Y (Y.length : Int) (m : Int) k 0) (fun q => by simp only [track_Fitch.l0]; rw [if_pos p1, if_pos p2, if_pos p1]) ?_
    have inner := up_ind (fun i => Ev (fun q => track_Fitch.l1 q k c ((Y.take m).map (fun s => memTo s k)) (rd Y m) (memTo (rd Y m) i) Y (Y.length : Int) (m : Int) k (i : Int)) (Y.map (fun s => memTo s k), c, 0)) k ?_ ?_
    · exact inner
    · refine Ev.step (fun q => ?_) ih
      simp only [track_Fitch.l1]
      rw [if_neg (Int.lt_irrefl _), if_pos (show ((Y.take m).map (fun s => memTo s k)).length < 5864062014805 by rw [List.length_map, List.length_take]; omega), succ_w m (by omega), take_up Y m hm, List.map_append, rd_nat Y m hm]
      rfl
    · intro i hi ihi
      have q1 : (i : Int) < k := by omega
      have q2 : (0 : Int) ≤ i := by omega
      have q3 : (memTo (rd Y m) i).length < 17592186044416 := by have := memTo_length (rd Y m) i; omega
      refine Ev.step (fun q => ?_) ihi
      simp only [track_Fitch.l1]
      rw [if_pos q1, if_pos q2, if_pos q3, succ_w i (by omega)]
      simp only [memTo]
      split <;> rfl
end Go.Proofs.Ytcphmeeighhdjaa.Pure

-- out of RK
namespace Go.Proofs.Ytcphmeeighhdjaa.Pure
open Go Go.Proofs Go.RowKit Go.Proofs.Ytcphmeeighhdjaa.P Go.Proofs.YtcphmeeighhdjaaW.PrintWords Go.Proofs.YtcphmeeighhdjaaW.PrintLast
set_option linter.unusedVariables false

def TableOk (t : List (List Int)) : Prop := (2 ≤ t.length ∧ t.length ≤ 5) ∧ (1 ≤ (rd_L3 t 0).length ∧ (rd_L3 t 0).length ≤ 6) ∧ ∀ row ∈ t, StatesOk (rd_L3 t 0).length 4 row
section
variable {n : Nat} {J : List S67} {t : List (List Int)}
end

end Go.Proofs.Ytcphmeeighhdjaa.Pure

-- out of RC
namespace Go.Proofs.Ytcphmeeighhdjaa.Pure
open Go Go.Proofs Go.RowKit Go.Proofs.Ytcphmeeighhdjaa.P Go.Proofs.YtcphmeeighhdjaaW.PrintWords Go.Proofs.YtcphmeeighhdjaaW.PrintLast
set_option linter.unusedVariables false

def cOf (C : List (List Int)) (a b : Nat) : Int := rd (rd_L3 C a) b
def lOf (L : List Int) (v : Nat) : Nat := (rd L v).toNat
def fOf (F : List Int) (i : Nat) : Int := rd F i
def aOf (J : List S67) (i : Nat) : Nat := (rd_T67 J i).f0.toNat
def bOf (J : List S67) (i : Nat) : Nat := (rd_T67 J i).f1.toNat
theorem rd_set_same (l : List Int) (i : Nat) (x : Int) (h : i < l.length) : rd (l.set i x) i = x := by
  rw [rd_nat _ i (by rw [List.length_set]; exact h), List.getElem_set_self]
theorem rd_set_ne (l : List Int) (i j : Nat) (x : Int) (h : i ≠ j) : rd (l.set i x) j = rd l j := by
  unfold rd
  rw [Int.toNat_natCast, List.getD_eq_getElem?_getD, List.getD_eq_getElem?_getD, List.getElem?_set_ne h]
theorem rd_replicate (k j : Nat) (x : Int) (h : j < k) : rd (List.replicate k x) j = x := by
  rw [rd_nat _ j (by rw [List.length_replicate]; exact h), List.getElem_replicate]
/-- A table of lists tells a table. -/
def Tells (k : Nat) (t : S111) (f : Nat → Int × Int) : Prop := t.f0.length = k ∧ t.f1.length = k ∧ ∀ s, s < k → (rd t.f0 s, rd t.f1 s) = f s
theorem belowTo_is (k : Nat) (row : List Int) (C : Nat → Int) (t : S111) (f : Nat → Int × Int) (M : Int) (ht : Tells k t f) (hr : ∀ s, s < k → rd row s = C s) (hM : k * M ≤ 4611686018427387904) (hb : ∀ s, s < k → 0 ≤ (f s).2 ∧ (f s).2 ≤ M) (hc : ∀ s, s < k → (f s).2 ≠ 0 → 0 ≤ (f s).1 + C s ∧ (f s).1 + C s ≤ 4611686018427387904) :
    ∀ m, m ≤ k → belowTo row t.f0 t.f1 m = TT.belowE C f m := by
  intro m
  induction m with
  | zero => intro _; rfl
  | succ m ih =>
    intro hm
    have e := ht.2.2 m (by omega)
    have e1 : rd t.f0 m = (f m).1 := congrArg Prod.fst e
    have e2 : rd t.f1 m = (f m).2 := congrArg Prod.snd e
    simp only [belowTo, TT.belowE]
    rw [ih (by omega), e1, e2, hr m (by omega)]
    by_cases c : (f m).2 = 0
    · rw [if_pos c, if_pos c]
    · have h1 := hc m (by omega) c
      rw [if_neg c, if_neg c, w64 ((f m).1 + C m) (by omega) (by omega)]
      have h2 := TT.below_many C f (m + 1) M (fun s hs => hb s (by omega))
      have h3 := TT.below_many C f m M (fun s hs => hb s (by omega))
      have h4 := hb m (by omega)
      have h5 : ((m + 1 : Nat) : Int) * M ≤ k * M := Int.mul_le_mul_of_nonneg_right (by omega) (by omega)
      have h6 : ((m + 1 : Nat) : Int) * M = m * M + M := by rw [Int.natCast_add, Int.add_mul]; simp
      rw [w64 ((TT.belowE C f m).2 + (f m).2) (by omega) (by omega)]
theorem leastTo_is (k : Nat) (t : S111) (f : Nat → Int × Int) (M : Int) (ht : Tells k t f) (hM : k * M ≤ 4611686018427387904) (hb : ∀ s, s < k → 0 ≤ (f s).2 ∧ (f s).2 ≤ M) :
    ∀ m, m ≤ k → leastTo t.f0 t.f1 m = TT.leastE f m := by
  intro m
  induction m with
  | zero => intro _; rfl
  | succ m ih =>
    intro hm
    have e := ht.2.2 m (by omega)
    have e1 : rd t.f0 m = (f m).1 := congrArg Prod.fst e
    have e2 : rd t.f1 m = (f m).2 := congrArg Prod.snd e
    simp only [leastTo, TT.leastE]
    rw [ih (by omega), e1, e2]
    by_cases c : (f m).2 = 0
    · rw [if_pos c, if_pos c]
    · rw [if_neg c, if_neg c]
      have h3 := TT.least_many f m M (fun s hs => hb s (by omega))
      have h4 := hb m (by omega)
      have h5 : ((m + 1 : Nat) : Int) * M ≤ k * M := Int.mul_le_mul_of_nonneg_right (by omega) (by omega)
      have h6 : ((m + 1 : Nat) : Int) * M = m * M + M := by rw [Int.natCast_add, Int.add_mul]; simp
      rw [w64 ((TT.leastE f m).2 + (f m).2) (by omega) (by omega)]
theorem leaf_tells (k : Nat) (C : Nat → Nat → Int) (L : Nat → Nat) (F : Nat → Int) (v s : Nat) (hs : s < k) (hL : L v = s) : Tells k (leafTab k s) (TT.tab C k L F (TT.T.leaf v)) := by
  refine ⟨by simp [leafTab], by simp [leafTab], fun u hu => ?_⟩
  simp only [leafTab, TT.tab, hL, Int.toNat_natCast]
  by_cases e : u = s
  · subst e
    rw [if_pos rfl, rd_set_same _ _ _ (by rw [List.length_replicate]; exact hu), rd_set_same _ _ _ (by rw [List.length_replicate]; exact hu)]
  · rw [if_neg e, rd_set_ne _ _ _ _ (fun h => e h.symm), rd_set_ne _ _ _ _ (fun h => e h.symm), rd_replicate _ _ _ hu, rd_replicate _ _ _ hu]; rfl
section
variable {C : List (List Int)} {k : Nat} {L : List Int} {F : List Int}
theorem costs_of (h : CostsOk C) : TT.Costs (cOf C) C.length := by
  intro a b ha hb
  unfold cOf
  rw [rd_L3_nat C a ha]
  have h1 := h.1 _ (List.getElem_mem ha)
  rw [rd_nat _ b (by rw [h1.1]; exact hb)]
  exact h1.2 _ (List.getElem_mem _)
theorem join_tells (hC : CostsOk C) (i : Nat) (l r : TT.T) (ta tb : S111) (hk : C.length = k) (hn : 1 + (l.idx.length + r.idx.length) ≤ 7)
    (hl : Tells k ta (TT.tab (cOf C) k (lOf L) (fOf F) l)) (hr : Tells k tb (TT.tab (cOf C) k (lOf L) (fOf F) r)) :
    Tells k (joinTo k C (rd F i) ta tb k) (TT.tab (cOf C) k (lOf L) (fOf F) (TT.T.node i l r)) := by
  subst hk
  have k4 := hC.2.2
  have hc := costs_of hC
  have B := TT.tab_bounds (cOf C) C.length (lOf L) (fOf F) k4 hc
  have Bl := B l (by omega)
  have Br := B r (by omega)
  have mono : ∀ a b : Nat, a ≤ b → (16 : Int) ^ a ≤ 16 ^ b := by
    intro a b h
    obtain ⟨d, rfl⟩ := Nat.exists_eq_add_of_le h
    rw [Int.pow_add]
    have h1 := TT.pow_pos16 d
    have h2 := TT.pow_pos16 a
    have := Int.mul_le_mul_of_nonneg_left h1 (show (0 : Int) ≤ 16 ^ a by omega)
    omega
  have M7 : (16 : Int) ^ 7 = 268435456 := by decide
  have Ml := mono l.idx.length 7 (by omega)
  have Mr := mono r.idx.length 7 (by omega)
  have key : ∀ m, m ≤ C.length → ∀ s, s < C.length → (rd (joinTo C.length C (rd F i) ta tb m).f0 s, rd (joinTo C.length C (rd F i) ta tb m).f1 s) = if s < m then TT.tab (cOf C) C.length (lOf L) (fOf F) (TT.T.node i l r) s else (TT.far, 0) := by
    intro m
    induction m with
    | zero =>
      intro _ s hs
      rw [if_neg (by omega)]
      simp only [joinTo]
      rw [rd_replicate _ _ _ hs, rd_replicate _ _ _ hs]; rfl
    | succ m ih =>
      intro hm s hs
      have ihm := ih (by omega)
      have hlen := joinTo_len C.length C (rd F i) ta tb m
      simp only [joinTo]
      have rowe : ∀ s, s < C.length → rd (rd_L3 C m) s = cOf C m s := fun s _ => rfl
      have bl := belowTo_is C.length (rd_L3 C m) (cOf C m) ta _ (16 ^ l.idx.length) hl rowe (by
        have : (C.length : Int) * 16 ^ l.idx.length ≤ 4 * 16 ^ l.idx.length := Int.mul_le_mul_of_nonneg_right (by omega) (by have := TT.pow_pos16 l.idx.length; omega)
        omega) (fun s hs => (Bl s hs).1) (fun s hs h => by have := (Bl s hs).2 h; have := hc m s (by omega) hs; omega) C.length (Nat.le_refl _)
      have br := belowTo_is C.length (rd_L3 C m) (cOf C m) tb _ (16 ^ r.idx.length) hr rowe (by
        have : (C.length : Int) * 16 ^ r.idx.length ≤ 4 * 16 ^ r.idx.length := Int.mul_le_mul_of_nonneg_right (by omega) (by have := TT.pow_pos16 r.idx.length; omega)
        omega) (fun s hs => (Br s hs).1) (fun s hs h => by have := (Br s hs).2 h; have := hc m s (by omega) hs; omega) C.length (Nat.le_refl _)
      rw [bl, br]
      have sl := TT.below_spec (cOf C m) _ C.length (fun u hu => (Bl u hu).1.1) (fun u hu h => by have := (Bl u hu).2 h; have := hc m u (by omega) hu; unfold TT.far; omega)
      have sr := TT.below_spec (cOf C m) _ C.length (fun u hu => (Br u hu).1.1) (fun u hu h => by have := (Br u hu).2 h; have := hc m u (by omega) hu; unfold TT.far; omega)
      have ml := TT.below_many (cOf C m) _ C.length _ (fun u hu => (Bl u hu).1)
      have mr := TT.below_many (cOf C m) _ C.length _ (fun u hu => (Br u hu).1)
      have fl : 0 ≤ (TT.belowE (cOf C m) (TT.tab (cOf C) C.length (lOf L) (fOf F) l) C.length).1 ∧ (TT.belowE (cOf C m) (TT.tab (cOf C) C.length (lOf L) (fOf F) l) C.length).1 ≤ 1073741824 := by
        by_cases z : (TT.belowE (cOf C m) (TT.tab (cOf C) C.length (lOf L) (fOf F) l) C.length).2 = 0
        · rw [sl.2.2.2 z]; unfold TT.far; omega
        · obtain ⟨u, hu, hu1, hu2⟩ := sl.2.2.1 z
          have := (Bl u hu).2 hu1; have := hc m u (by omega) hu
          rw [hu2]; omega
      have fr : 0 ≤ (TT.belowE (cOf C m) (TT.tab (cOf C) C.length (lOf L) (fOf F) r) C.length).1 ∧ (TT.belowE (cOf C m) (TT.tab (cOf C) C.length (lOf L) (fOf F) r) C.length).1 ≤ 1073741824 := by
        by_cases z : (TT.belowE (cOf C m) (TT.tab (cOf C) C.length (lOf L) (fOf F) r) C.length).2 = 0
        · rw [sr.2.2.2 z]; unfold TT.far; omega
        · obtain ⟨u, hu, hu1, hu2⟩ := sr.2.2.1 z
          have := (Br u hu).2 hu1; have := hc m u (by omega) hu
          rw [hu2]; omega
      have pr : 0 ≤ (TT.belowE (cOf C m) (TT.tab (cOf C) C.length (lOf L) (fOf F) l) C.length).2 * (TT.belowE (cOf C m) (TT.tab (cOf C) C.length (lOf L) (fOf F) r) C.length).2 ∧ (TT.belowE (cOf C m) (TT.tab (cOf C) C.length (lOf L) (fOf F) l) C.length).2 * (TT.belowE (cOf C m) (TT.tab (cOf C) C.length (lOf L) (fOf F) r) C.length).2 ≤ 268435456 := by
        refine ⟨Int.mul_nonneg ml.1 mr.1, ?_⟩
        have kl : (C.length : Int) * 16 ^ l.idx.length ≤ 4 * 16 ^ l.idx.length := Int.mul_le_mul_of_nonneg_right (by omega) (by have := TT.pow_pos16 l.idx.length; omega)
        have kr : (C.length : Int) * 16 ^ r.idx.length ≤ 4 * 16 ^ r.idx.length := Int.mul_le_mul_of_nonneg_right (by omega) (by have := TT.pow_pos16 r.idx.length; omega)
        have h1 := Int.mul_le_mul (Int.le_trans ml.2 kl) (Int.le_trans mr.2 kr) mr.1 (by have := TT.pow_pos16 l.idx.length; omega)
        rw [TT.pow16] at h1
        have h2 := mono _ _ hn
        omega
      have hnode : TT.tab (cOf C) C.length (lOf L) (fOf F) (TT.T.node i l r) m = if 0 ≤ rd F i ∧ rd F i ≠ m then (TT.far, 0) else
          ((TT.belowE (cOf C m) (TT.tab (cOf C) C.length (lOf L) (fOf F) l) C.length).1 + (TT.belowE (cOf C m) (TT.tab (cOf C) C.length (lOf L) (fOf F) r) C.length).1, (TT.belowE (cOf C m) (TT.tab (cOf C) C.length (lOf L) (fOf F) l) C.length).2 * (TT.belowE (cOf C m) (TT.tab (cOf C) C.length (lOf L) (fOf F) r) C.length).2) := rfl
      rw [w64 _ (by omega) (by omega), w64 _ (by omega) (by omega)]
      generalize (TT.belowE (cOf C m) (TT.tab (cOf C) C.length (lOf L) (fOf F) l) C.length) = bl at *
      generalize (TT.belowE (cOf C m) (TT.tab (cOf C) C.length (lOf L) (fOf F) r) C.length) = br at *
      by_cases c : 0 ≤ rd F i ∧ rd F i ≠ m
      · rw [if_pos c, ihm s hs]
        by_cases e : s = m
        · subst e
          rw [if_neg (Nat.lt_irrefl _), if_pos (Nat.lt_succ_self _), hnode, if_pos c]
        · by_cases e2 : s < m
          · rw [if_pos e2, if_pos (by omega)]
          · rw [if_neg e2, if_neg (by omega)]
      · rw [if_neg c]
        by_cases e : s = m
        · subst e
          rw [if_pos (Nat.lt_succ_self _), hnode, if_neg c, rd_set_same _ _ _ (by rw [hlen.1]; exact hs), rd_set_same _ _ _ (by rw [hlen.2]; exact hs)]
        · rw [rd_set_ne _ _ _ _ (fun h => e h.symm), rd_set_ne _ _ _ _ (fun h => e h.symm), ihm s hs]
          by_cases e2 : s < m
          · rw [if_pos e2, if_pos (by omega)]
          · rw [if_neg e2, if_neg (by omega)]
  refine ⟨(joinTo_len _ _ _ _ _ _).1, (joinTo_len _ _ _ _ _ _).2, fun s hs => ?_⟩
  rw [key C.length (Nat.le_refl _) s hs, if_pos hs]
end
theorem rd_T111_old (l : List S111) (x : S111) (v : Nat) (h : v < l.length) : rd_T111 (l ++ [x]) v = rd_T111 l v := by
  unfold rd_T111
  rw [Int.toNat_natCast, List.getD_eq_getElem?_getD, List.getD_eq_getElem?_getD, List.getElem?_append_left h]
theorem rd_T111_new (l : List S111) (x : S111) (v : Nat) (h : v = l.length) : rd_T111 (l ++ [x]) v = x := by
  unfold rd_T111
  rw [Int.toNat_natCast, List.getD_eq_getElem?_getD, h]
  simp
theorem idx_le (n : Nat) (A B : Nat → Nat) (m : Nat) (h : TT.Valid n A B m) (v : Nat) (hv : v ∈ TT.rootsTo n A B m) : (TT.tr n A B m v).idx.length ≤ m := by
  have p := TT.roots_idx n A B m h
  have := p.length_eq
  rw [List.length_range] at this
  have e := List.perm_cons_erase hv
  have q := (e.flatMap_right (fun v => (TT.tr n A B m v).idx)).length_eq
  rw [List.flatMap_cons, List.length_append] at q
  omega
section
variable {n : Nat} {J : List S67} {C : List (List Int)} {L F : List Int}
theorem sank_tells (ht : TreeOk n J) (hc : CostsOk C) (hs : StatesOk n C.length L) (m : Nat) (hm : m ≤ J.length) (v : Nat) (hv : v < n + m) :
    Tells C.length (rd_T111 (sankTo C.length C F J L m) v) (TT.tab (cOf C) C.length (lOf L) (fOf F) (TT.tr n (aOf J) (bOf J) m v)) := by
  have hV : TT.Valid n (aOf J) (bOf J) J.length := valid_of ht
  have hLn : L.length = n := by have := hs.2; omega
  induction m generalizing v with
  | zero =>
    rw [TT.tr_leaf n _ _ v (by omega)]
    have hvL : v < L.length := by omega
    have e : rd_T111 (sankTo C.length C F J L 0) v = leafTab C.length L[v] := by
      unfold rd_T111 sankTo
      rw [Int.toNat_natCast, List.getD_eq_getElem?_getD, List.getElem?_map, List.getElem?_eq_getElem hvL]; rfl
    rw [e]
    have hb := hs.1 _ (List.getElem_mem hvL)
    obtain ⟨s, hs'⟩ : ∃ s : Nat, L[v] = s := ⟨L[v].toNat, by omega⟩
    rw [hs']
    exact leaf_tells _ _ _ _ v s (by omega) (by unfold lOf; rw [rd_nat L v hvL, hs']; rfl)
  | succ m ih =>
    have hlen := sankTo_length C.length C F J L m
    by_cases e : v < n + m
    · simp only [sankTo]
      rw [rd_T111_old _ _ v (by omega), TT.tr_succ n _ _ m v e]
      exact ih (by omega) v e
    · obtain rfl : v = n + m := by omega
      simp only [sankTo]
      rw [rd_T111_new _ _ _ (by omega), TT.tr_new]
      obtain ⟨⟨a0, a1, _⟩, b0, b1, _⟩ := ht.2.2.2 m (by omega)
      have ea : (rd_T67 J m).f0 = ((aOf J m : Nat) : Int) := by unfold aOf; omega
      have eb : (rd_T67 J m).f1 = ((bOf J m : Nat) : Int) := by unfold bOf; omega
      rw [ea, eb]
      have hVm : TT.Valid n (aOf J) (bOf J) (m + 1) := fun i hi => hV i (by omega)
      have hx := idx_le n (aOf J) (bOf J) (m + 1) hVm (n + m) (by simp [TT.rootsTo])
      rw [TT.tr_new, TT.idx_length_node] at hx
      have := ht.2.2.1
      have := ht.2.1
      exact join_tells hc m _ _ _ _ rfl (by omega) (ih (by omega) _ (by omega)) (ih (by omega) _ (by omega))
/-- What least answers. -/
theorem leastOf_is (ht : TreeOk n J) (hc : CostsOk C) (hs : StatesOk n C.length L) : P.leastOf C.length C F J L = TT.leastE (TT.tab (cOf C) C.length (lOf L) (fOf F) (TT.whole n (aOf J) (bOf J))) C.length := by
  have hV : TT.Valid n (aOf J) (bOf J) J.length := valid_of ht
  have h1 := ht.2.2.1
  have h2 := ht.2.1
  have h3 := ht.1
  have hLn : L.length = n := by have := hs.2; omega
  have hJn : J.length = n - 1 := by omega
  unfold P.leastOf
  have e : L.length + J.length - 1 = 2 * n - 2 := by omega
  rw [e]
  have T := sank_tells (F := F) ht hc hs J.length (Nat.le_refl _) (2 * n - 2) (by omega)
  rw [hJn] at T
  have hk := hc.2.2
  have hidx := TT.whole_idx n (aOf J) (bOf J) (by omega) (by rw [← hJn]; exact hV)
  have hlen : (TT.whole n (aOf J) (bOf J)).idx.length ≤ 7 := by rw [hidx.length_eq, List.length_range]; omega
  have B := TT.tab_bounds (cOf C) C.length (lOf L) (fOf F) hk (costs_of hc) (TT.whole n (aOf J) (bOf J)) (by omega)
  rw [hJn]
  refine leastTo_is C.length _ _ 268435456 T (by omega) (fun s hs => ⟨(B s hs).1.1, Int.le_trans (B s hs).1.2 ?_⟩) C.length (Nat.le_refl _)
  have mono : ∀ a : Nat, a ≤ 7 → (16 : Int) ^ a ≤ 268435456 := by decide
  exact mono _ hlen
end
theorem none_free (J : List S67) (i : Nat) (h : i < J.length) : fOf (none_ J) i = -1 := by
  unfold fOf none_
  exact rd_replicate _ _ _ h
end Go.Proofs.Ytcphmeeighhdjaa.Pure

-- out of RB
namespace Go.Proofs.Ytcphmeeighhdjaa.Pure
open Go Go.Proofs Go.RowKit Go.Proofs.Ytcphmeeighhdjaa.P Go.Proofs.YtcphmeeighhdjaaW.PrintWords Go.Proofs.YtcphmeeighhdjaaW.PrintLast
set_option linter.unusedVariables false

theorem u8_le {x : Int} (h : (Lit.int .u8 x).wf = true) : 0 ≤ x ∧ x ≤ 255 := by
  unfold Lit.wf at h
  rw [Bool.and_eq_true, decide_eq_true_eq, decide_eq_true_eq] at h
  have e1 : IntKind.min .u8 = 0 := rfl
  have e2 : IntKind.max .u8 = 255 := rfl
  rw [e1, e2] at h
  exact h
theorem roots_ev (n : Nat) (hn : n ≤ 1000) : Ev (fun k => woggleref02_Roots.f k n) ((List.range n).map (fun v : Nat => (v : Int))) := by
  unfold woggleref02_Roots.f
  have key := up_ind (fun i => Ev (fun k => woggleref02_Roots.l0 k n ((List.range i).map (fun v : Nat => (v : Int))) (i : Int)) ((List.range n).map (fun v : Nat => (v : Int)))) n ?_ ?_
  · exact key
  · exact Ev.step (f := fun _ => some ((List.range n).map (fun v : Nat => (v : Int)))) (fun k => by simp only [woggleref02_Roots.l0]; rw [if_neg (by omega)]) (Ev.now _)
  · intro i hi ih
    refine Ev.step (f := fun k => woggleref02_Roots.l0 k n ((List.range (i + 1)).map (fun v : Nat => (v : Int))) ((i + 1 : Nat) : Int)) (fun k => ?_) ih
    simp only [woggleref02_Roots.l0]
    rw [if_pos (by omega), if_pos (by simp; omega), succ_w i (by omega), range_succ_map]
/-- Unit costs. -/
def unitRow (k a m : Nat) : List Int := (List.range m).map (fun b => if a = b then 0 else 1)
def unitL (k m : Nat) : List (List Int) := (List.range m).map (fun a => unitRow k a k)
theorem unit_ev (n : Nat) (hn : n ≤ 1000) : Ev (fun k => woggleref02_Unit.f k n) (unitL n n) := by
  unfold woggleref02_Unit.f
  have key := up_ind (fun i => Ev (fun k => woggleref02_Unit.l0 k n (unitL n i) (i : Int)) (unitL n n)) n ?_ ?_
  · exact key
  · exact Ev.step (f := fun _ => some (unitL n n)) (fun k => by simp only [woggleref02_Unit.l0]; rw [if_neg (by omega)]) (Ev.now _)
  · intro i hi ih
    have inner := up_ind (fun j => Ev (fun k => woggleref02_Unit.l1 k n (unitL n i) (i : Int) (unitRow n i j) (j : Int)) (unitL n n)) n ?_ ?_
    · exact Ev.step (f := fun k => woggleref02_Unit.l1 k n (unitL n i) (i : Int) (unitRow n i 0) ((0 : Nat) : Int)) (fun k => by simp only [woggleref02_Unit.l0]; rw [if_pos (by omega)]; rfl) inner
    · refine Ev.step (f := fun k => woggleref02_Unit.l0 k n (unitL n (i + 1)) ((i + 1 : Nat) : Int)) (fun k => ?_) ih
      simp only [woggleref02_Unit.l1]
      rw [if_neg (by omega), if_pos (by simp [unitL]; omega), succ_w i (by omega)]
      unfold unitL
      rw [range_succ_map]
    · intro j hj ihj
      refine Ev.step (f := fun k => woggleref02_Unit.l1 k n (unitL n i) (i : Int) (unitRow n i (j + 1)) ((j + 1 : Nat) : Int)) (fun k => ?_) ihj
      simp only [woggleref02_Unit.l1]
      have hl : (unitRow n i j).length < 17592186044416 := by simp [unitRow]; omega
      have hs : unitRow n i (j + 1) = unitRow n i j ++ [if i = j then 0 else 1] := by unfold unitRow; rw [range_succ_map]
      rw [if_pos (by omega), hs]
      by_cases e : i = j
      · rw [if_pos (by omega), if_pos hl, succ_w j (by omega), if_pos e]
      · rw [if_neg (by omega), if_pos hl, succ_w j (by omega), if_neg e]
theorem unit_costs (k : Nat) (h1 : 1 ≤ k) (h4 : k ≤ 4) : CostsOk (unitL k k) := by
  have hl : (unitL k k).length = k := by simp [unitL]
  unfold CostsOk
  rw [hl]
  refine ⟨fun row hr => ?_, h1, h4⟩
  unfold unitL at hr
  obtain ⟨a, _, rfl⟩ := List.mem_map.1 hr
  refine ⟨by simp [unitRow], fun c hc => ?_⟩
  unfold unitRow at hc
  obtain ⟨b, _, rfl⟩ := List.mem_map.1 hc
  split <;> omega
theorem unitL_length (k : Nat) : (unitL k k).length = k := by simp [unitL]
theorem unit_cOf (k a b : Nat) (ha : a < k) (hb : b < k) : cOf (unitL k k) a b = if a = b then 0 else 1 := by
  unfold cOf
  rw [rd_L3_nat _ a (by simp [unitL]; exact ha)]
  have e : (unitL k k)[a]'(by simp [unitL]; exact ha) = unitRow k a k := by simp [unitL]
  rw [e, rd_nat _ b (by simp [unitRow]; exact hb)]
  simp [unitRow]
/-- States below k. -/
theorem states_ev (n k : Nat) (x : List Int) (hx : x.length ≤ maxLen ∧ ∀ v ∈ x, (Lit.int .u8 v).wf = true) (hn : n ≤ 1000) (h1 : 1 ≤ k) (h4 : k ≤ 1000) :
    ∃ l, Ev (fun q => wogglelaw02_states.f q n k x) l ∧ StatesOk n k l := by
  unfold wogglelaw02_states.f
  have hxl := hx.1
  unfold maxLen at hxl
  have key := up_ind (fun i => ∀ l : List Int, (∀ s ∈ l, 0 ≤ s ∧ s < (k : Int)) → l.length = i → ∃ r, Ev (fun q => wogglelaw02_states.l0 q n k x l (i : Int)) r ∧ StatesOk n k r) n ?_ ?_
  · exact key [] (by simp) rfl
  · intro l hl hle
    exact ⟨l, Ev.step (f := fun _ => some l) (fun q => by simp only [wogglelaw02_states.l0]; rw [if_neg (by omega)]) (Ev.now _), hl, by omega⟩
  · intro i hi ih l hl hle
    by_cases c : i < x.length
    · have hv := hx.2 _ (List.getElem_mem c)
      have hv2 : 0 ≤ x[i] ∧ x[i] ≤ 255 := u8_le hv
      have hm : Int.tmod x[i] (k : Int) = x[i] % k := Int.tmod_eq_emod_of_nonneg hv2.1
      have hm0 := Int.emod_nonneg x[i] (show (k : Int) ≠ 0 by omega)
      have hm1 := Int.emod_lt_of_pos x[i] (show (0 : Int) < k by omega)
      obtain ⟨r, hr, hs⟩ := ih (l ++ [x[i] % k]) (by
        intro s hs
        rcases List.mem_append.1 hs with h | h
        · exact hl s h
        · rw [List.mem_singleton.1 h]; exact ⟨hm0, hm1⟩) (by simp [hle])
      refine ⟨r, Ev.step (fun q => ?_) hr, hs⟩
      simp only [wogglelaw02_states.l0]
      rw [if_pos (by omega), if_pos (by omega), if_pos (by omega), if_neg (by omega), if_pos (by omega), rd_nat x i c, w64 x[i] (by omega) (by omega), hm, succ_w i (by omega)]
    · obtain ⟨r, hr, hs⟩ := ih (l ++ [0]) (by
        intro s hs
        rcases List.mem_append.1 hs with h | h
        · exact hl s h
        · rw [List.mem_singleton.1 h]; omega) (by simp [hle])
      refine ⟨r, Ev.step (fun q => ?_) hr, hs⟩
      simp only [wogglelaw02_states.l0]
      rw [if_pos (by omega), if_neg (by omega), if_pos (by omega), succ_w i (by omega)]

/-! ## Trees out of arbitrary numbers -/
theorem rd_T67_old (l : List S67) (x : S67) (v : Nat) (h : v < l.length) : rd_T67 (l ++ [x]) v = rd_T67 l v := by
  unfold rd_T67
  rw [Int.toNat_natCast, List.getD_eq_getElem?_getD, List.getD_eq_getElem?_getD, List.getElem?_append_left h]
theorem rd_T67_new (l : List S67) (x : S67) (v : Nat) (h : v = l.length) : rd_T67 (l ++ [x]) v = x := by
  unfold rd_T67
  rw [Int.toNat_natCast, List.getD_eq_getElem?_getD, h]
  simp
theorem usedTo_old (J : List S67) (x : S67) (i : Nat) (h : i ≤ J.length) : usedTo (J ++ [x]) i = usedTo J i := by
  induction i with
  | zero => rfl
  | succ i ih => simp only [usedTo]; rw [ih (by omega), rd_T67_old J x i (by omega)]
theorem joinOk_old {n : Int} {J : List S67} {x : S67} {i : Nat} (hi : i < J.length) (h : JoinOk n J i) : JoinOk n (J ++ [x]) i := by
  unfold JoinOk at h ⊢
  rw [rd_T67_old J x i hi, usedTo_old J x i (by omega)]
  exact h
/-- Roots that are left. -/
structure RootsOk (n : Nat) (J : List S67) (R : List Int) : Prop where
  len : R.length + J.length = n
  nd : R.Nodup
  free : ∀ v ∈ R, 0 ≤ v ∧ v < n + J.length ∧ v ∉ usedTo J J.length
  joins : ∀ i, i < J.length → JoinOk n J i
/-- The roots without two of them. -/
def restTo (R : List Int) (a c : Nat) : Nat → List Int
  | 0 => []
  | i + 1 => if i = a ∨ i = c then restTo R a c i else restTo R a c i ++ [rd R i]
theorem restTo_mem (R : List Int) (a c i : Nat) (v : Int) (h : v ∈ restTo R a c i) : ∃ j, j < i ∧ j ≠ a ∧ j ≠ c ∧ v = rd R j := by
  induction i with
  | zero => simp [restTo] at h
  | succ i ih =>
    unfold restTo at h
    by_cases e : i = a ∨ i = c
    · rw [if_pos e] at h
      obtain ⟨j, h1, h2⟩ := ih h
      exact ⟨j, by omega, h2⟩
    · rw [if_neg e] at h
      rcases List.mem_append.1 h with h | h
      · obtain ⟨j, h1, h2⟩ := ih h
        exact ⟨j, by omega, h2⟩
      · exact ⟨i, by omega, by omega, by omega, List.mem_singleton.1 h⟩
theorem restTo_le (R : List Int) (a c i : Nat) : (restTo R a c i).length ≤ i := by
  induction i with
  | zero => simp [restTo]
  | succ i ih =>
    unfold restTo
    split
    · omega
    · rw [List.length_append, List.length_singleton]; omega
theorem restTo_length (R : List Int) (a c : Nat) (h : a < R.length) (h2 : c < R.length) (hne : a ≠ c) : (restTo R a c R.length).length + 2 = R.length := by
  have key : ∀ i, (restTo R a c i).length + (if a < i then 1 else 0) + (if c < i then 1 else 0) = i := by
    intro i
    induction i with
    | zero => simp [restTo]
    | succ i ih =>
      unfold restTo
      by_cases e1 : i = a
      · subst e1
        rw [if_pos (.inl rfl)]
        rw [if_neg (by omega)] at ih
        rw [if_pos (by omega)]
        by_cases e2 : c < i
        · rw [if_pos e2] at ih; rw [if_pos (by omega)]; omega
        · rw [if_neg e2] at ih; rw [if_neg (by omega)]; omega
      · by_cases e2 : i = c
        · subst e2
          rw [if_pos (.inr rfl)]
          rw [if_neg (show ¬ i < i by omega)] at ih
          rw [if_pos (show i < i + 1 by omega)]
          by_cases e3 : a < i
          · rw [if_pos e3] at ih; rw [if_pos (by omega)]; omega
          · rw [if_neg e3] at ih; rw [if_neg (by omega)]; omega
        · rw [if_neg (by omega)]
          simp only [List.length_append, List.length_singleton]
          by_cases e3 : a < i <;> by_cases e4 : c < i
          · rw [if_pos e3, if_pos e4] at ih; rw [if_pos (by omega), if_pos (by omega)]; omega
          · rw [if_pos e3, if_neg e4] at ih; rw [if_pos (by omega), if_neg (by omega)]; omega
          · rw [if_neg e3, if_pos e4] at ih; rw [if_neg (by omega), if_pos (by omega)]; omega
          · rw [if_neg e3, if_neg e4] at ih; rw [if_neg (by omega), if_neg (by omega)]; omega
  have := key R.length
  rw [if_pos h, if_pos h2] at this
  omega
theorem rd_inj (R : List Int) (hR : R.Nodup) (i j : Nat) (hi : i < R.length) (hj : j < R.length) (h : rd R i = rd R j) : i = j := by
  rw [rd_nat R i hi, rd_nat R j hj] at h
  exact (List.getElem_inj hR).1 h
theorem restTo_nodup (R : List Int) (hR : R.Nodup) (a c i : Nat) (hi : i ≤ R.length) : (restTo R a c i).Nodup := by
  induction i with
  | zero => simp [restTo]
  | succ i ih =>
    unfold restTo
    split
    · exact ih (by omega)
    · rw [List.nodup_append]
      refine ⟨ih (by omega), by simp, fun x hx y hy => ?_⟩
      rw [List.mem_singleton] at hy
      obtain ⟨j, h1, _, _, rfl⟩ := restTo_mem R a c i x hx
      rw [hy]
      exact fun e => by have := rd_inj R hR j i (by omega) (by omega) e; omega
theorem roots_step (n : Nat) (J : List S67) (R : List Int) (h : RootsOk n J R) (a c : Nat) (ha : a < R.length) (hc : c < R.length) (hne : a ≠ c) :
    RootsOk n (J ++ [(⟨rd R a, rd R c⟩ : S67)]) (restTo R a c R.length ++ [((n + J.length : Nat) : Int)]) := by
  have hfa := h.free (rd R a) (by rw [rd_nat R a ha]; exact List.getElem_mem ha)
  have hfc := h.free (rd R c) (by rw [rd_nat R c hc]; exact List.getElem_mem hc)
  have hac : rd R c ≠ rd R a := fun e => hne (rd_inj R h.nd c a hc ha e).symm
  have hu : usedTo (J ++ [(⟨rd R a, rd R c⟩ : S67)]) (J ++ [(⟨rd R a, rd R c⟩ : S67)]).length = usedTo J J.length ++ [rd R a] ++ [rd R c] := by
    rw [List.length_append, List.length_singleton]
    simp only [usedTo]
    rw [usedTo_old J _ _ (Nat.le_refl _), rd_T67_new J _ _ rfl]
  have used_lt : ∀ m, m ≤ J.length → ∀ x ∈ usedTo J m, x < n + m := by
    intro m
    induction m with
    | zero => intro _ x hx; simp [usedTo] at hx
    | succ m ihm =>
      intro hm' x hx
      obtain ⟨⟨p0, p1, p2⟩, q0, q1, q2⟩ := h.joins m (by omega)
      simp only [usedTo, List.mem_append, List.mem_singleton] at hx
      rcases hx with (hx | hx) | hx
      · have := ihm (by omega) x hx; omega
      · omega
      · omega
  refine ⟨?_, ?_, ?_, ?_⟩
  · have := restTo_length R a c ha hc hne
    have := h.len
    simp only [List.length_append, List.length_singleton]
    omega
  · rw [List.nodup_append]
    refine ⟨restTo_nodup R h.nd a c _ (Nat.le_refl _), by simp, fun x hx y hy => ?_⟩
    rw [List.mem_singleton] at hy
    obtain ⟨j, h1, _, _, rfl⟩ := restTo_mem R a c _ x hx
    have := (h.free (rd R j) (by rw [rd_nat R j h1]; exact List.getElem_mem h1)).2.1
    omega
  · intro v hv
    rw [hu]
    simp only [List.length_append, List.length_singleton, List.mem_append, List.mem_singleton, not_or]
    rcases List.mem_append.1 hv with hv | hv
    · obtain ⟨j, h1, h2, h3, rfl⟩ := restTo_mem R a c _ v hv
      obtain ⟨f1, f2, f3⟩ := h.free (rd R j) (by rw [rd_nat R j h1]; exact List.getElem_mem h1)
      exact ⟨f1, by omega, ⟨f3, fun e => h2 (rd_inj R h.nd j a h1 ha e)⟩, fun e => h3 (rd_inj R h.nd j c h1 hc e)⟩
    · rw [List.mem_singleton] at hv
      refine ⟨by omega, by omega, ⟨fun hx => ?_, by omega⟩, by omega⟩
      have := used_lt _ (Nat.le_refl _) _ hx
      omega
  · intro i hi
    simp only [List.length_append, List.length_singleton] at hi
    by_cases e : i < J.length
    · exact joinOk_old e (h.joins i e)
    · obtain rfl : i = J.length := by omega
      unfold JoinOk
      rw [rd_T67_new J _ _ rfl, usedTo_old J _ _ (Nat.le_refl _)]
      refine ⟨⟨hfa.1, hfa.2.1, hfa.2.2⟩, hfc.1, hfc.2.1, ?_⟩
      simp only [List.mem_append, List.mem_singleton, not_or]
      exact ⟨hfc.2.2, hac⟩
theorem made_l1 (x : List Int) (n : Nat) (R : List Int) (J : List S67) (x9 : Int) (a c : Nat) (r : Int × List S67) (hR : R.length ≤ 100)
    (h : Ev (fun k => wogglelaw02_made.l0 k x (n : Int) (restTo R a c R.length ++ [wrap64 (wrap64 ((n : Int) + (J.length : Int)) - 1)]) J (wrap64 (x9 + 1))) r) :
    Ev (fun k => wogglelaw02_made.l1 k x (n : Int) R J x9 (a : Int) (c : Int) [] 0) r := by
  have key := up_ind (fun i => Ev (fun k => wogglelaw02_made.l1 k x (n : Int) R J x9 (a : Int) (c : Int) (restTo R a c i) (i : Int)) r) R.length ?_ ?_
  · exact key
  · refine Ev.step (fun k => ?_) h
    simp only [wogglelaw02_made.l1]
    rw [if_neg (by omega), if_pos (by have := restTo_le R a c R.length; omega)]
  · intro i hi ih
    by_cases e1 : i = a
    · subst e1
      refine Ev.step (fun k => ?_) ih
      simp only [wogglelaw02_made.l1]
      rw [if_pos (by omega), if_pos trivial, succ_w i (by omega)]
      simp only [restTo]
      rw [if_pos (.inl trivial)]
    · by_cases e2 : i = c
      · subst e2
        refine Ev.step (fun k => ?_) ih
        simp only [wogglelaw02_made.l1]
        rw [if_pos (by omega), if_neg (by omega), if_pos trivial, succ_w i (by omega)]
        simp only [restTo]
        rw [if_pos (.inr trivial)]
      · refine Ev.step (fun k => ?_) ih
        simp only [wogglelaw02_made.l1]
        rw [if_pos (by omega), if_neg (by omega), if_neg (by omega), if_pos (by omega), if_pos (by have := restTo_le R a c i; omega), succ_w i (by omega)]
        simp only [restTo]
        rw [if_neg (show ¬ (i = a ∨ i = c) by omega)]
theorem made_rounds : ∀ len ∈ List.range 9, 2 ≤ len → ∀ m ∈ List.range 256, m % len < len ∧ (m % len + 1 + m / 8 % (len - 1)) % len < len ∧ m % len ≠ (m % len + 1 + m / 8 % (len - 1)) % len ∧ Int.tmod (m : Int) (len : Int) = ((m % len : Nat) : Int) ∧
    Int.tmod (wrap64 ((wrap64 ((Int.tmod (m : Int) (len : Int)) + 1)) + (Int.tmod (wrap64 (Int.tdiv (m : Int) 8)) (wrap64 ((len : Int) - 1))))) (len : Int) = (((m % len + 1 + m / 8 % (len - 1)) % len : Nat) : Int) := by decide +kernel
theorem made_round (m len : Nat) (h2 : 2 ≤ len) (h8 : len ≤ 8) (hm : m ≤ 255) : ∃ a c : Nat, a < len ∧ c < len ∧ a ≠ c ∧ Int.tmod (m : Int) (len : Int) = (a : Int) ∧
    Int.tmod (wrap64 ((wrap64 ((Int.tmod (m : Int) (len : Int)) + 1)) + (Int.tmod (wrap64 (Int.tdiv (m : Int) 8)) (wrap64 ((len : Int) - 1))))) (len : Int) = (c : Int) :=
  ⟨_, _, made_rounds len (List.mem_range.2 (Nat.lt_succ_of_le h8)) h2 m (List.mem_range.2 (Nat.lt_succ_of_le hm))⟩
theorem made_j1 (k : Nat) (x : List Int) (n : Nat) (R : List Int) (J : List S67) (i m a c : Nat) (h2 : 2 ≤ R.length) (h8 : R.length ≤ 8) (la : a < R.length) (lc : c < R.length) (e1 : Int.tmod (m : Int) (R.length : Int) = (a : Int))
    (e7 : Int.tmod (wrap64 ((wrap64 ((Int.tmod (m : Int) (R.length : Int)) + 1)) + (Int.tmod (wrap64 (Int.tdiv (m : Int) 8)) (wrap64 ((R.length : Int) - 1))))) (R.length : Int) = (c : Int)) (hJ : J.length < 100) :
    wogglelaw02_made.j1 (k + 1) x (n : Int) R J (i : Int) (m : Int) = wogglelaw02_made.l1 k x (n : Int) R (J ++ [(⟨rd R a, rd R c⟩ : S67)]) (i : Int) (a : Int) (c : Int) [] 0 := by
  have h0 : ¬ (R.length : Int) = 0 := by omega
  have h1 : ¬ wrap64 ((R.length : Int) - 1) = 0 := by rw [w64 _ (by omega) (by omega)]; omega
  have p1 : (0 : Int) ≤ a := by omega
  have p2 : (a : Int) < R.length := by omega
  have p3 : (0 : Int) ≤ c := by omega
  have p4 : (c : Int) < R.length := by omega
  have p5 : J.length < 8796093022208 := by omega
  rw [e1] at e7
  simp only [wogglelaw02_made.j1, h0, h1, e7, e1, p1, p2, p3, p4, p5, if_true, if_false]
theorem made_l0 (x : List Int) (hx : x.length ≤ maxLen ∧ ∀ v ∈ x, (Lit.int .u8 v).wf = true) (n : Nat) (hn : 2 ≤ n) (hn8 : n ≤ 8) (d : Nat) : ∀ (R : List Int) (J : List S67) (i : Nat), RootsOk n J R → R.length = d + 1 → i ≤ J.length →
    ∃ J', Ev (fun k => wogglelaw02_made.l0 k x (n : Int) R J (i : Int)) ((n : Int), J') ∧ TreeOk n J' := by
  have hxl := hx.1
  unfold maxLen at hxl
  induction d with
  | zero =>
    intro R J i h hd hi
    refine ⟨J, Ev.step (f := fun _ => some ((n : Int), J)) (fun k => by simp only [wogglelaw02_made.l0]; rw [if_neg (by omega)]) (Ev.now _), by omega, by omega, by have := h.len; omega, h.joins⟩
  | succ d ih =>
    intro R J i h hd hi
    have hlen := h.len
    -- what is read
    have one : ∀ v : Int, 0 ≤ v → v ≤ 255 → ∃ J', Ev (fun k => wogglelaw02_made.j1 k x (n : Int) R J (i : Int) v) ((n : Int), J') ∧ TreeOk n J' := by
      intro v v0 v1
      obtain ⟨m, rfl⟩ : ∃ m : Nat, v = m := ⟨v.toNat, by omega⟩
      obtain ⟨a, c, la, lc, hne, e1, e7⟩ := made_round m R.length (by omega) (by omega) (by omega)
      have E := Aside0.mk (And.intro e1 e7)
      clear e1 e7
      have hs := roots_step n J R h a c la lc hne
      have e8 : wrap64 (wrap64 ((n : Int) + ((J ++ [(⟨rd R a, rd R c⟩ : S67)]).length : Int)) - 1) = ((n + J.length : Nat) : Int) := by
        have q3a : (n : Int) + ((J.length : Int) + 1) - 1 = ((n + J.length : Nat) : Int) := by omega
        have q4 : -4611686018427387904 ≤ (n : Int) + ((J.length : Int) + 1) ∧ (n : Int) + ((J.length : Int) + 1) ≤ 4611686018427387904 := by omega
        have q5 : -4611686018427387904 ≤ ((n + J.length : Nat) : Int) ∧ ((n + J.length : Nat) : Int) ≤ 4611686018427387904 := by omega
        have q1 : ((J ++ [(⟨rd R a, rd R c⟩ : S67)]).length : Int) = (J.length : Int) + 1 := by rw [List.length_append, List.length_singleton]; rfl
        rw [q1, w64 _ q4.1 q4.2, q3a, w64 _ q5.1 q5.2]
      have E8 := Aside0.mk e8
      clear e8
      have hl1 : (restTo R a c R.length ++ [((n + J.length : Nat) : Int)]).length = d + 1 := by have := restTo_length R a c la lc hne; rw [List.length_append, List.length_singleton]; omega
      have hl2 : i + 1 ≤ (J ++ [(⟨rd R a, rd R c⟩ : S67)]).length := by rw [List.length_append, List.length_singleton]; omega
      obtain ⟨J', hJ', ht⟩ := ih _ _ (i + 1) hs hl1 hl2
      refine ⟨J', ?_, ht⟩
      refine Ev.step (f := fun k => wogglelaw02_made.l1 k x (n : Int) R (J ++ [(⟨rd R a, rd R c⟩ : S67)]) (i : Int) (a : Int) (c : Int) [] 0) (fun k => ?_) (made_l1 x n R _ (i : Int) a c _ (by omega) ?_)
      · exact made_j1 k x n R J i m a c (by omega) (by omega) la lc E.out.1 E.out.2 (by omega)
      · rw [E8.out, succ_w i (by omega)]
        exact hJ'
    by_cases c : i < x.length
    · have hv := hx.2 _ (List.getElem_mem c)
      have hv2 : 0 ≤ x[i] ∧ x[i] ≤ 255 := u8_le hv
      obtain ⟨J', hJ', ht⟩ := one x[i] hv2.1 hv2.2
      refine ⟨J', Ev.step (fun k => ?_) hJ', ht⟩
      simp only [wogglelaw02_made.l0]
      rw [if_pos (by omega), if_pos (by omega), if_pos (by omega), rd_nat x i c, w64 x[i] (by omega) (by omega)]
    · obtain ⟨J', hJ', ht⟩ := one 0 (by omega) (by omega)
      refine ⟨J', Ev.step (fun k => ?_) hJ', ht⟩
      simp only [wogglelaw02_made.l0]
      rw [if_pos (by omega), if_neg (by omega)]
/-- A tree out of arbitrary numbers. -/
theorem made_ev (a : Int) (ha : (Lit.int .u8 a).wf = true) (x : List Int) (hx : x.length ≤ maxLen ∧ ∀ v ∈ x, (Lit.int .u8 v).wf = true) :
    ∃ (n : Nat) (J : List S67), Ev (fun k => wogglelaw02_made.f k a x) ((n : Int), J) ∧ TreeOk n J := by
  have hv2 : 0 ≤ a ∧ a ≤ 255 := u8_le ha
  obtain ⟨m, rfl⟩ : ∃ m : Nat, a = m := ⟨a.toNat, by omega⟩
  have e : wrap64 (Int.tmod (wrap64 (m : Int)) 7 + 2) = ((m % 7 + 2 : Nat) : Int) := by
    rw [w64 (m : Int) (by omega) (by omega), Int.tmod_eq_emod_of_nonneg (by omega), w64 _ (by omega) (by omega)]; omega
  unfold wogglelaw02_made.f
  rw [e]
  generalize hq : m % 7 + 2 = q at *
  have hq2 : 2 ≤ q ∧ q ≤ 8 := by omega
  have h0 : RootsOk q [] ((List.range q).map (fun v : Nat => (v : Int))) := by
    refine ⟨by simp, ?_, ?_, fun i hi => absurd hi (by simp)⟩
    · refine List.pairwise_map.2 (List.Pairwise.imp (fun h => ?_) (List.nodup_range (n := q)))
      omega
    · intro v hv
      obtain ⟨u, hu, rfl⟩ := List.mem_map.1 hv
      have := List.mem_range.1 hu
      exact ⟨by omega, by simp; omega, by simp [usedTo]⟩
  obtain ⟨J', hJ', ht⟩ := made_l0 x hx q hq2.1 hq2.2 (q - 1) ((List.range q).map (fun v : Nat => (v : Int))) [] 0 h0 (by simp; omega) (Nat.le_refl _)
  exact ⟨_, J', Ev.bind (roots_ev q (by omega)) hJ', ht⟩
/-- The number of states. -/
theorem k_of (a : Int) (ha : (Lit.int .u8 a).wf = true) : ∃ k : Nat, wrap64 (Int.tmod (wrap64 a) 4 + 1) = (k : Int) ∧ 1 ≤ k ∧ k ≤ 4 := by
  have hv2 : 0 ≤ a ∧ a ≤ 255 := u8_le ha
  obtain ⟨m, rfl⟩ : ∃ m : Nat, a = m := ⟨a.toNat, by omega⟩
  refine ⟨m % 4 + 1, ?_, by omega, by omega⟩
  rw [w64 (m : Int) (by omega) (by omega), Int.tmod_eq_emod_of_nonneg (by omega), w64 _ (by omega) (by omega)]; omega
end Go.Proofs.Ytcphmeeighhdjaa.Pure

-- out of RL
namespace Go.Proofs.Ytcphmeeighhdjaa.Pure
open Go Go.Proofs Go.RowKit Go.Proofs.Ytcphmeeighhdjaa.P Go.Proofs.YtcphmeeighhdjaaW.PrintWords Go.Proofs.YtcphmeeighhdjaaW.PrintLast
set_option linter.unusedVariables false

section
variable {n : Nat} {J : List S67} {C : List (List Int)} {L : List Int}
/-- The least cost of all. -/
def bestOf (J : List S67) (C : List (List Int)) (L : List Int) : Int := (P.leastOf C.length C (none_ J) J L).1
end
end Go.Proofs.Ytcphmeeighhdjaa.Pure

-- out of RQ
namespace Go.Proofs.Ytcphmeeighhdjaa.Pure
open Go Go.Proofs Go.RowKit Go.Proofs.Ytcphmeeighhdjaa.P Go.Proofs.YtcphmeeighhdjaaW.PrintWords Go.Proofs.YtcphmeeighhdjaaW.PrintLast
set_option linter.unusedVariables false

section
variable {n : Int} {J : List S67} {C : List (List Int)} {L : List Int}
theorem read0_ev (ht : TreeOk n J) (hc : CostsOk C) (hs : StatesOk n C.length L) : Ev (fun k => readErr k n J C L) 0 := by
  have hJ : J.length ≤ 99 := by have := ht.2.2.1; have := ht.2.1; omega
  have h := read_ev n J C L hJ
  rw [errOf_0 ht hc hs] at h
  exact h
theorem leastQ_ev (ht : TreeOk n J) (hc : CostsOk C) (hs : StatesOk n C.length L) : Ev (fun k => track_Least.f k n J C L) (bestOf J C L, 0) := by
  unfold track_Least.f
  exact Ev.bind (read0_ev ht hc hs) (ev_val (if_pos rfl))
end
end Go.Proofs.Ytcphmeeighhdjaa.Pure

-- out of RS
namespace Go.Proofs.Ytcphmeeighhdjaa.Pure
open Go Go.Proofs Go.RowKit Go.Proofs.Ytcphmeeighhdjaa.P Go.Proofs.YtcphmeeighhdjaaW.PrintWords Go.Proofs.YtcphmeeighhdjaaW.PrintLast
set_option linter.unusedVariables false
theorem fit_few (J : List S67) (L : List Int) (m : Nat) (hm : m ≤ 1000) : 0 ≤ (fitTo J L m).2 ∧ (fitTo J L m).2 ≤ m := by
  induction m with
  | zero => exact ⟨Int.le_refl _, Int.le_refl _⟩
  | succ m ih =>
    have i := ih (by omega)
    simp only [fitTo]
    split
    · show 0 ≤ wrap64 ((fitTo J L m).2 + 1) ∧ wrap64 ((fitTo J L m).2 + 1) ≤ _
      rw [w64 _ (by omega) (by omega)]; omega
    · show 0 ≤ (fitTo J L m).2 ∧ (fitTo J L m).2 ≤ _
      omega
section
variable {n : Nat} {t : List (List Int)} (h2 : 2 ≤ n) (h8 : n ≤ 8) (ht : TableOk t) (hn : t.length = n)
include h2 h8 ht hn
-- the rest, as the reference lays it
end
end Go.Proofs.Ytcphmeeighhdjaa.Pure

-- out of RX
namespace Go.Proofs.Ytcphmeeighhdjaa.Pure
open Go Go.Proofs Go.RowKit Go.Proofs.Ytcphmeeighhdjaa.P Go.Proofs.YtcphmeeighhdjaaW.PrintWords Go.Proofs.YtcphmeeighhdjaaW.PrintLast
set_option linter.unusedVariables false
/-- The set of a join, and whether it is a change. -/
def st (p q : Int) : Int × Int := if Go.bits .and .i64 p q = 0 then (Go.bits .or .i64 p q, 1) else (Go.bits .and .i64 p q, 0)
/-! ### Fitch's sets, step by step -/
theorem rd_old (l : List Int) (x : Int) (v : Nat) (h : v < l.length) : rd (l ++ [x]) v = rd l v := by
  rw [rd_nat _ v (by rw [List.length_append]; omega), rd_nat l v h, List.getElem_append_left h]
theorem rd_new (l : List Int) (x : Int) (v : Nat) (h : v = l.length) : rd (l ++ [x]) v = x := by
  subst h
  rw [rd_nat _ _ (by rw [List.length_append, List.length_singleton]; omega), List.getElem_append_right (Nat.le_refl _)]
  simp
section
variable (J : List S67) (L : List Int)
/-- The set of a node, once m joins are made. -/
def fs (m : Nat) (v : Int) : Int := rd (fitTo J L m).1 v
theorem fit_step (m : Nat) (hm : m ≤ 1000) : (fitTo J L (m + 1)).1 = (fitTo J L m).1 ++ [(st (fs J L m (rd_T67 J m).f0) (fs J L m (rd_T67 J m).f1)).1] ∧ (fitTo J L (m + 1)).2 = (fitTo J L m).2 + (st (fs J L m (rd_T67 J m).f0) (fs J L m (rd_T67 J m).f1)).2 := by
  have f := fit_few J L m hm
  unfold st fs
  simp only [fitTo]
  split
  · refine ⟨rfl, ?_⟩
    show wrap64 ((fitTo J L m).2 + 1) = (fitTo J L m).2 + 1
    rw [w64 _ (by omega) (by omega)]
  · exact ⟨rfl, (Int.add_zero _).symm⟩
theorem fs_old (m : Nat) (hm : m ≤ 1000) (v : Nat) (h : v < L.length + m) : fs J L (m + 1) v = fs J L m v := by
  unfold fs
  rw [(fit_step J L m hm).1, rd_old _ _ v (by rw [fitTo_length]; exact h)]
theorem fs_new (m : Nat) (hm : m ≤ 1000) : fs J L (m + 1) ((L.length + m : Nat) : Int) = (st (fs J L m (rd_T67 J m).f0) (fs J L m (rd_T67 J m).f1)).1 := by
  unfold fs
  rw [(fit_step J L m hm).1, rd_new _ _ _ (by rw [fitTo_length])]
  rfl
end
/-! ### the last leaf goes -/
theorem used_lt (n : Int) (J : List S67) (m : Nat) (h : ∀ i, i < m → JoinOk n J i) : ∀ x ∈ usedTo J m, 0 ≤ x ∧ x < n + m := by
  induction m with
  | zero => intro x hx; simp [usedTo] at hx
  | succ m ih =>
    intro x hx
    simp only [usedTo, List.mem_append, List.mem_singleton] at hx
    obtain ⟨⟨a1, a2, _⟩, ⟨b1, b2, _⟩⟩ := h m (by omega)
    rcases hx with (hx | rfl) | rfl
    · have := ih (fun i hi => h i (by omega)) x hx; omega
    · omega
    · omega
section
variable {n : Nat} {J : List S67} {m : Nat} (hn : 1 ≤ n) (hn8 : n ≤ 8) (hm : m < J.length) (hJ : J.length ≤ 8) (hj : ∀ i, i < J.length → JoinOk ((n + 1 : Nat) : Int) J i)
include hn hn8 hm hJ hj
end
end Go.Proofs.Ytcphmeeighhdjaa.Pure

-- out of RY
namespace Go.Proofs.Ytcphmeeighhdjaa.Pure
open Go Go.Proofs Go.RowKit Go.Proofs.Ytcphmeeighhdjaa.P Go.Proofs.YtcphmeeighhdjaaW.PrintWords Go.Proofs.YtcphmeeighhdjaaW.PrintLast
set_option linter.unusedVariables false
/-- A table, as the reference lays it. -/
def mk3 (k : Nat) (f : Nat → Int × Int) : S63 := ⟨(List.range k).map (fun s => (f s).1), (List.range k).map (fun s => (f s).2)⟩
/-- A table in which a state without ways costs more than any cost. -/
def Vt (k : Nat) (f : Nat → Int × Int) : Prop := ∀ s, s < k → (0 ≤ (f s).2 ∧ (f s).2 ≤ 268435456) ∧ ((f s).2 = 0 → (f s).1 = TT.far) ∧ ((f s).2 ≠ 0 → 0 ≤ (f s).1 ∧ (f s).1 ≤ 1400)
theorem mk3_rd (k : Nat) (f : Nat → Int × Int) (s : Nat) (hs : s < k) : rd (mk3 k f).f0 s = (f s).1 ∧ rd (mk3 k f).f1 s = (f s).2 := by
  unfold mk3
  constructor
  · rw [rd_nat _ s (by simp; exact hs)]; simp
  · rw [rd_nat _ s (by simp; exact hs)]; simp
theorem best3_ev (k : Nat) (hk : k ≤ 4) (f : Nat → Int × Int) (R : Nat → Int) (row : List Int) (hf : Vt k f) (hl : row.length = k) (hr : ∀ s, s < k → rd row s = R s ∧ 0 ≤ R s ∧ R s ≤ 100) :
    Ev (fun q => woggleref02_Best.f q (mk3 k f).f0 (mk3 k f).f1 row) (TT.belowE R f k) := by
  unfold woggleref02_Best.f
  have l0 : (mk3 k f).f0.length = k := by simp [mk3]
  have l1 : (mk3 k f).f1.length = k := by simp [mk3]
  have B := fun m (hm : m ≤ k) => TT.below_many R f m 268435456 (fun s hs => (hf s (by omega)).1)
  have key := up_ind (fun m => Ev (fun q => woggleref02_Best.l0 q row (TT.belowE R f m).1 (TT.belowE R f m).2 (m : Int) (mk3 k f).f0 (mk3 k f).f1) (TT.belowE R f k)) k ?_ ?_
  · exact key
  · exact Ev.step (f := fun _ => some (TT.belowE R f k)) (fun q => by simp only [woggleref02_Best.l0]; rw [if_neg (by omega)]) (Ev.now _)
  · intro m hm ih
    obtain ⟨e0, e1⟩ := mk3_rd k f m hm
    obtain ⟨r0, r1, r2⟩ := hr m hm
    obtain ⟨f1, f2, f3⟩ := hf m hm
    have Bm := B m (by omega)
    have hbest : (TT.belowE R f (m + 1)) = if (f m).2 = 0 then TT.belowE R f m else if (f m).1 + R m < (TT.belowE R f m).1 then ((f m).1 + R m, (f m).2) else if (f m).1 + R m = (TT.belowE R f m).1 then ((TT.belowE R f m).1, (TT.belowE R f m).2 + (f m).2) else TT.belowE R f m := rfl
    have p1 : (m : Int) < (row.length : Int) := by omega
    have p2 : (m : Int) < ((mk3 k f).f0.length : Int) := by omega
    have p3 : (m : Int) < ((mk3 k f).f1.length : Int) := by omega
    by_cases c : (f m).2 = 0
    · have hfar := f2 c
      rw [hbest, if_pos c] at ih
      refine Ev.step (f := fun q => woggleref02_Best.j1 q row (TT.belowE R f m).1 (TT.belowE R f m).2 (m : Int) (wrap64 ((f m).1 + R m)) false (mk3 k f).f0 (mk3 k f).f1) (fun q => ?_) (Ev.step (fun q => ?_) ih)
      · simp only [woggleref02_Best.l0]
        rw [if_pos p1, if_pos (show 0 ≤ (m : Int) by omega), if_pos p2, e0, r0, if_neg (by rw [hfar]; unfold TT.far; omega)]
      · simp only [woggleref02_Best.j1]
        rw [if_neg (by decide), if_pos (show 0 ≤ (m : Int) by omega), if_pos p2, e0, if_neg (by rw [hfar]; unfold TT.far; omega), succ_w m (by omega)]
    · have hs := f3 c
      rw [hbest, if_neg c] at ih
      have hw : wrap64 ((f m).1 + R m) = (f m).1 + R m := w64 _ (by omega) (by omega)
      have hwz : wrap64 ((TT.belowE R f m).2 + (f m).2) = (TT.belowE R f m).2 + (f m).2 := by
        have : (m : Int) * 268435456 ≤ 4 * 268435456 := Int.mul_le_mul_of_nonneg_right (by omega) (by omega)
        exact w64 _ (by omega) (by omega)
      have HW := Aside0.mk hw
      have HWZ := Aside0.mk hwz
      clear hw hwz
      refine Ev.step (f := fun q => woggleref02_Best.j1 q row (TT.belowE R f m).1 (TT.belowE R f m).2 (m : Int) ((f m).1 + R m) (decide ((f m).1 + R m < (TT.belowE R f m).1)) (mk3 k f).f0 (mk3 k f).f1) (fun q => ?_) ?_
      · simp only [woggleref02_Best.l0]
        rw [if_pos p1, if_pos (show 0 ≤ (m : Int) by omega), if_pos p2, e0, r0, if_pos (by omega), HW.out]
      · by_cases d : (f m).1 + R m < (TT.belowE R f m).1
        · rw [if_pos d] at ih
          refine Ev.step (fun q => ?_) ih
          simp only [woggleref02_Best.j1]
          rw [if_pos (decide_eq_true d), if_pos (show 0 ≤ (m : Int) by omega), if_pos p3, e1, succ_w m (by omega)]
        · rw [if_neg d] at ih
          by_cases e : (f m).1 + R m = (TT.belowE R f m).1
          · rw [if_pos e] at ih
            refine Ev.step (fun q => ?_) ih
            simp only [woggleref02_Best.j1]
            rw [if_neg (by rw [decide_eq_false d]; decide), if_pos (show 0 ≤ (m : Int) by omega), if_pos p2, e0, if_pos (by omega), if_pos e, if_pos p3, e1, HWZ.out, succ_w m (by omega)]
          · rw [if_neg e] at ih
            refine Ev.step (fun q => ?_) ih
            simp only [woggleref02_Best.j1]
            rw [if_neg (by rw [decide_eq_false d]; decide), if_pos (show 0 ≤ (m : Int) by omega), if_pos p2, e0, if_pos (by omega), if_neg e, succ_w m (by omega)]
section
variable {n : Nat} {J : List S67} {C : List (List Int)} {L : List Int}
/-- The tables of the trees: no state is fixed. -/
def tb (C : List (List Int)) (L : List Int) : TT.T → Nat → Int × Int := TT.tab (cOf C) C.length (lOf L) (fun _ => -1)
theorem pow7 : ∀ a : Nat, a ≤ 7 → (16 : Int) ^ a ≤ 268435456 := by decide
theorem tb_vt (hc : CostsOk C) (t : TT.T) (hn : t.idx.length ≤ 7) (hL : ∀ v ∈ t.leaves, lOf L v < C.length) : Vt C.length (tb C L t) := by
  intro s hs
  have B := TT.tab_bounds (cOf C) C.length (lOf L) (fun _ => -1) hc.2.2 (costs_of hc) t (by omega) s hs
  refine ⟨⟨B.1.1, Int.le_trans B.1.2 (pow7 _ hn)⟩, fun h0 => ?_, fun h0 => by have b2 : 0 ≤ (tb C L t s).1 ∧ (tb C L t s).1 ≤ 200 * (t.idx.length : Int) := B.2 h0; omega⟩
  cases t with
  | leaf v =>
    unfold tb TT.tab at h0 ⊢
    by_cases e : s = lOf L v
    · rw [if_pos e] at h0; exact absurd h0 (by decide)
    · rw [if_neg e]
  | node i l r =>
    exfalso
    have := TT.tab_le (cOf C) C.length (lOf L) (fun _ => -1) hc.2.2 (costs_of hc) (TT.T.node i l r) (by omega) hL (fun _ => s) (fun j hj => ⟨hs, fun h => absurd (show (0 : Int) ≤ -1 from h) (by decide)⟩)
    exact this.2.1 h0
theorem jr_ev (hc : CostsOk C) (i : Nat) (l r : TT.T) (hn : 1 + (l.idx.length + r.idx.length) ≤ 7) (hl : ∀ v ∈ l.leaves, lOf L v < C.length) (hr : ∀ v ∈ r.leaves, lOf L v < C.length) :
    Ev (fun q => jr q (mk3 C.length (tb C L l)) (mk3 C.length (tb C L r)) C C.length 0 [] []) (mk3 C.length (tb C L (TT.T.node i l r))) := by
  have vl := tb_vt hc l (by omega) hl
  have vr := tb_vt hc r (by omega) hr
  have hC := costs_of hc
  have Bn := TT.tab_bounds (cOf C) C.length (lOf L) (fun _ => -1) hc.2.2 hC (TT.T.node i l r) (by rw [TT.idx_length_node]; omega)
  have key := up_ind (fun s => Ev (fun q => jr q (mk3 C.length (tb C L l)) (mk3 C.length (tb C L r)) C (C.length - s) s ((List.range s).map (fun u => (tb C L (TT.T.node i l r) u).1)) ((List.range s).map (fun u => (tb C L (TT.T.node i l r) u).2))) (mk3 C.length (tb C L (TT.T.node i l r)))) C.length ?_ ?_
  · exact key
  · rw [Nat.sub_self]; exact Ev.now _
  · intro s hs ih
    have hrow : (rd_L3 C s).length = C.length ∧ ∀ u, u < C.length → rd (rd_L3 C s) u = cOf C s u ∧ 0 ≤ cOf C s u ∧ cOf C s u ≤ 100 := by
      refine ⟨by rw [rd_L3_nat C s hs]; exact (hc.1 _ (List.getElem_mem _)).1, fun u hu => ⟨rfl, hC s u hs hu⟩⟩
    have e1 := best3_ev C.length hc.2.2 (tb C L l) (cOf C s) (rd_L3 C s) vl hrow.1 hrow.2
    have e2 := best3_ev C.length hc.2.2 (tb C L r) (cOf C s) (rd_L3 C s) vr hrow.1 hrow.2
    have sl := TT.below_spec (cOf C s) (tb C L l) C.length (fun u hu => (vl u hu).1.1) (fun u hu h => by have := (vl u hu).2.2 h; have := hC s u hs hu; unfold TT.far; omega)
    have sr := TT.below_spec (cOf C s) (tb C L r) C.length (fun u hu => (vr u hu).1.1) (fun u hu h => by have := (vr u hu).2.2 h; have := hC s u hs hu; unfold TT.far; omega)
    have bd : ∀ (t : TT.T), Vt C.length (tb C L t) → ((TT.belowE (cOf C s) (tb C L t) C.length).2 ≠ 0 → ∃ u, u < C.length ∧ (tb C L t u).2 ≠ 0 ∧ (TT.belowE (cOf C s) (tb C L t) C.length).1 = (tb C L t u).1 + cOf C s u) → ((TT.belowE (cOf C s) (tb C L t) C.length).2 = 0 → (TT.belowE (cOf C s) (tb C L t) C.length).1 = TT.far) → 0 ≤ (TT.belowE (cOf C s) (tb C L t) C.length).1 ∧ (TT.belowE (cOf C s) (tb C L t) C.length).1 ≤ 1073741824 := by
      intro t vt h1 h2
      by_cases z : (TT.belowE (cOf C s) (tb C L t) C.length).2 = 0
      · rw [h2 z]; unfold TT.far; omega
      · obtain ⟨u, hu, g1, g2⟩ := h1 z
        have := (vt u hu).2.2 g1
        have := hC s u hs hu
        omega
    have dl := bd l vl sl.2.2.1 sl.2.2.2
    have dr := bd r vr sr.2.2.1 sr.2.2.2
    have hnode : tb C L (TT.T.node i l r) s = ((TT.belowE (cOf C s) (tb C L l) C.length).1 + (TT.belowE (cOf C s) (tb C L r) C.length).1, (TT.belowE (cOf C s) (tb C L l) C.length).2 * (TT.belowE (cOf C s) (tb C L r) C.length).2) := by
      unfold tb
      simp only [TT.tab]
      rw [if_neg (by omega)]
    have w1 : wrap64 ((TT.belowE (cOf C s) (tb C L l) C.length).1 + (TT.belowE (cOf C s) (tb C L r) C.length).1) = (tb C L (TT.T.node i l r) s).1 := by rw [hnode]; exact w64 _ (by omega) (by omega)
    have w2 : wrap64 ((TT.belowE (cOf C s) (tb C L l) C.length).2 * (TT.belowE (cOf C s) (tb C L r) C.length).2) = (tb C L (TT.T.node i l r) s).2 := by
      have b := (Bn s hs).1
      have b2 : (tb C L (TT.T.node i l r) s).2 ≤ 268435456 := Int.le_trans b.2 (pow7 _ (by rw [TT.idx_length_node]; omega))
      have b1 : 0 ≤ (tb C L (TT.T.node i l r) s).2 := b.1
      rw [hnode] at b1 b2 ⊢
      exact w64 _ (by omega) (by omega)
    have W := Aside0.mk (And.intro w1 w2)
    clear w1 w2
    rw [show C.length - s = (C.length - (s + 1)) + 1 by omega]
    refine Ev.bind e1 (Ev.bind e2 ?_)
    show Ev (fun q => jr q (mk3 C.length (tb C L l)) (mk3 C.length (tb C L r)) C (C.length - (s + 1)) (s + 1) ((List.range s).map (fun u => (tb C L (TT.T.node i l r) u).1) ++ [wrap64 ((TT.belowE (cOf C s) (tb C L l) C.length).1 + (TT.belowE (cOf C s) (tb C L r) C.length).1)]) ((List.range s).map (fun u => (tb C L (TT.T.node i l r) u).2) ++ [wrap64 ((TT.belowE (cOf C s) (tb C L l) C.length).2 * (TT.belowE (cOf C s) (tb C L r) C.length).2)])) _
    rw [W.out.1, W.out.2, ← range_succ_map (fun u => (tb C L (TT.T.node i l r) u).1), ← range_succ_map (fun u => (tb C L (TT.T.node i l r) u).2)]
    exact ih
theorem leaf3 (K s : Nat) (f : Nat → Int × Int) (hf : ∀ t, t < K → f t = if t = s then (0, 1) else (TT.far, 0)) : leafN K (s : Int) = mk3 K f := by
  have key : ∀ t, t ≤ K → (leafTo (s : Int) t).1 = (List.range t).map (fun u => (f u).1) ∧ (leafTo (s : Int) t).2 = (List.range t).map (fun u => (f u).2) := by
    intro t
    induction t with
    | zero => intro _; exact ⟨rfl, rfl⟩
    | succ t ih =>
      intro h
      obtain ⟨a, b⟩ := ih (by omega)
      rw [range_succ_map, range_succ_map, hf t (by omega), ← a, ← b]
      have el : leafTo (s : Int) (t + 1) = if (t : Int) = s then ((leafTo (s : Int) t).1 ++ [0], (leafTo (s : Int) t).2 ++ [1]) else ((leafTo (s : Int) t).1 ++ [1073741824], (leafTo (s : Int) t).2 ++ [0]) := rfl
      rw [el]
      by_cases c : t = s
      · rw [if_pos (by omega), if_pos c]; exact ⟨rfl, rfl⟩
      · rw [if_neg (by omega), if_neg c]; exact ⟨rfl, rfl⟩
  have := key K (Nat.le_refl _)
  unfold leafN mk3
  rw [this.1, this.2]
/-- The tables of all nodes. -/
def nodes3 (n : Nat) (J : List S67) (C : List (List Int)) (L : List Int) (m : Nat) : List S63 := (List.range (n + m)).map (fun v => mk3 C.length (tb C L (TT.tr n (aOf J) (bOf J) m v)))
theorem nodes_rd (m v : Nat) (hv : v < n + m) : rd_T63 (nodes3 n J C L m) v = mk3 C.length (tb C L (TT.tr n (aOf J) (bOf J) m v)) := by
  unfold rd_T63 nodes3
  rw [Int.toNat_natCast, List.getD_eq_getElem?_getD, List.getElem?_map, List.getElem?_eq_getElem (by simp; exact hv)]
  simp
theorem tr_facts (ht : TreeOk n J) (hs : StatesOk n C.length L) (m : Nat) (hm : m ≤ J.length) (v : Nat) (hv : v ∈ TT.rootsTo n (aOf J) (bOf J) m) :
    (TT.tr n (aOf J) (bOf J) m v).idx.length ≤ m ∧ ∀ u ∈ (TT.tr n (aOf J) (bOf J) m v).leaves, lOf L u < C.length := by
  have hV : TT.Valid n (aOf J) (bOf J) J.length := valid_of ht
  have hVm : TT.Valid n (aOf J) (bOf J) m := fun i hi => hV i (by omega)
  refine ⟨idx_le n _ _ m hVm v hv, fun u hu => ?_⟩
  have p := TT.roots_leaves n (aOf J) (bOf J) m hVm
  have hin : u ∈ List.range n := p.mem_iff.1 (List.mem_flatMap.2 ⟨v, hv, hu⟩)
  have hu' := List.mem_range.1 hin
  have hvL : u < L.length := by have := hs.2; omega
  have := hs.1 _ (List.getElem_mem hvL)
  unfold lOf
  rw [rd_nat L u hvL]
  omega
theorem nr_ev (ht : TreeOk n J) (hc : CostsOk C) (hs : StatesOk n C.length L) : Ev (fun q => nr q C J J.length 0 (L.map (leafN C.length))) (nodes3 n J C L J.length) := by
  have hLn : L.length = n := by have := hs.2; omega
  have hV : TT.Valid n (aOf J) (bOf J) J.length := valid_of ht
  have h0 : L.map (leafN C.length) = nodes3 n J C L 0 := by
    unfold nodes3
    refine List.ext_getElem (by simp [hLn]) (fun v h1 h2 => ?_)
    simp only [List.length_map] at h1
    simp only [List.getElem_map, List.getElem_range]
    rw [TT.tr_leaf n _ _ v (by omega)]
    have hb := hs.1 _ (List.getElem_mem h1)
    obtain ⟨s, hs'⟩ : ∃ s : Nat, L[v] = s := ⟨L[v].toNat, by omega⟩
    rw [hs']
    refine leaf3 C.length s _ (fun t _ => ?_)
    have e : lOf L v = s := by unfold lOf; rw [rd_nat L v h1, hs']; rfl
    unfold tb TT.tab
    rw [e]
  rw [h0]
  have key := up_ind (fun m => Ev (fun q => nr q C J (J.length - m) m (nodes3 n J C L m)) (nodes3 n J C L J.length)) J.length ?_ ?_
  · exact key
  · rw [Nat.sub_self]; exact Ev.now _
  · intro m hm ih
    obtain ⟨⟨a0, a1, _⟩, b0, b1, _⟩ := ht.2.2.2 m hm
    have ea : (rd_T67 J m).f0 = ((aOf J m : Nat) : Int) := by unfold aOf; omega
    have eb : (rd_T67 J m).f1 = ((bOf J m : Nat) : Int) := by unfold bOf; omega
    obtain ⟨ra, rb, _⟩ := hV m hm
    have Fa := tr_facts ht hs m (by omega) _ ra
    have Fb := tr_facts ht hs m (by omega) _ rb
    have hx := tr_facts ht hs (m + 1) (by omega) (n + m) (by simp [TT.rootsTo])
    rw [TT.tr_new, TT.idx_length_node] at hx
    have hn := ht.2.2.1
    have hn8 := ht.2.1
    have e := jr_ev hc m _ _ (by omega) Fa.2 Fb.2
    have hup : nodes3 n J C L (m + 1) = nodes3 n J C L m ++ [mk3 C.length (tb C L (TT.T.node m (TT.tr n (aOf J) (bOf J) m (aOf J m)) (TT.tr n (aOf J) (bOf J) m (bOf J m))))] := by
      unfold nodes3
      rw [show n + (m + 1) = n + m + 1 by omega, range_succ_map, TT.tr_new]
      congr 1
      refine List.map_congr_left (fun v hv => ?_)
      rw [TT.tr_succ n _ _ m v (List.mem_range.1 hv)]
    rw [show J.length - m = (J.length - (m + 1)) + 1 by omega]
    show Ev (fun q => (jr q (rd_T63 (nodes3 n J C L m) (rd_T67 J m).f0) (rd_T63 (nodes3 n J C L m) (rd_T67 J m).f1) C C.length 0 [] []).bind fun x => nr q C J (J.length - (m + 1)) (m + 1) (nodes3 n J C L m ++ [x])) _
    rw [ea, eb, nodes_rd m _ (by omega), nodes_rd m _ (by omega)]
    refine Ev.bind e ?_
    rw [← hup]
    exact ih
theorem nodes_ev (ht : TreeOk n J) (hc : CostsOk C) (hs : StatesOk n C.length L) : Ev (fun q => woggleref02_Nodes.f q n J C L) (nodes3 n J C L J.length) := by
  have h1 := ht.2.2.1
  have h2 := ht.2.1
  have h3 := hc.2.2
  have h4 := hs.2
  refine Ev.congr (fun q => ?_) (nr_ev ht hc hs)
  unfold woggleref02_Nodes.f
  have hok : NodesOk n J C L := ⟨by omega, by omega, by omega, by omega, fun i hi => by
    obtain ⟨⟨a0, a1, _⟩, b0, b1, _⟩ := ht.2.2.2 i hi
    omega⟩
  rw [if_pos hok]
/-- The root's table. -/
theorem root_rd (ht : TreeOk n J) : rd_T63 (nodes3 n J C L J.length) ((2 * n - 2 : Nat) : Int) = mk3 C.length (tb C L (TT.whole n (aOf J) (bOf J))) := by
  have h1 := ht.2.2.1
  have h2 := ht.1
  rw [nodes_rd J.length (2 * n - 2) (by omega)]
  unfold TT.whole
  rw [show J.length = n - 1 by omega]
theorem root_vt (ht : TreeOk n J) (hc : CostsOk C) (hs : StatesOk n C.length L) : Vt C.length (tb C L (TT.whole n (aOf J) (bOf J))) := by
  have h1 := ht.2.2.1
  have h2 := ht.1
  have h3 := ht.2.1
  have hV : TT.Valid n (aOf J) (bOf J) J.length := valid_of ht
  rw [show J.length = n - 1 by omega] at hV
  refine tb_vt hc _ (by rw [(TT.whole_idx n _ _ (by omega) hV).length_eq, List.length_range]; omega) (fun u hu => ?_)
  have hin := (TT.whole_leaves n _ _ (by omega) hV).mem_iff.1 hu
  have hu' := List.mem_range.1 hin
  have hvL : u < L.length := by have := hs.2; omega
  have := hs.1 _ (List.getElem_mem hvL)
  unfold lOf
  rw [rd_nat L u hvL]
  omega
end
end Go.Proofs.Ytcphmeeighhdjaa.Pure

-- out of RZ
namespace Go.Proofs.Ytcphmeeighhdjaa.Pure
open Go Go.Proofs Go.RowKit Go.Proofs.Ytcphmeeighhdjaa.P Go.Proofs.YtcphmeeighhdjaaW.PrintWords Go.Proofs.YtcphmeeighhdjaaW.PrintLast
set_option linter.unusedVariables false
theorem nat16 : ∀ s ∈ List.range 16, ∀ u ∈ List.range 16, Go.bits .and .i64 ((s : Nat) : Int) ((u : Nat) : Int) = ((s &&& u : Nat) : Int) ∧ Go.bits .or .i64 ((s : Nat) : Int) ((u : Nat) : Int) = ((s ||| u : Nat) : Int) ∧ s &&& u < 16 ∧ s ||| u < 16 := by decide +kernel
theorem shl4 : ∀ s ∈ List.range 4, shl .i64 1 ((s : Nat) : Int) = ((2 ^ s : Nat) : Int) ∧ 2 ^ s < 16 := by decide +kernel
theorem some4 : ∀ k ∈ List.range 5, ∀ s ∈ List.range (2 ^ k), s ≠ 0 → ∃ i ∈ List.range k, s.testBit i = true := by decide +kernel
theorem mem4 : ∀ k ∈ List.range 5, ∀ s ∈ List.range 16, memTo ((s : Nat) : Int) k = ((List.range k).filter (fun i => s.testBit i)).map (fun i : Nat => (i : Int)) := by decide +kernel
theorem and4 : ∀ k ∈ List.range 5, ∀ s ∈ List.range (2 ^ k), ∀ u ∈ List.range (2 ^ k), s &&& u < 2 ^ k ∧ s ||| u < 2 ^ k := by decide +kernel
/-- Fitch's set of a tree and the number of its changes. -/
def fit3 (L : Nat → Nat) : TT.T → Nat × Int
  | .leaf v => (2 ^ L v, 0)
  | .node _ l r => if (fit3 L l).1 &&& (fit3 L r).1 = 0 then ((fit3 L l).1 ||| (fit3 L r).1, (fit3 L l).2 + (fit3 L r).2 + 1) else ((fit3 L l).1 &&& (fit3 L r).1, (fit3 L l).2 + (fit3 L r).2)
/-- What the table of a tree says beside Fitch's set S and number f. -/
def Fits (k : Nat) (g : Nat → Int × Int) (S : Nat) (f : Int) : Prop := ∀ s, s < k → (S.testBit s = true → (g s).2 ≠ 0 ∧ (g s).1 = f) ∧ (S.testBit s = false → (g s).2 = 0 ∨ f + 1 ≤ (g s).1)
section
variable {k : Nat} (hk : k ≤ 4)
include hk
theorem fits_below (g : Nat → Int × Int) (S : Nat) (f : Int) (R : Nat → Int) (s : Nat) (hs : s < k) (hR : ∀ u, u < k → R u = if s = u then 0 else 1) (hg : Vt k g) (hS : S < 2 ^ k) (hS0 : S ≠ 0) (h : Fits k g S f) :
    (TT.belowE R g k).2 ≠ 0 ∧ (TT.belowE R g k).1 = f + (if S.testBit s then 0 else 1) := by
  have sp := TT.below_spec R g k (fun u hu => (hg u hu).1.1) (fun u hu h0 => by have := (hg u hu).2.2 h0; have := hR u hu; unfold TT.far; split at this <;> omega)
  obtain ⟨i, hi, hb⟩ := some4 k (List.mem_range.2 (by omega)) S (List.mem_range.2 hS) hS0
  have hi' := List.mem_range.1 hi
  obtain ⟨i1, i2⟩ := (h i hi').1 hb
  have hle := sp.2.1 i hi' i1
  have hne : (TT.belowE R g k).2 ≠ 0 := by omega
  obtain ⟨u, hu, u1, u2⟩ := sp.2.2.1 hne
  refine ⟨hne, ?_⟩
  have hu3 := hR u hu
  have hi3 := hR i hi'
  by_cases c : S.testBit s = true
  · rw [if_pos c]
    obtain ⟨s1, s2⟩ := (h s hs).1 c
    have hsl := (sp.2.1 s hs s1).1
    have := hR s hs
    rw [if_pos rfl] at this
    have hge : f ≤ (g u).1 := by
      by_cases d : S.testBit u = true
      · have := ((h u hu).1 d).2; omega
      · rcases (h u hu).2 (by simpa using d) with e | e
        · exact absurd e u1
        · omega
    split at hu3 <;> omega
  · rw [if_neg c]
    have hi4 : R i ≤ 1 := by split at hi3 <;> omega
    by_cases d : S.testBit u = true
    · have hsu : ¬ s = u := fun e => c (e ▸ d)
      rw [if_neg hsu] at hu3
      have := ((h u hu).1 d).2
      omega
    · rcases (h u hu).2 (by simpa using d) with e | e
      · exact absurd e u1
      · split at hu3 <;> omega
end
section
variable {n : Nat} {J : List S67} {L : List Int} {k : Nat}
theorem fits_all (h1 : 1 ≤ k) (hk : k ≤ 4) (t : TT.T) (hn : t.idx.length ≤ 7) (hL : ∀ v ∈ t.leaves, lOf L v < k) : ((fit3 (lOf L) t).1 < 2 ^ k ∧ (fit3 (lOf L) t).1 ≠ 0 ∧ 0 ≤ (fit3 (lOf L) t).2) ∧ Fits k (tb (unitL k k) L t) (fit3 (lOf L) t).1 (fit3 (lOf L) t).2 := by
  have hc := unit_costs k h1 hk
  have hl := unitL_length k
  induction t with
  | leaf v =>
    have hv := hL v (by simp [TT.T.leaves])
    refine ⟨⟨Nat.pow_lt_pow_right (by decide) hv, by show 2 ^ _ ≠ 0; exact Nat.ne_of_gt (Nat.pow_pos (by decide)), Int.le_refl _⟩, fun s hs => ?_⟩
    unfold tb TT.tab fit3
    rw [Nat.testBit_two_pow]
    by_cases e : s = lOf L v
    · rw [if_pos e]
      exact ⟨fun _ => ⟨by decide, rfl⟩, fun h => by rw [decide_eq_true e.symm] at h; cases h⟩
    · rw [if_neg e]
      exact ⟨fun h => absurd (of_decide_eq_true h).symm e, fun _ => .inl rfl⟩
  | node i l r ihl ihr =>
    rw [TT.idx_length_node] at hn
    have Ll : ∀ v ∈ l.leaves, lOf L v < k := fun v hv => hL v (by simp [TT.T.leaves, hv])
    have Lr : ∀ v ∈ r.leaves, lOf L v < k := fun v hv => hL v (by simp [TT.T.leaves, hv])
    obtain ⟨⟨l1, l2, l3⟩, l4⟩ := ihl (by omega) Ll
    obtain ⟨⟨r1, r2, r3⟩, r4⟩ := ihr (by omega) Lr
    have vl := tb_vt (L := L) hc l (by omega) (by rw [hl]; exact Ll)
    have vr := tb_vt (L := L) hc r (by omega) (by rw [hl]; exact Lr)
    rw [hl] at vl vr
    have a4 := and4 k (List.mem_range.2 (by omega)) _ (List.mem_range.2 l1) _ (List.mem_range.2 r1)
    have hnode : ∀ s, s < k → tb (unitL k k) L (TT.T.node i l r) s = ((TT.belowE (cOf (unitL k k) s) (tb (unitL k k) L l) k).1 + (TT.belowE (cOf (unitL k k) s) (tb (unitL k k) L r) k).1, (TT.belowE (cOf (unitL k k) s) (tb (unitL k k) L l) k).2 * (TT.belowE (cOf (unitL k k) s) (tb (unitL k k) L r) k).2) := by
      intro s hs
      unfold tb
      simp only [TT.tab]
      rw [if_neg (by omega), hl]
    have key : ∀ s, s < k → (tb (unitL k k) L (TT.T.node i l r) s).2 ≠ 0 ∧ (tb (unitL k k) L (TT.T.node i l r) s).1 = (fit3 (lOf L) l).2 + (fit3 (lOf L) r).2 + ((if (fit3 (lOf L) l).1.testBit s then 0 else 1) + (if (fit3 (lOf L) r).1.testBit s then 0 else 1)) := by
      intro s hs
      obtain ⟨p1, p2⟩ := fits_below hk _ _ _ (cOf (unitL k k) s) s hs (fun u hu => unit_cOf k s u hs hu) vl l1 l2 l4
      obtain ⟨q1, q2⟩ := fits_below hk _ _ _ (cOf (unitL k k) s) s hs (fun u hu => unit_cOf k s u hs hu) vr r1 r2 r4
      rw [hnode s hs]
      refine ⟨Int.mul_ne_zero p1 q1, ?_⟩
      show _ + _ = _
      rw [p2, q2]
      omega
    by_cases c : (fit3 (lOf L) l).1 &&& (fit3 (lOf L) r).1 = 0
    · have ef : fit3 (lOf L) (TT.T.node i l r) = ((fit3 (lOf L) l).1 ||| (fit3 (lOf L) r).1, (fit3 (lOf L) l).2 + (fit3 (lOf L) r).2 + 1) := by
        show (if _ then _ else _) = _
        rw [if_pos c]
      rw [ef]
      refine ⟨⟨a4.2, fun h => ?_, by show 0 ≤ _ + _ + 1; omega⟩, fun s hs => ?_⟩
      · obtain ⟨i', hi', hb⟩ := some4 k (List.mem_range.2 (by omega)) _ (List.mem_range.2 l1) l2
        have h' : (fit3 (lOf L) l).1 ||| (fit3 (lOf L) r).1 = 0 := h
        have := congrArg (fun x => x.testBit i') h'
        simp only [Nat.testBit_or, hb, Bool.true_or, Nat.zero_testBit] at this
        cases this
      · obtain ⟨k1, k2⟩ := key s hs
        have hz := congrArg (fun x => x.testBit s) c
        simp only [Nat.testBit_and, Nat.zero_testBit] at hz
        show (((fit3 (lOf L) l).1 ||| (fit3 (lOf L) r).1).testBit s = true → _ ∧ _ = (fit3 (lOf L) l).2 + (fit3 (lOf L) r).2 + 1) ∧ (((fit3 (lOf L) l).1 ||| (fit3 (lOf L) r).1).testBit s = false → _ ∨ (fit3 (lOf L) l).2 + (fit3 (lOf L) r).2 + 1 + 1 ≤ _)
        rw [Nat.testBit_or, k2]
        cases b1 : (fit3 (lOf L) l).1.testBit s <;> cases b2 : (fit3 (lOf L) r).1.testBit s <;> rw [b1, b2] at hz <;> simp at hz <;> simp [k1] <;> omega
    · have ef : fit3 (lOf L) (TT.T.node i l r) = ((fit3 (lOf L) l).1 &&& (fit3 (lOf L) r).1, (fit3 (lOf L) l).2 + (fit3 (lOf L) r).2) := by
        show (if _ then _ else _) = _
        rw [if_neg c]
      rw [ef]
      refine ⟨⟨a4.1, c, by show 0 ≤ _ + _; omega⟩, fun s hs => ?_⟩
      obtain ⟨k1, k2⟩ := key s hs
      show (((fit3 (lOf L) l).1 &&& (fit3 (lOf L) r).1).testBit s = true → _ ∧ _ = (fit3 (lOf L) l).2 + (fit3 (lOf L) r).2) ∧ (((fit3 (lOf L) l).1 &&& (fit3 (lOf L) r).1).testBit s = false → _ ∨ (fit3 (lOf L) l).2 + (fit3 (lOf L) r).2 + 1 ≤ _)
      rw [Nat.testBit_and, k2]
      cases b1 : (fit3 (lOf L) l).1.testBit s <;> cases b2 : (fit3 (lOf L) r).1.testBit s <;> simp [k1] <;> omega
/-- The program's sets are the trees'. -/
theorem fs_tree (ht : TreeOk n J) (hk : k ≤ 4) (hs : StatesOk n k L) (m : Nat) (hm : m ≤ J.length) (v : Nat) (hv : v < n + m) : fs J L m v = (((fit3 (lOf L) (TT.tr n (aOf J) (bOf J) m v)).1 : Nat) : Int) ∧ (fit3 (lOf L) (TT.tr n (aOf J) (bOf J) m v)).1 < 16 := by
  have hLn : L.length = n := by have := hs.2; omega
  have hJ8 : J.length ≤ 8 := by have := ht.2.1; have := ht.2.2.1; omega
  induction m generalizing v with
  | zero =>
    rw [TT.tr_leaf n _ _ v (by omega)]
    have hvL : v < L.length := by omega
    have hb := hs.1 _ (List.getElem_mem hvL)
    obtain ⟨s, hs'⟩ : ∃ s : Nat, L[v] = s := ⟨L[v].toNat, by omega⟩
    have e : lOf L v = s := by unfold lOf; rw [rd_nat L v hvL, hs']; rfl
    have h4 := shl4 s (List.mem_range.2 (by omega))
    unfold fit3 fs
    rw [e]
    refine ⟨?_, h4.2⟩
    show rd (L.map (fun s => shl .i64 1 s)) v = _
    rw [rd_nat _ v (by rw [List.length_map]; exact hvL), List.getElem_map, hs']
    exact h4.1
  | succ m ih =>
    by_cases e : v < n + m
    · rw [TT.tr_succ n _ _ m v e, fs_old J L m (by omega) v (by omega)]
      exact ih (by omega) v e
    · obtain rfl : v = n + m := by omega
      obtain ⟨⟨a0, a1, _⟩, b0, b1, _⟩ := ht.2.2.2 m (by omega)
      have ea : (rd_T67 J m).f0 = ((aOf J m : Nat) : Int) := by unfold aOf; omega
      have eb : (rd_T67 J m).f1 = ((bOf J m : Nat) : Int) := by unfold bOf; omega
      have hnew := fs_new J L m (by omega)
      rw [hLn, ea, eb] at hnew
      obtain ⟨x1, x2⟩ := ih (by omega) (aOf J m) (by omega)
      obtain ⟨y1, y2⟩ := ih (by omega) (bOf J m) (by omega)
      obtain ⟨z1, z2, z3, z4⟩ := nat16 _ (List.mem_range.2 x2) _ (List.mem_range.2 y2)
      rw [hnew, TT.tr_new, x1, y1]
      unfold st
      rw [z1, z2]
      show _ ∧ (if _ then _ else _ : Nat × Int).1 < 16
      have ef : fit3 (lOf L) (TT.T.node m (TT.tr n (aOf J) (bOf J) m (aOf J m)) (TT.tr n (aOf J) (bOf J) m (bOf J m))) = if (fit3 (lOf L) (TT.tr n (aOf J) (bOf J) m (aOf J m))).1 &&& (fit3 (lOf L) (TT.tr n (aOf J) (bOf J) m (bOf J m))).1 = 0 then ((fit3 (lOf L) (TT.tr n (aOf J) (bOf J) m (aOf J m))).1 ||| (fit3 (lOf L) (TT.tr n (aOf J) (bOf J) m (bOf J m))).1, (fit3 (lOf L) (TT.tr n (aOf J) (bOf J) m (aOf J m))).2 + (fit3 (lOf L) (TT.tr n (aOf J) (bOf J) m (bOf J m))).2 + 1) else ((fit3 (lOf L) (TT.tr n (aOf J) (bOf J) m (aOf J m))).1 &&& (fit3 (lOf L) (TT.tr n (aOf J) (bOf J) m (bOf J m))).1, (fit3 (lOf L) (TT.tr n (aOf J) (bOf J) m (aOf J m))).2 + (fit3 (lOf L) (TT.tr n (aOf J) (bOf J) m (bOf J m))).2) := rfl
      rw [ef]
      by_cases c : (fit3 (lOf L) (TT.tr n (aOf J) (bOf J) m (aOf J m))).1 &&& (fit3 (lOf L) (TT.tr n (aOf J) (bOf J) m (bOf J m))).1 = 0
      · rw [if_pos (by omega), if_pos c]; exact ⟨rfl, z4⟩
      · rw [if_neg (by omega), if_neg c]; exact ⟨rfl, z3⟩
/-- The program's changes are the trees'. -/
theorem fit_sum (ht : TreeOk n J) (hk : k ≤ 4) (hs : StatesOk n k L) (m : Nat) (hm : m ≤ J.length) : TT.isum (fun v => (fit3 (lOf L) (TT.tr n (aOf J) (bOf J) m v)).2) (TT.rootsTo n (aOf J) (bOf J) m) = (fitTo J L m).2 := by
  have hJ8 : J.length ≤ 8 := by have := ht.2.1; have := ht.2.2.1; omega
  have hV : TT.Valid n (aOf J) (bOf J) J.length := valid_of ht
  induction m with
  | zero =>
    have : ∀ l : List Nat, (∀ v ∈ l, v < n) → TT.isum (fun v => (fit3 (lOf L) (TT.tr n (aOf J) (bOf J) 0 v)).2) l = 0 := by
      intro l
      induction l with
      | nil => intro _; rfl
      | cons v l ih => intro hl; simp only [TT.isum]; rw [TT.tr_leaf n _ _ v (hl v (by simp)), ih (fun u hu => hl u (by simp [hu]))]; rfl
    exact this _ (fun v hv => List.mem_range.1 hv)
  | succ m ih =>
    have hVm : TT.Valid n (aOf J) (bOf J) (m + 1) := fun i hi => hV i (by omega)
    have hp := TT.Valid.prev n (aOf J) (bOf J) hVm
    have i := ih (by omega)
    have p := TT.roots_perm n (aOf J) (bOf J) hVm
    rw [TT.isum_perm _ p] at i
    simp only [TT.isum] at i
    obtain ⟨ha, hb, _⟩ := hVm m (by omega)
    have la := TT.roots_lt n (aOf J) (bOf J) m hp _ ha
    have lb := TT.roots_lt n (aOf J) (bOf J) m hp _ hb
    rw [TT.rootsTo, TT.isum_append, TT.isum_congr _ (fun v => (fit3 (lOf L) (TT.tr n (aOf J) (bOf J) m v)).2) _ (fun v hv => by rw [TT.tr_succ n _ _ m v (TT.roots_lt n (aOf J) (bOf J) m hp v (List.mem_of_mem_erase (List.mem_of_mem_erase hv)))])]
    simp only [TT.isum, TT.tr_new]
    have sst := (fit_step J L m (by omega)).2
    obtain ⟨⟨a0, a1, _⟩, b0, b1, _⟩ := ht.2.2.2 m (by omega)
    have ea : (rd_T67 J m).f0 = ((aOf J m : Nat) : Int) := by unfold aOf; omega
    have eb : (rd_T67 J m).f1 = ((bOf J m : Nat) : Int) := by unfold bOf; omega
    obtain ⟨x1, x2⟩ := fs_tree ht hk hs m (by omega) (aOf J m) la
    obtain ⟨y1, y2⟩ := fs_tree ht hk hs m (by omega) (bOf J m) lb
    obtain ⟨z1, z2, z3, z4⟩ := nat16 _ (List.mem_range.2 x2) _ (List.mem_range.2 y2)
    rw [ea, eb, x1, y1] at sst
    unfold st at sst
    rw [z1, z2] at sst
    rw [sst]
    simp only [fit3]
    by_cases c : (fit3 (lOf L) (TT.tr n (aOf J) (bOf J) m (aOf J m))).1 &&& (fit3 (lOf L) (TT.tr n (aOf J) (bOf J) m (bOf J m))).1 = 0
    · rw [if_pos c, if_pos (by omega)]
      show _ + (_ + _ + 1 + 0) = _ + 1
      omega
    · rw [if_neg c, if_neg (by omega)]
      show _ + (_ + _ + 0) = _ + 0
      omega
end
end Go.Proofs.Ytcphmeeighhdjaa.Pure

-- out of PureTrackFitch
namespace Go.Proofs.Ytcphmeeighhdjaa.Pure
open Go Go.Proofs Go.RowKit Go.Proofs.Ytcphmeeighhdjaa.P Go.Proofs.YtcphmeeighhdjaaW.PrintWords Go.Proofs.YtcphmeeighhdjaaW.PrintLast
set_option linter.unusedVariables false

section
variable {n : Nat} {J : List S67} {C : List (List Int)} {L : List Int}
theorem least_tb (ht : TreeOk n J) (hc : CostsOk C) (hs : StatesOk n C.length L) : P.leastOf C.length C (none_ J) J L = TT.leastE (tb C L (TT.whole n (aOf J) (bOf J))) C.length := by
  have h1 := ht.2.2.1
  have h2 := ht.1
  have h3 := ht.2.1
  rw [leastOf_is (F := none_ J) ht hc hs]
  congr 1
  have hV : TT.Valid n (aOf J) (bOf J) J.length := valid_of ht
  rw [show J.length = n - 1 by omega] at hV
  have hidx := TT.whole_idx n (aOf J) (bOf J) (by omega) hV
  have key : ∀ t : TT.T, (∀ i ∈ t.idx, i < J.length) → TT.tab (cOf C) C.length (lOf L) (fOf (none_ J)) t = TT.tab (cOf C) C.length (lOf L) (fun _ => -1) t := by
    intro t
    induction t with
    | leaf v => intro _; rfl
    | node i l r ihl ihr =>
      intro h
      funext s
      simp only [TT.tab]
      rw [ihl (fun j hj => h j (by simp [TT.T.idx, hj])), ihr (fun j hj => h j (by simp [TT.T.idx, hj])), none_free J i (h i (by simp [TT.T.idx]))]
  exact key _ (fun i hi => by have := List.mem_range.1 (hidx.mem_iff.1 hi); omega)
end
section
variable {n k : Nat} {J : List S67} {L : List Int}
theorem fit_whole (ht : TreeOk n J) (hk : k ≤ 4) (hs : StatesOk n k L) : (fit3 (lOf L) (TT.whole n (aOf J) (bOf J))).2 = (fitTo J L J.length).2 := by
  have h1 := ht.2.2.1
  have h2 := ht.1
  have hV : TT.Valid n (aOf J) (bOf J) J.length := valid_of ht
  have e := fit_sum ht hk hs J.length (Nat.le_refl _)
  have hJ : J.length = (n - 2) + 1 := by omega
  rw [hJ] at hV
  have rl := TT.roots_last n (aOf J) (bOf J) (n - 2) hV (by omega)
  rw [← hJ] at rl
  rw [rl] at e
  simp only [TT.isum] at e
  rw [← e]
  unfold TT.whole
  rw [show n - 1 = J.length by omega, show n + (n - 2) = 2 * n - 2 by omega]
  omega
theorem whole_fits (ht : TreeOk n J) (h1 : 1 ≤ k) (hk : k ≤ 4) (hs : StatesOk n k L) : ((fit3 (lOf L) (TT.whole n (aOf J) (bOf J))).1 < 2 ^ k ∧ (fit3 (lOf L) (TT.whole n (aOf J) (bOf J))).1 ≠ 0 ∧ 0 ≤ (fit3 (lOf L) (TT.whole n (aOf J) (bOf J))).2) ∧ Fits k (tb (unitL k k) L (TT.whole n (aOf J) (bOf J))) (fit3 (lOf L) (TT.whole n (aOf J) (bOf J))).1 (fit3 (lOf L) (TT.whole n (aOf J) (bOf J))).2 := by
  have g1 := ht.2.2.1
  have g2 := ht.1
  have g3 := ht.2.1
  have hV : TT.Valid n (aOf J) (bOf J) J.length := valid_of ht
  rw [show J.length = n - 1 by omega] at hV
  refine fits_all h1 hk _ (by rw [(TT.whole_idx n _ _ (by omega) hV).length_eq, List.length_range]; omega) (fun u hu => ?_)
  have hin := (TT.whole_leaves n _ _ (by omega) hV).mem_iff.1 hu
  have hu' := List.mem_range.1 hin
  have hvL : u < L.length := by have := hs.2; omega
  have := hs.1 _ (List.getElem_mem hvL)
  unfold lOf
  rw [rd_nat L u hvL]
  omega
theorem best_fit (ht : TreeOk n J) (h1 : 1 ≤ k) (hk : k ≤ 4) (hs : StatesOk n k L) : bestOf J (unitL k k) L = (fitTo J L J.length).2 := by
  have hc := unit_costs k h1 hk
  have hl := unitL_length k
  have hs' : StatesOk n (unitL k k).length L := by rw [hl]; exact hs
  have W := whole_fits ht h1 hk hs
  have vt := root_vt ht hc hs'
  rw [hl] at vt
  unfold bestOf
  rw [least_tb ht hc hs', hl, ← fit_whole ht hk hs]
  generalize tb (unitL k k) L (TT.whole n (aOf J) (bOf J)) = g at *
  generalize fit3 (lOf L) (TT.whole n (aOf J) (bOf J)) = q at *
  obtain ⟨⟨w1, w2, w3⟩, w4⟩ := W
  have sp := TT.least_spec g k (fun s hs => (vt s hs).1.1) (fun s hs h => ((vt s hs).2.2 h).1)
  obtain ⟨i, hi, hb⟩ := some4 k (List.mem_range.2 (by omega)) q.1 (List.mem_range.2 w1) w2
  have hi' := List.mem_range.1 hi
  obtain ⟨i1, i2⟩ := (w4 i hi').1 hb
  have hle := sp.2.1 i hi' i1
  obtain ⟨u, hu, u1, u2⟩ := sp.2.2.1 (by omega)
  have hge : q.2 ≤ (g u).1 := by
    by_cases d : q.1.testBit u = true
    · have := ((w4 u hu).1 d).2; omega
    · rcases (w4 u hu).2 (by simpa using d) with e | e
      · exact absurd e u1
      · omega
  omega
/-- The states that cost what Fitch counts are Fitch's set of the root. -/
theorem root_in (ht : TreeOk n J) (h1 : 1 ≤ k) (hk : k ≤ 4) (hs : StatesOk n k L) (s : Nat) (h : s < k) : rd (rd_T63 (nodes3 n J (unitL k k) L J.length) ((2 * n - 2 : Nat) : Int)).f0 s = (fitTo J L J.length).2 ↔ (fit3 (lOf L) (TT.whole n (aOf J) (bOf J))).1.testBit s = true := by
  have hc := unit_costs k h1 hk
  have hl := unitL_length k
  have hs' : StatesOk n (unitL k k).length L := by rw [hl]; exact hs
  have W := whole_fits ht h1 hk hs
  have vt := root_vt ht hc hs'
  rw [hl] at vt
  rw [root_rd ht, hl, (mk3_rd k _ s h).1, ← fit_whole ht hk hs]
  have hsm : (fit3 (lOf L) (TT.whole n (aOf J) (bOf J))).2 ≤ 1400 := by
    obtain ⟨i, hi, hb⟩ := some4 k (List.mem_range.2 (by omega)) _ (List.mem_range.2 W.1.1) W.1.2.1
    have hi' := List.mem_range.1 hi
    obtain ⟨i1, i2⟩ := (W.2 i hi').1 hb
    have := (vt i hi').2.2 i1
    omega
  generalize tb (unitL k k) L (TT.whole n (aOf J) (bOf J)) = g at *
  generalize fit3 (lOf L) (TT.whole n (aOf J) (bOf J)) = q at *
  constructor
  · intro e
    by_cases d : q.1.testBit s = true
    · exact d
    · exfalso
      rcases (W.2 s h).2 (by simpa using d) with x | x
      · have := (vt s h).2.1 x
        rw [this] at e
        unfold TT.far at e
        omega
      · omega
  · intro e
    exact ((W.2 s h).1 e).2
theorem fit_last (ht : TreeOk n J) (hk : k ≤ 4) (hs : StatesOk n k L) : rd_L3 (fitOut n k J L) ((n - 2 : Nat) : Int) = ((List.range k).filter (fun i => (fit3 (lOf L) (TT.whole n (aOf J) (bOf J))).1.testBit i)).map (fun i : Nat => (i : Int)) := by
  have g1 := ht.2.2.1
  have g2 := ht.1
  have hL : L.length = n := by have := hs.2; omega
  have hl := fitTo_length J L J.length
  have hlen : (fitOut n k J L).length = n - 1 := by unfold fitOut; rw [List.length_map, List.length_drop]; omega
  rw [rd_L3_nat _ _ (by omega)]
  have e : (fitOut n k J L)[n - 2]'(by omega) = memTo (rd (fitTo J L J.length).1 ((2 * n - 2 : Nat) : Int)) k := by
    unfold fitOut
    rw [List.getElem_map, List.getElem_drop, rd_nat _ (2 * n - 2) (by omega)]
    congr 2
    omega
  rw [e]
  obtain ⟨f1, f2⟩ := fs_tree ht hk hs J.length (Nat.le_refl _) (2 * n - 2) (by omega)
  have f3 : rd (fitTo J L J.length).1 ((2 * n - 2 : Nat) : Int) = (((fit3 (lOf L) (TT.whole n (aOf J) (bOf J))).1 : Nat) : Int) := by
    unfold TT.whole
    rw [show n - 1 = J.length by omega]
    exact f1
  rw [f3]
  have f4 : (fit3 (lOf L) (TT.whole n (aOf J) (bOf J))).1 < 16 := by
    unfold TT.whole
    rw [show n - 1 = J.length by omega]
    exact f2
  exact mem4 k (List.mem_range.2 (by omega)) _ (List.mem_range.2 f4)
end
theorem livesF_ev : Ev (fun k => wogglelaw02_lives.f k) true := Ev.of wogglelaw02_lives.mono track_lives_at
theorem TrackFitch : wogglelaw02_TrackFitch.Pure := by
  intro a0 a1 x0 x1 x2 h0 h1 g0 g1 g2
  apply Ev.rounds
  obtain ⟨n, J, hm, ht⟩ := made_ev a0 h0 x0 g0
  obtain ⟨k, hk, k1, k4⟩ := k_of a1 h1
  have hn8 : n ≤ 8 := by have := ht.2.1; omega
  have hn2 : 2 ≤ n := by have := ht.1; omega
  have hJ := ht.2.2.1
  obtain ⟨L, hl, hs⟩ := states_ev n k x2 g2 (by omega) k1 (by omega)
  have hc := unit_costs k k1 k4
  have hul := unitL_length k
  have hs' : StatesOk n (unitL k k).length L := by rw [hul]; exact hs
  have hL : L.length = n := by have := hs.2; omega
  have hfl := fitTo_length J L J.length
  have hlen : (fitOut n k J L).length = n - 1 := by unfold fitOut; rw [List.length_map, List.length_drop]; omega
  have hw : wrap64 ((n : Int) - 1) = ((n - 1 : Nat) : Int) := (w64 _ (by omega) (by omega)).trans (by omega)
  have hw2 : wrap64 ((n : Int) - 2) = ((n - 2 : Nat) : Int) := (w64 _ (by omega) (by omega)).trans (by omega)
  have hnl : (nodes3 n J (unitL k k) L J.length).length = 2 * n - 1 := by unfold nodes3; rw [List.length_map, List.length_range]; omega
  have hw3 : wrap64 (((nodes3 n J (unitL k k) L J.length).length : Int) - 1) = ((2 * n - 2 : Nat) : Int) := by rw [hnl, w64 _ (by omega) (by omega)]; omega
  have W := Aside0.mk (And.intro hw (And.intro hw2 hw3))
  clear hw hw2 hw3
  have lq := leastQ_ev ht hc hs'
  rw [best_fit ht k1 k4 hs] at lq
  unfold wogglelaw02_TrackFitch.f
  rw [hk]
  refine Ev.bind hm (Ev.bind hl (Ev.bind (Fitch_ev ht k1 k4 hs) (Ev.bind (unit_ev k (by omega)) (Ev.bind lq ?_))))
  refine Ev.congr (f := fun q => (wogglelaw02_lives.f q).bind fun t => wogglelaw02_TrackFitch.j0 q n J k L (fitOut n k J L) (fitTo J L J.length).2 (!t)) (fun q => by rw [if_pos rfl, if_pos rfl, if_pos rfl, W.out.1, if_pos (show ((fitOut n k J L).length : Int) = ((n - 1 : Nat) : Int) by rw [hlen])]) (Ev.bind livesF_ev ?_)
  refine Ev.step (f := fun q => (woggleref02_Unit.f q (k : Int)).bind fun t483 => (woggleref02_Nodes.f q n J t483 L).bind fun t486 => if 0 ≤ wrap64 ((t486.length : Int) - 1) then if wrap64 ((t486.length : Int) - 1) < (t486.length : Int) then wogglelaw02_TrackFitch.l0 q n k (fitOut n k J L) (fitTo J L J.length).2 [] 0 (rd_T63 t486 (wrap64 ((t486.length : Int) - 1))).f0 (rd_T63 t486 (wrap64 ((t486.length : Int) - 1))).f1 else none else none) (fun q => by simp only [wogglelaw02_TrackFitch.j0]; rw [if_neg (by decide)]) ?_
  refine Ev.bind (unit_ev k (by omega)) (Ev.bind (nodes_ev ht hc hs') ?_)
  rw [W.out.2.2]
  have R := root_in ht k1 k4 hs
  have F := fit_last ht k4 hs
  have r0 : (rd_T63 (nodes3 n J (unitL k k) L J.length) ((2 * n - 2 : Nat) : Int)).f0.length = k := by rw [root_rd ht, hul]; simp [mk3]
  refine Ev.congr (f := fun q => wogglelaw02_TrackFitch.l0 q n k (fitOut n k J L) (fitTo J L J.length).2 [] 0 (rd_T63 (nodes3 n J (unitL k k) L J.length) ((2 * n - 2 : Nat) : Int)).f0 (rd_T63 (nodes3 n J (unitL k k) L J.length) ((2 * n - 2 : Nat) : Int)).f1) (fun q => by rw [if_pos (by omega), if_pos (by rw [hnl]; omega)]) ?_
  generalize rd_T63 (nodes3 n J (unitL k k) L J.length) ((2 * n - 2 : Nat) : Int) = x at *
  generalize (fit3 (lOf L) (TT.whole n (aOf J) (bOf J))).1 = S at *
  generalize (fitTo J L J.length).2 = c at *
  have key := up_ind (fun s => Ev (fun q => wogglelaw02_TrackFitch.l0 q n k (fitOut n k J L) c (((List.range s).filter (fun i => S.testBit i)).map (fun i : Nat => (i : Int))) (s : Int) x.f0 x.f1) true) k ?_ ?_
  · exact key
  · refine Ev.step (f := fun q => (woggleref01_Same.f q (rd_L3 (fitOut n k J L) ((n - 2 : Nat) : Int)) (((List.range k).filter (fun i => S.testBit i)).map (fun i : Nat => (i : Int)))).bind fun t => some t) (fun q => by simp only [wogglelaw02_TrackFitch.l0]; rw [if_neg (Int.lt_irrefl _), W.out.2.1, if_pos (by omega), if_pos (by rw [hlen]; omega)]) ?_
    rw [F]
    exact Ev.bind (same_self _ (by rw [List.length_map]; exact Nat.le_trans (List.length_filter_le _ _) (by rw [List.length_range]; omega))) (Ev.now _)
  · intro s h ih
    have p1 : (s : Int) < k := by omega
    have p2 : (0 : Int) ≤ s := by omega
    have p3 : (s : Int) < x.f0.length := by omega
    have p4 : (((List.range s).filter (fun i => S.testBit i)).map (fun i : Nat => (i : Int))).length < 17592186044416 := by
      rw [List.length_map]; exact Nat.lt_of_le_of_lt (List.length_filter_le _ _) (by rw [List.length_range]; omega)
    refine Ev.step (fun q => ?_) ih
    simp only [wogglelaw02_TrackFitch.l0]
    rw [if_pos p1, if_pos p2, if_pos p3, succ_w s (by omega), List.range_succ, List.filter_append, List.map_append]
    by_cases d : S.testBit s = true
    · rw [if_pos ((R s h).2 d), if_pos p4]
      simp [d]
    · rw [if_neg (fun e => d ((R s h).1 e))]
      simp [d]
end Go.Proofs.Ytcphmeeighhdjaa.Pure
