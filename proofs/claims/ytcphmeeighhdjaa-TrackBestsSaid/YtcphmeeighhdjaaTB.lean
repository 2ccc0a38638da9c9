/- For all tables Best answers the least length of any tree, and Tree a tree of that length, or the error: in plain numbers and lists. -/
import Derived.Test.YtcphmeeighhdjaaPF15
import Derived.Test.YtcphmeeighhdjaaPF26
import Derived.Test.YtcphmeeighhdjaaGJ
import Derived.Test.YtcphmeeighhdjaaPF51
import Derived.Test.YtcphmeeighhdjaaPF20
import Derived.Test.YtcphmeeighhdjaaPF21
import Derived.Test.YtcphmeeighhdjaaGA
import Derived.Test.YtcphmeeighhdjaaPF53
import Derived.Test.YtcphmeeighhdjaaPF23
import Derived.Test.YtcphmeeighhdjaaPF63
import Derived.Test.YtcphmeeighhdjaaPF44
import Derived.Test.YtcphmeeighhdjaaPF45
import Derived.Test.YtcphmeeighhdjaaPF50
import Derived.Test.YtcphmeeighhdjaaPF49
import Derived.Test.YtcphmeeighhdjaaGQ
import Derived.Test.YtcphmeeighhdjaaRT
import Derived.Test.YtcphmeeighhdjaaRA
-- out of RF
namespace Go.Proofs.Ytcphmeeighhdjaa.Pure
open Go Go.Proofs Go.RowKit Go.Proofs.Ytcphmeeighhdjaa.P Go.Proofs.YtcphmeeighhdjaaW.PrintWords Go.Proofs.YtcphmeeighhdjaaW.PrintLast
set_option linter.unusedVariables false

theorem cut_f (L : List Int) (h : L.length ≤ maxLen) : wogglelaw02_cut.f L = some (L.take 9) := by
  unfold wogglelaw02_cut.f
  have e := cut_take L 9 (by decide)
  have m := mn_cut L.length 9 (by decide)
  try simp only [Option.bind_some]
  rw [if_pos m.1, if_pos m.2, e]
  have hl : (L.take (9 : Int).toNat).length ≤ 9 := List.length_take_le _ _
  rw [if_pos (show ([] : List Int).length + (L.take (9 : Int).toNat).length < 17592186044416 by simp only [List.length_nil]; omega)]
  rfl
/-- Fitch's sets of all leaves and of the first joins, and the number of changes. -/
def fitTo (J : List S67) (L : List Int) : Nat → List Int × Int
  | 0 => (L.map (fun s => shl .i64 1 s), 0)
  | m + 1 => if Go.bits .and .i64 (rd (fitTo J L m).1 (rd_T67 J m).f0) (rd (fitTo J L m).1 (rd_T67 J m).f1) = 0
      then ((fitTo J L m).1 ++ [Go.bits .or .i64 (rd (fitTo J L m).1 (rd_T67 J m).f0) (rd (fitTo J L m).1 (rd_T67 J m).f1)], wrap64 ((fitTo J L m).2 + 1))
      else ((fitTo J L m).1 ++ [Go.bits .and .i64 (rd (fitTo J L m).1 (rd_T67 J m).f0) (rd (fitTo J L m).1 (rd_T67 J m).f1)], (fitTo J L m).2)
theorem fitTo_length (J : List S67) (L : List Int) (m : Nat) : (fitTo J L m).1.length = L.length + m := by
  induction m with
  | zero => simp [fitTo]
  | succ m ih => simp only [fitTo]; split <;> simp only [List.length_append, List.length_singleton, ih] <;> omega
section
variable {n : Int} {J : List S67} {k : Int} {L : List Int}
theorem fitch_ev (ht : TreeOk n J) (hs : StatesOk n k L) : Ev (fun q => track_fitch.f q J L) (fitTo J L J.length) := by
  have hn := ht.1; have hn8 := ht.2.1; have hJ := ht.2.2.1; have hL := hs.2
  unfold track_fitch.f
  have joins := up_ind (fun m => Ev (fun q => track_fitch.l1 q (fitTo J L m).1 (fitTo J L m).2 J (J.length : Int) (m : Int)) (fitTo J L J.length)) J.length ?_ ?_
  · have leaves := up_ind (fun i => Ev (fun q => track_fitch.l0 q J ((L.take i).map (fun s => shl .i64 1 s)) L (L.length : Int) (i : Int)) (fitTo J L J.length)) L.length ?_ ?_
    · exact leaves
    · refine Ev.step (f := fun q => track_fitch.l1 q (fitTo J L 0).1 (fitTo J L 0).2 J (J.length : Int) ((0 : Nat) : Int)) (fun q => ?_) joins
      simp only [track_fitch.l0]
      rw [if_neg (Int.lt_irrefl _), List.take_length]; rfl
    · intro i hi ih
      have p1 : (i : Int) < L.length := by omega
      have p2 : (0 : Int) ≤ i := by omega
      have hb := hs.1 _ (List.getElem_mem hi)
      refine Ev.step (fun q => ?_) ih
      simp only [track_fitch.l0]
      rw [if_pos p1, if_pos p2, if_pos p1, rd_nat L i hi, if_pos hb.1, if_pos (show ((L.take i).map (fun s => shl .i64 1 s)).length < 17592186044416 by rw [List.length_map, List.length_take]; omega), succ_w i (by omega), take_up L i hi, List.map_append]
      rfl
  · exact Ev.step (f := fun _ => some (fitTo J L J.length)) (fun q => by simp only [track_fitch.l1]; rw [if_neg (Int.lt_irrefl _)]) (Ev.now _)
  · intro m hm ih
    have p1 : (m : Int) < J.length := by omega
    have p2 : (0 : Int) ≤ m := by omega
    obtain ⟨⟨a0, a1, _⟩, b0, b1, _⟩ := ht.2.2.2 m hm
    have hl := fitTo_length J L m
    have p3 : (rd_T67 J m).f0 < (fitTo J L m).1.length := by omega
    have p4 : (rd_T67 J m).f1 < (fitTo J L m).1.length := by omega
    have p5 : (fitTo J L m).1.length < 17592186044416 := by omega
    refine Ev.step (fun q => ?_) ih
    simp only [track_fitch.l1]
    rw [if_pos p1, if_pos p2, if_pos p1, if_pos a0, if_pos p3, if_pos b0, if_pos p4, if_pos p5, if_pos p5, succ_w m (by omega)]
    simp only [fitTo]
    split <;> rfl
theorem rfitch_ev (ht : TreeOk n J) (hs : StatesOk n k L) : Ev (fun q => woggleref02_Fitch.f q n J L) ((fitTo J L J.length).1.drop L.length, (fitTo J L J.length).2) := by
  have hn := ht.1; have hn8 := ht.2.1; have hJ := ht.2.2.1; have hL := hs.2
  unfold woggleref02_Fitch.f
  have joins := up_ind (fun m => Ev (fun q => woggleref02_Fitch.l1 q n J (fitTo J L m).1 (fitTo J L m).2 (m : Int)) ((fitTo J L J.length).1.drop L.length, (fitTo J L J.length).2)) J.length ?_ ?_
  · have leaves := up_ind (fun i => Ev (fun q => woggleref02_Fitch.l0 q n J L ((L.take i).map (fun s => shl .i64 1 s)) 0 (i : Int)) ((fitTo J L J.length).1.drop L.length, (fitTo J L J.length).2)) L.length ?_ ?_
    · exact leaves
    · refine Ev.step (f := fun q => woggleref02_Fitch.l1 q n J (fitTo J L 0).1 (fitTo J L 0).2 ((0 : Nat) : Int)) (fun q => ?_) joins
      simp only [woggleref02_Fitch.l0]
      rw [if_neg (show ¬ (L.length : Int) < n by omega), List.take_length]; rfl
    · intro i hi ih
      have p0 : (i : Int) < n := by omega
      have p1 : (i : Int) < L.length := by omega
      have p2 : (0 : Int) ≤ i := by omega
      have hb := hs.1 _ (List.getElem_mem hi)
      refine Ev.step (fun q => ?_) ih
      simp only [woggleref02_Fitch.l0]
      rw [if_pos p0, if_pos p2, if_pos p1, rd_nat L i hi, if_pos hb.1, if_pos (show ((L.take i).map (fun s => shl .i64 1 s)).length < 17592186044416 by rw [List.length_map, List.length_take]; omega), succ_w i (by omega), take_up L i hi, List.map_append]
      rfl
  · have hl := fitTo_length J L J.length
    have q1 : (0 : Int) ≤ n := by omega
    have q2 : n ≤ (fitTo J L J.length).1.length := by omega
    refine Ev.step (f := fun _ => some ((fitTo J L J.length).1.drop L.length, (fitTo J L J.length).2)) (fun q => ?_) (Ev.now _)
    simp only [woggleref02_Fitch.l1]
    rw [if_neg (Int.lt_irrefl _), if_pos q1, if_pos q2, show n.toNat = L.length by omega]
  · intro m hm ih
    have p1 : (m : Int) < J.length := by omega
    have p2 : (0 : Int) ≤ m := by omega
    obtain ⟨⟨a0, a1, _⟩, b0, b1, _⟩ := ht.2.2.2 m hm
    have hl := fitTo_length J L m
    have p3 : (rd_T67 J m).f0 < (fitTo J L m).1.length := by omega
    have p4 : (rd_T67 J m).f1 < (fitTo J L m).1.length := by omega
    have p5 : (fitTo J L m).1.length < 17592186044416 := by omega
    refine Ev.step (fun q => ?_) ih
    simp only [woggleref02_Fitch.l1]
    rw [if_pos p2, if_pos p1, if_pos a0, if_pos p3, if_pos b0, if_pos p4, if_pos p5, if_pos p5, succ_w m (by omega)]
    simp only [fitTo]
    split <;> rfl
end
end Go.Proofs.Ytcphmeeighhdjaa.Pure

-- out of RK
namespace Go.Proofs.Ytcphmeeighhdjaa.Pure
open Go Go.Proofs Go.RowKit Go.Proofs.Ytcphmeeighhdjaa.P Go.Proofs.YtcphmeeighhdjaaW.PrintWords Go.Proofs.YtcphmeeighhdjaaW.PrintLast
set_option linter.unusedVariables false

def TableOk (t : List (List Int)) : Prop := (2 ≤ t.length ∧ t.length ≤ 5) ∧ (1 ≤ (rd_L3 t 0).length ∧ (rd_L3 t 0).length ≤ 6) ∧ ∀ row ∈ t, StatesOk (rd_L3 t 0).length 4 row
open Classical in
theorem stB_is (row : List Int) (m : Int) : stB row m = decide (StatesOk m 4 row) := Option.some.inj ((stB_f row m).symm.trans (states_f row m 4))
open Classical in
theorem rows_f (t : List (List Int)) : track_rows.f t = some (decide (TableOk t)) := by
  unfold track_rows.f
  by_cases k1 : (t.length : Int) < 2
  · rw [if_pos k1, decide_eq_false (fun h => by have := h.1.1; omega)]
  rw [if_neg k1]
  by_cases k2 : (t.length : Int) > 5
  · rw [if_pos k2, decide_eq_false (fun h => by have := h.1.2; omega)]
  rw [if_neg k2]
  by_cases k3 : ((rd_L3 t 0).length : Int) < 1
  · rw [if_pos k3, decide_eq_false (fun h => by have := h.2.1.1; omega)]
  rw [if_neg k3]
  by_cases k4 : ((rd_L3 t 0).length : Int) > 6
  · rw [if_pos k4, decide_eq_false (fun h => by have := h.2.1.2; omega)]
  rw [if_neg k4]
  congr 1
  rw [Bool.eq_iff_iff, decide_eq_true_iff, Bool.not_eq_true', List.any_eq_false]
  constructor
  · intro h
    refine ⟨⟨by omega, by omega⟩, ⟨by omega, by omega⟩, fun row hr => ?_⟩
    have := h row hr
    unfold badR at this
    rw [stB_is] at this
    simpa using this
  · intro h row hr
    unfold badR
    rw [stB_is, decide_eq_true (h.2.2 row hr)]
    decide
open Classical in
theorem table_ev (t : List (List Int)) (ht : t.length ≤ 9) (hr : ∀ row ∈ t, row.length ≤ 9) : Ev (fun k => woggleref02_Table.f k t) (decide (TableOk t)) := by
  unfold woggleref02_Table.f
  have key : ∀ i, i ≤ t.length → ∀ r : Bool, (r = true ↔ (∀ row ∈ t.drop i, StatesOk (rd_L3 t 0).length 4 row) ∧ (2 ≤ t.length ∧ t.length ≤ 5) ∧ (1 ≤ (rd_L3 t 0).length ∧ (rd_L3 t 0).length ≤ 6)) → Ev (fun k => woggleref02_Table.l0 k t (i : Int)) r := by
    intro i hi
    refine up_from (fun i => ∀ r : Bool, (r = true ↔ (∀ row ∈ t.drop i, StatesOk (rd_L3 t 0).length 4 row) ∧ (2 ≤ t.length ∧ t.length ≤ 5) ∧ (1 ≤ (rd_L3 t 0).length ∧ (rd_L3 t 0).length ≤ 6)) → Ev (fun k => woggleref02_Table.l0 k t (i : Int)) r) i t.length hi ?_ ?_
    · intro r h
      rw [List.drop_length] at h
      simp only [List.not_mem_nil, false_implies, implies_true, true_and] at h
      by_cases c : 2 ≤ t.length ∧ t.length ≤ 5
      · have c' : (2 : Int) ≤ t.length ∧ (t.length : Int) ≤ 5 := by omega
        have e : r = decide ((1 : Int) ≤ (rd_L3 t 0).length ∧ ((rd_L3 t 0).length : Int) ≤ 6) := by
          rw [Bool.eq_iff_iff, h, decide_eq_true_iff]; omega
        rw [e]
        refine Ev.step (f := fun _ => some (decide ((1 : Int) ≤ (rd_L3 t 0).length ∧ ((rd_L3 t 0).length : Int) ≤ 6))) (fun k => ?_) (Ev.now _)
        simp only [woggleref02_Table.l0]
        rw [if_neg (Int.lt_irrefl _), in_f, decide_eq_true c']
        simp only [Option.bind_some, if_true]
        rw [if_pos (show (0 : Int) < t.length by omega), in_f]; rfl
      · have c' : ¬ ((2 : Int) ≤ t.length ∧ (t.length : Int) ≤ 5) := by omega
        have e : r = false := Bool.eq_false_iff.2 fun q => c (h.1 q).1
        rw [e]
        refine Ev.step (f := fun _ => some false) (fun k => ?_) (Ev.now _)
        simp only [woggleref02_Table.l0]
        rw [if_neg (Int.lt_irrefl _), in_f, decide_eq_false c']; rfl
    · intro j h0 h1 ih r h
      have hd : t.drop j = t[j] :: t.drop (j + 1) := List.drop_eq_getElem_cons h1
      rw [hd] at h
      simp only [List.mem_cons, forall_eq_or_imp] at h
      have eR := rd_L3_nat t j h1
      have hl := hr _ (List.getElem_mem h1)
      generalize t[j] = row at h eR hl
      have p1 : (j : Int) < t.length := by omega
      have p2 : (0 : Int) ≤ j := by omega
      have p3 : (0 : Int) < t.length := by omega
      by_cases cl : (row.length : Int) = ((rd_L3 t 0).length : Int)
      rotate_left
      · have e : r = false := Bool.eq_false_iff.2 fun q => cl (h.1 q).1.1.2
        rw [e]
        refine Ev.step (f := fun _ => some false) (fun k => ?_) (Ev.now _)
        simp only [woggleref02_Table.l0]
        rw [if_pos p1, if_pos p2, if_pos p3, eR, if_neg cl]
      have st := rstates_ev (row.length : Int) 4 row (by omega) (by omega) (by omega)
      refine Ev.step (f := fun k => (woggleref02_States.f k (row.length : Int) 4 row).bind fun b => if b = true then woggleref02_Table.l0 k t ((j + 1 : Nat) : Int) else some false) (fun k => ?_) (Ev.bind st ?_)
      · simp only [woggleref02_Table.l0]
        rw [if_pos p1, if_pos p2, if_pos p3, eR, if_pos cl, succ_w j (by omega)]
      · rw [cl]
        by_cases cs : StatesOk (rd_L3 t 0).length 4 row
        · rw [decide_eq_true cs]
          refine Ev.congr (fun k => if_pos rfl) (ih r ?_)
          rw [h]
          exact ⟨fun q => ⟨q.1.2, q.2⟩, fun q => ⟨⟨cs, q.1⟩, q.2⟩⟩
        · have e : r = false := Bool.eq_false_iff.2 fun q => cs (h.1 q).1.1
          rw [decide_eq_false cs, e]
          exact Ev.congr (f := fun _ => some false) (fun k => if_neg (by decide)) (Ev.now _)
  refine key 0 (Nat.zero_le _) _ ?_
  rw [decide_eq_true_iff, List.drop_zero]
  exact ⟨fun h => ⟨h.2.2, h.1, h.2.1⟩, fun h => ⟨h.2.1, h.2.2, h.1⟩⟩
/-- A column. -/
def col (t : List (List Int)) (c : Nat) : List Int := t.map (fun row => rd row c)
theorem col_ok {t : List (List Int)} (ht : TableOk t) (c : Nat) (hc : c < (rd_L3 t 0).length) : StatesOk t.length 4 (col t c) := by
  refine ⟨fun s hs => ?_, by simp [col]⟩
  obtain ⟨row, hr, rfl⟩ := List.mem_map.1 hs
  obtain ⟨h1, h2⟩ := ht.2.2 row hr
  have hl : c < row.length := by omega
  rw [rd_nat row c hl]
  exact h1 _ (List.getElem_mem hl)
/-- The length of the first columns. -/
def lenTo (J : List S67) (t : List (List Int)) : Nat → Int
  | 0 => 0
  | c + 1 => wrap64 (lenTo J t c + (fitTo J (col t c) J.length).2)
theorem col_take (t : List (List Int)) (c i : Nat) (hi : i < t.length) : (col t c).take (i + 1) = (col t c).take i ++ [rd (rd_L3 t i) c] := by
  rw [take_up _ i (by simp [col]; exact hi), rd_L3_nat t i hi]
  simp [col]
section
variable {n : Nat} {J : List S67} {t : List (List Int)}
theorem length_ev (hJ : TreeOk n J) (ht : TableOk t) (hn : t.length = n) : Ev (fun k => track_length.f k J t) (lenTo J t (rd_L3 t 0).length) := by
  unfold track_length.f
  have hw := ht.2.1.2
  have h5 := ht.1.2
  have h2 := ht.1.1
  refine Ev.congr (f := fun k => track_length.l0 k J t 0 ((rd_L3 t 0).length : Int) 0) (fun k => if_pos (by omega)) ?_
  have key := up_ind (fun c => Ev (fun k => track_length.l0 k J t (lenTo J t c) ((rd_L3 t 0).length : Int) (c : Int)) (lenTo J t (rd_L3 t 0).length)) (rd_L3 t 0).length ?_ ?_
  · exact key
  · exact Ev.step (f := fun _ => some (lenTo J t (rd_L3 t 0).length)) (fun k => by simp only [track_length.l0]; rw [if_neg (Int.lt_irrefl _)]) (Ev.now _)
  · intro c hc ih
    have p1 : (c : Int) < (rd_L3 t 0).length := by omega
    have p2 : (0 : Int) ≤ c := by omega
    have inner := up_ind (fun i => Ev (fun k => track_length.l1 k J t (lenTo J t c) (c : Int) ((col t c).take i) ((rd_L3 t 0).length : Int) (c : Int) t (t.length : Int) (i : Int)) (lenTo J t (rd_L3 t 0).length)) t.length ?_ ?_
    · exact Ev.step (f := fun k => track_length.l1 k J t (lenTo J t c) (c : Int) [] ((rd_L3 t 0).length : Int) (c : Int) t (t.length : Int) ((0 : Nat) : Int)) (fun k => by simp only [track_length.l0]; rw [if_pos p1]; rfl) inner
    · have hcl : (col t c).length = t.length := by simp [col]
      refine Ev.step (f := fun k => (track_fitch.f k J (col t c)).bind fun b => track_length.l0 k J t (wrap64 (lenTo J t c + b.2)) ((rd_L3 t 0).length : Int) ((c + 1 : Nat) : Int)) (fun k => ?_) ?_
      · simp only [track_length.l1]
        rw [if_neg (Int.lt_irrefl _), List.take_of_length_le (Nat.le_of_eq hcl), succ_w c (by omega)]
      · exact Ev.bind (fitch_ev hJ (hn ▸ col_ok ht c hc)) ih
    · intro i hi ihi
      have q1 : (i : Int) < t.length := by omega
      have q2 : (0 : Int) ≤ i := by omega
      have hrow := (ht.2.2 _ (List.getElem_mem hi)).2
      have q3 : (c : Int) < ((rd_L3 t i).length : Int) := by rw [rd_L3_nat t i hi]; omega
      have q4 : ((col t c).take i).length < 17592186044416 := by rw [List.length_take]; omega
      refine Ev.step (fun k => ?_) ihi
      simp only [track_length.l1]
      rw [if_pos q1, if_pos q2, if_pos q1, if_pos p2, if_pos q3, if_pos q4, succ_w i (by omega), col_take t c i hi]
theorem rlength_ev (hJ : TreeOk n J) (ht : TableOk t) (hn : t.length = n) : Ev (fun k => woggleref02_Length.f k n J t) (lenTo J t (rd_L3 t 0).length) := by
  unfold woggleref02_Length.f
  have hw := ht.2.1.2
  have h5 := ht.1.2
  have h2 := ht.1.1
  have p0 : (0 : Int) < t.length := by omega
  have key := up_ind (fun c => Ev (fun k => woggleref02_Length.l0 k n J t (lenTo J t c) (c : Int)) (lenTo J t (rd_L3 t 0).length)) (rd_L3 t 0).length ?_ ?_
  · exact key
  · exact Ev.step (f := fun _ => some (lenTo J t (rd_L3 t 0).length)) (fun k => by simp only [woggleref02_Length.l0]; rw [if_pos p0, if_neg (Int.lt_irrefl _)]) (Ev.now _)
  · intro c hc ih
    have p1 : (c : Int) < (rd_L3 t 0).length := by omega
    have p2 : (0 : Int) ≤ c := by omega
    have inner := up_ind (fun i => Ev (fun k => woggleref02_Length.l1 k n J t (lenTo J t c) (c : Int) ((col t c).take i) (i : Int)) (lenTo J t (rd_L3 t 0).length)) t.length ?_ ?_
    · exact Ev.step (f := fun k => woggleref02_Length.l1 k n J t (lenTo J t c) (c : Int) [] ((0 : Nat) : Int)) (fun k => by simp only [woggleref02_Length.l0]; rw [if_pos p0, if_pos p1]; rfl) inner
    · have hcl : (col t c).length = t.length := by simp [col]
      refine Ev.step (f := fun k => (woggleref02_Fitch.f k n J (col t c)).bind fun b => woggleref02_Length.l0 k n J t (wrap64 (lenTo J t c + b.2)) ((c + 1 : Nat) : Int)) (fun k => ?_) ?_
      · simp only [woggleref02_Length.l1]
        rw [if_neg (show ¬ (t.length : Int) < n by omega), List.take_of_length_le (Nat.le_of_eq hcl), succ_w c (by omega)]
      · exact Ev.bind (rfitch_ev hJ (hn ▸ col_ok ht c hc)) ih
    · intro i hi ihi
      have q0 : (i : Int) < n := by omega
      have q1 : (i : Int) < t.length := by omega
      have q2 : (0 : Int) ≤ i := by omega
      have hrow := (ht.2.2 _ (List.getElem_mem hi)).2
      have q3 : (c : Int) < ((rd_L3 t i).length : Int) := by rw [rd_L3_nat t i hi]; omega
      have q4 : ((col t c).take i).length < 17592186044416 := by rw [List.length_take]; omega
      refine Ev.step (fun k => ?_) ihi
      simp only [woggleref02_Length.l1]
      rw [if_pos q0, if_pos q2, if_pos q1, if_pos p2, if_pos q3, if_pos q4, succ_w i (by omega), col_take t c i hi]
end

end Go.Proofs.Ytcphmeeighhdjaa.Pure

-- out of RB
namespace Go.Proofs.Ytcphmeeighhdjaa.Pure
open Go Go.Proofs Go.RowKit Go.Proofs.Ytcphmeeighhdjaa.P Go.Proofs.YtcphmeeighhdjaaW.PrintWords Go.Proofs.YtcphmeeighhdjaaW.PrintLast
set_option linter.unusedVariables false

theorem roots_ev (n : Nat) (hn : n ≤ 1000) : Ev (fun k => woggleref02_Roots.f k n) ((List.range n).map (fun v : Nat => (v : Int))) := by
  unfold woggleref02_Roots.f
  have key := up_ind (fun i => Ev (fun k => woggleref02_Roots.l0 k n ((List.range i).map (fun v : Nat => (v : Int))) (i : Int)) ((List.range n).map (fun v : Nat => (v : Int)))) n ?_ ?_
  · exact key
  · exact Ev.step (f := fun _ => some ((List.range n).map (fun v : Nat => (v : Int)))) (fun k => by simp only [woggleref02_Roots.l0]; rw [if_neg (by omega)]) (Ev.now _)
  · intro i hi ih
    refine Ev.step (f := fun k => woggleref02_Roots.l0 k n ((List.range (i + 1)).map (fun v : Nat => (v : Int))) ((i + 1 : Nat) : Int)) (fun k => ?_) ih
    simp only [woggleref02_Roots.l0]
    rw [if_pos (by omega), if_pos (by simp; omega), succ_w i (by omega), range_succ_map]

/-! ## Trees out of arbitrary numbers -/
theorem rd_T67_old (l : List S67) (x : S67) (v : Nat) (h : v < l.length) : rd_T67 (l ++ [x]) v = rd_T67 l v := by
  unfold rd_T67
  rw [Int.toNat_natCast, List.getD_eq_getElem?_getD, List.getD_eq_getElem?_getD, List.getElem?_append_left h]
theorem rd_T67_new (l : List S67) (x : S67) (v : Nat) (h : v = l.length) : rd_T67 (l ++ [x]) v = x := by
  unfold rd_T67
  rw [Int.toNat_natCast, List.getD_eq_getElem?_getD, h]
  simp
theorem usedTo_old (J : List S67) (x : S67) (i : Nat) (h : i ≤ J.length) : usedTo (J ++ [x]) i = usedTo J i := by
  induction i with
  | zero => rfl
  | succ i ih => simp only [usedTo]; rw [ih (by omega), rd_T67_old J x i (by omega)]
theorem joinOk_old {n : Int} {J : List S67} {x : S67} {i : Nat} (hi : i < J.length) (h : JoinOk n J i) : JoinOk n (J ++ [x]) i := by
  unfold JoinOk at h ⊢
  rw [rd_T67_old J x i hi, usedTo_old J x i (by omega)]
  exact h
/-- Roots that are left. -/
structure RootsOk (n : Nat) (J : List S67) (R : List Int) : Prop where
  len : R.length + J.length = n
  nd : R.Nodup
  free : ∀ v ∈ R, 0 ≤ v ∧ v < n + J.length ∧ v ∉ usedTo J J.length
  joins : ∀ i, i < J.length → JoinOk n J i
/-- The roots without two of them. -/
def restTo (R : List Int) (a c : Nat) : Nat → List Int
  | 0 => []
  | i + 1 => if i = a ∨ i = c then restTo R a c i else restTo R a c i ++ [rd R i]
theorem restTo_mem (R : List Int) (a c i : Nat) (v : Int) (h : v ∈ restTo R a c i) : ∃ j, j < i ∧ j ≠ a ∧ j ≠ c ∧ v = rd R j := by
  induction i with
  | zero => simp [restTo] at h
  | succ i ih =>
    unfold restTo at h
    by_cases e : i = a ∨ i = c
    · rw [if_pos e] at h
      obtain ⟨j, h1, h2⟩ := ih h
      exact ⟨j, by omega, h2⟩
    · rw [if_neg e] at h
      rcases List.mem_append.1 h with h | h
      · obtain ⟨j, h1, h2⟩ := ih h
        exact ⟨j, by omega, h2⟩
      · exact ⟨i, by omega, by omega, by omega, List.mem_singleton.1 h⟩
theorem restTo_le (R : List Int) (a c i : Nat) : (restTo R a c i).length ≤ i := by
  induction i with
  | zero => simp [restTo]
  | succ i ih =>
    unfold restTo
    split
    · omega
    · rw [List.length_append, List.length_singleton]; omega
theorem restTo_length (R : List Int) (a c : Nat) (h : a < R.length) (h2 : c < R.length) (hne : a ≠ c) : (restTo R a c R.length).length + 2 = R.length := by
  have key : ∀ i, (restTo R a c i).length + (if a < i then 1 else 0) + (if c < i then 1 else 0) = i := by
    intro i
    induction i with
    | zero => simp [restTo]
    | succ i ih =>
      unfold restTo
      by_cases e1 : i = a
      · subst e1
        rw [if_pos (.inl rfl)]
        rw [if_neg (by omega)] at ih
        rw [if_pos (by omega)]
        by_cases e2 : c < i
        · rw [if_pos e2] at ih; rw [if_pos (by omega)]; omega
        · rw [if_neg e2] at ih; rw [if_neg (by omega)]; omega
      · by_cases e2 : i = c
        · subst e2
          rw [if_pos (.inr rfl)]
          rw [if_neg (show ¬ i < i by omega)] at ih
          rw [if_pos (show i < i + 1 by omega)]
          by_cases e3 : a < i
          · rw [if_pos e3] at ih; rw [if_pos (by omega)]; omega
          · rw [if_neg e3] at ih; rw [if_neg (by omega)]; omega
        · rw [if_neg (by omega)]
          simp only [List.length_append, List.length_singleton]
          by_cases e3 : a < i <;> by_cases e4 : c < i
          · rw [if_pos e3, if_pos e4] at ih; rw [if_pos (by omega), if_pos (by omega)]; omega
          · rw [if_pos e3, if_neg e4] at ih; rw [if_pos (by omega), if_neg (by omega)]; omega
          · rw [if_neg e3, if_pos e4] at ih; rw [if_neg (by omega), if_pos (by omega)]; omega
          · rw [if_neg e3, if_neg e4] at ih; rw [if_neg (by omega), if_neg (by omega)]; omega
  have := key R.length
  rw [if_pos h, if_pos h2] at this
  omega
theorem rd_inj (R : List Int) (hR : R.Nodup) (i j : Nat) (hi : i < R.length) (hj : j < R.length) (h : rd R i = rd R j) : i = j := by
  rw [rd_nat R i hi, rd_nat R j hj] at h
  exact (List.getElem_inj hR).1 h
theorem restTo_nodup (R : List Int) (hR : R.Nodup) (a c i : Nat) (hi : i ≤ R.length) : (restTo R a c i).Nodup := by
  induction i with
  | zero => simp [restTo]
  | succ i ih =>
    unfold restTo
    split
    · exact ih (by omega)
    · rw [List.nodup_append]
      refine ⟨ih (by omega), by simp, fun x hx y hy => ?_⟩
      rw [List.mem_singleton] at hy
      obtain ⟨j, h1, _, _, rfl⟩ := restTo_mem R a c i x hx
      rw [hy]
      exact fun e => by have := rd_inj R hR j i (by omega) (by omega) e; omega
theorem roots_step (n : Nat) (J : List S67) (R : List Int) (h : RootsOk n J R) (a c : Nat) (ha : a < R.length) (hc : c < R.length) (hne : a ≠ c) :
    RootsOk n (J ++ [(⟨rd R a, rd R c⟩ : S67)]) (restTo R a c R.length ++ [((n + J.length : Nat) : Int)]) := by
  have hfa := h.free (rd R a) (by rw [rd_nat R a ha]; exact List.getElem_mem ha)
  have hfc := h.free (rd R c) (by rw [rd_nat R c hc]; exact List.getElem_mem hc)
  have hac : rd R c ≠ rd R a := fun e => hne (rd_inj R h.nd c a hc ha e).symm
  have hu : usedTo (J ++ [(⟨rd R a, rd R c⟩ : S67)]) (J ++ [(⟨rd R a, rd R c⟩ : S67)]).length = usedTo J J.length ++ [rd R a] ++ [rd R c] := by
    rw [List.length_append, List.length_singleton]
    simp only [usedTo]
    rw [usedTo_old J _ _ (Nat.le_refl _), rd_T67_new J _ _ rfl]
  have used_lt : ∀ m, m ≤ J.length → ∀ x ∈ usedTo J m, x < n + m := by
    intro m
    induction m with
    | zero => intro _ x hx; simp [usedTo] at hx
    | succ m ihm =>
      intro hm' x hx
      obtain ⟨⟨p0, p1, p2⟩, q0, q1, q2⟩ := h.joins m (by omega)
      simp only [usedTo, List.mem_append, List.mem_singleton] at hx
      rcases hx with (hx | hx) | hx
      · have := ihm (by omega) x hx; omega
      · omega
      · omega
  refine ⟨?_, ?_, ?_, ?_⟩
  · have := restTo_length R a c ha hc hne
    have := h.len
    simp only [List.length_append, List.length_singleton]
    omega
  · rw [List.nodup_append]
    refine ⟨restTo_nodup R h.nd a c _ (Nat.le_refl _), by simp, fun x hx y hy => ?_⟩
    rw [List.mem_singleton] at hy
    obtain ⟨j, h1, _, _, rfl⟩ := restTo_mem R a c _ x hx
    have := (h.free (rd R j) (by rw [rd_nat R j h1]; exact List.getElem_mem h1)).2.1
    omega
  · intro v hv
    rw [hu]
    simp only [List.length_append, List.length_singleton, List.mem_append, List.mem_singleton, not_or]
    rcases List.mem_append.1 hv with hv | hv
    · obtain ⟨j, h1, h2, h3, rfl⟩ := restTo_mem R a c _ v hv
      obtain ⟨f1, f2, f3⟩ := h.free (rd R j) (by rw [rd_nat R j h1]; exact List.getElem_mem h1)
      exact ⟨f1, by omega, ⟨f3, fun e => h2 (rd_inj R h.nd j a h1 ha e)⟩, fun e => h3 (rd_inj R h.nd j c h1 hc e)⟩
    · rw [List.mem_singleton] at hv
      refine ⟨by omega, by omega, ⟨fun hx => ?_, by omega⟩, by omega⟩
      have := used_lt _ (Nat.le_refl _) _ hx
      omega
  · intro i hi
    simp only [List.length_append, List.length_singleton] at hi
    by_cases e : i < J.length
    · exact joinOk_old e (h.joins i e)
    · obtain rfl : i = J.length := by omega
      unfold JoinOk
      rw [rd_T67_new J _ _ rfl, usedTo_old J _ _ (Nat.le_refl _)]
      refine ⟨⟨hfa.1, hfa.2.1, hfa.2.2⟩, hfc.1, hfc.2.1, ?_⟩
      simp only [List.mem_append, List.mem_singleton, not_or]
      exact ⟨hfc.2.2, hac⟩
end Go.Proofs.Ytcphmeeighhdjaa.Pure

-- out of RN
namespace Go.Proofs.Ytcphmeeighhdjaa.Pure
open Go Go.Proofs Go.RowKit Go.Proofs.Ytcphmeeighhdjaa.P Go.Proofs.YtcphmeeighhdjaaW.PrintWords Go.Proofs.YtcphmeeighhdjaaW.PrintLast
set_option linter.unusedVariables false

theorem rows_ev (y : List (List Int)) (h : y.length ≤ maxLen ∧ ∀ x ∈ y, x.length ≤ maxLen) : Ev (fun k => wogglelaw02_rows.f k y) ((y.take 9).map (fun x => x.take 9)) := by
  unfold wogglelaw02_rows.f
  have hm : maxLen = 9223372036854775807 := rfl
  have hy := h.1
  rw [hm] at hy
  have key := up_ind (fun i => Ev (fun k => wogglelaw02_rows.l0 k y ((y.take i).map (fun x => x.take 9)) (i : Int)) ((y.take 9).map (fun x => x.take 9))) (min y.length 9) ?_ ?_
  · exact key
  · refine Ev.step (f := fun _ => some ((y.take 9).map (fun x => x.take 9))) (fun k => ?_) (Ev.now _)
    simp only [wogglelaw02_rows.l0]
    by_cases c : y.length ≤ 9
    · rw [Nat.min_eq_left c, if_neg (Int.lt_irrefl _), List.take_of_length_le (Nat.le_refl _), List.take_of_length_le c]
    · rw [Nat.min_eq_right (by omega), if_pos (show ((9 : Nat) : Int) < y.length by omega), if_neg (show ¬ ((9 : Nat) : Int) ≤ 8 by decide)]
  · intro i hi ih
    have hi1 : i < y.length := by omega
    have p1 : (i : Int) < y.length := by omega
    have p2 : (0 : Int) ≤ i := by omega
    have p3 : (i : Int) ≤ 8 := by omega
    have hl : ((y.take i).map (fun x => x.take 9)).length < 5864062014805 := by rw [List.length_map, List.length_take]; omega
    refine Ev.step (fun k => ?_) ih
    simp only [wogglelaw02_rows.l0, hl, if_true]
    rw [if_pos p1, if_pos p3, if_pos p2, rd_L3_nat y i hi1, cut_f _ (h.2 _ (List.getElem_mem hi1)), succ_w i (by omega), take_up y i hi1, List.map_append]
    rfl
section
variable {n : Nat} {J : List S67} {C : List (List Int)} {L : List Int}
end
end Go.Proofs.Ytcphmeeighhdjaa.Pure

-- out of RS
namespace Go.Proofs.Ytcphmeeighhdjaa.Pure
open Go Go.Proofs Go.RowKit Go.Proofs.Ytcphmeeighhdjaa.P Go.Proofs.YtcphmeeighhdjaaW.PrintWords Go.Proofs.YtcphmeeighhdjaaW.PrintLast
set_option linter.unusedVariables false
/-- The length of a tree for a table. -/
def LV (t : List (List Int)) (J : List S67) : Int := lenTo J t (rd_L3 t 0).length
theorem fit_few (J : List S67) (L : List Int) (m : Nat) (hm : m ≤ 1000) : 0 ≤ (fitTo J L m).2 ∧ (fitTo J L m).2 ≤ m := by
  induction m with
  | zero => exact ⟨Int.le_refl _, Int.le_refl _⟩
  | succ m ih =>
    have i := ih (by omega)
    simp only [fitTo]
    split
    · show 0 ≤ wrap64 ((fitTo J L m).2 + 1) ∧ wrap64 ((fitTo J L m).2 + 1) ≤ _
      rw [w64 _ (by omega) (by omega)]; omega
    · show 0 ≤ (fitTo J L m).2 ∧ (fitTo J L m).2 ≤ _
      omega
theorem len_few (J : List S67) (t : List (List Int)) (hJ : J.length ≤ 1000) (c : Nat) (hc : c ≤ 1000) : 0 ≤ lenTo J t c ∧ lenTo J t c ≤ c * 1000 := by
  induction c with
  | zero => exact ⟨Int.le_refl _, Int.le_refl _⟩
  | succ c ih =>
    have i := ih (by omega)
    have f := fit_few J (col t c) J.length hJ
    simp only [lenTo]
    rw [w64 _ (by omega) (by omega)]; omega
/-- J' goes on from J with the roots O, m joins being left. -/
def Ends (n : Nat) : Nat → List S67 → List Int → List S67 → Prop
  | 0, J, _, J' => J' = J
  | m + 1, J, O, J' => ∃ i c, i < c ∧ c < O.length ∧ Ends n m (J ++ [(⟨rd O i, rd O c⟩ : S67)]) (restTo O i c O.length ++ [((n + J.length : Nat) : Int)]) J'
theorem ends_ok (n : Nat) (h2 : 2 ≤ n) (h8 : n ≤ 8) : ∀ m J O J', RootsOk n J O → O.length = m + 1 → Ends n m J O J' → TreeOk n J'
  | 0, J, O, J', h, hl, e => by
    have e' : J' = J := e
    subst e'
    exact ⟨by omega, by omega, by have := h.len; omega, h.joins⟩
  | m + 1, J, O, J', h, hl, ⟨i, c, h1, h3, e⟩ => ends_ok n h2 h8 m _ _ J' (roots_step n J O h i c (by omega) h3 (by omega)) (by rw [List.length_append, List.length_singleton]; have := restTo_length O i c (by omega) h3 (by omega); omega) e
theorem rest_len (O : List Int) (i c m : Nat) (x : Int) (h1 : i < c) (h3 : c < O.length) (hl : O.length = m + 1 + 1) : (restTo O i c O.length ++ [x]).length = m + 1 := by
  rw [List.length_append, List.length_singleton]
  have := restTo_length O i c (by omega) h3 (by omega)
  omega
theorem rest_is (O : List Int) (hO : O.Nodup) (i c : Nat) (hi : i < O.length) (hc : c < O.length) : restOf O (rd O i) (rd O c) = restTo O i c O.length := by
  have key : ∀ m, m ≤ O.length → (O.take m).filter (fun x => !(x == rd O i || x == rd O c)) = restTo O i c m := by
    intro m
    induction m with
    | zero => intro _; rfl
    | succ m ih =>
      intro hm
      have hm' : m < O.length := by omega
      rw [take_up O m hm', List.filter_append, ih (by omega)]
      have e0 : O[m] = rd O m := (rd_nat O m hm').symm
      show _ = (if m = i ∨ m = c then restTo O i c m else restTo O i c m ++ [rd O m])
      by_cases c0 : m = i ∨ m = c
      · rw [if_pos c0]
        have hb : (O[m] == rd O i || O[m] == rd O c) = true := by
          rw [e0]
          rcases c0 with rfl | rfl
          · simp
          · simp
        simp only [List.filter_cons, hb, List.filter_nil, Bool.not_true]
        rw [if_neg (by simp), List.append_nil]
      · rw [if_neg c0]
        have hb : (O[m] == rd O i || O[m] == rd O c) = false := by
          rw [e0, Bool.or_eq_false_iff, beq_eq_false_iff_ne, beq_eq_false_iff_ne]
          exact ⟨fun e => c0 (.inl (rd_inj O hO m i hm' hi e)), fun e => c0 (.inr (rd_inj O hO m c hm' hc e))⟩
        simp only [List.filter_cons, hb, List.filter_nil, Bool.not_false, if_true]
        rw [e0]
  have := key O.length (Nat.le_refl _)
  rw [List.take_length] at this
  exact this
theorem dropR (l : List Int) (i : Nat) (h : i < l.length) : l.drop i = rd l i :: l.drop (i + 1) := by
  rw [List.drop_eq_getElem_cons h, rd_nat l i h]
section
variable {n : Nat} {t : List (List Int)} (h2 : 2 ≤ n) (h8 : n ≤ 8) (ht : TableOk t) (hn : t.length = n)
include h2 h8 ht hn
/-- What is known of the search in the midst: of all pairs so far. -/
theorem best_ev : ∀ m J O, RootsOk n J O → O.length = m + 1 → ∃ J', Ev (fun k => bestM k t m J O) (LV t J', J') ∧ Ends n m J O J' ∧ ∀ J'', Ends n m J O J'' → LV t J' ≤ LV t J''
  | 0, J, O, h, hl => by
    have hT := ends_ok n h2 h8 0 J O J h hl rfl
    refine ⟨J, ?_, rfl, fun J'' e => by rw [show J'' = J from e]; exact Int.le_refl _⟩
    show Ev (fun k => (track_length.f k J t).bind fun r => some (r, J)) _
    exact Ev.bind (length_ev hT ht hn) (Ev.now _)
  | m + 1, J, O, h, hl => by
    have hT : ∀ J', Ends n (m + 1) J O J' → 0 ≤ LV t J' := fun J' e => by
      have := ends_ok n h2 h8 (m + 1) J O J' h hl e
      exact (len_few J' t (by have := this.2.2.1; omega) _ (by have := ht.2.1.2; omega)).1
    obtain ⟨F, hF⟩ : ∃ F : Nat → Int → Int → Option (Int × List S67), (fun k a b => bestM k t m (J ++ [⟨a, b⟩]) (restOf O a b ++ [((t.length + J.length : Nat) : Int)])) = F := ⟨_, rfl⟩
    have hsub : ∀ i c, i < c → c < O.length → ∃ J', Ev (fun k => F k (rd O i) (rd O c)) (LV t J', J') ∧ Ends n (m + 1) J O J' ∧ ∀ J'', Ends n m (J ++ [(⟨rd O i, rd O c⟩ : S67)]) (restTo O i c O.length ++ [((n + J.length : Nat) : Int)]) J'' → LV t J' ≤ LV t J'' := by
      intro i c h1 h3
      obtain ⟨J', e1, e2, e3⟩ := best_ev m _ _ (roots_step n J O h i c (by omega) h3 (by omega)) (rest_len O i c m _ h1 h3 hl)
      refine ⟨J', ?_, ⟨i, c, h1, h3, e2⟩, e3⟩
      rw [← hF]
      show Ev (fun k => bestM k t m (J ++ [⟨rd O i, rd O c⟩]) (restOf O (rd O i) (rd O c) ++ [((t.length + J.length : Nat) : Int)])) _
      rw [rest_is O h.nd i c (by omega) h3, hn]
      exact e1
    have e0 : (fun k => bestM k t (m + 1) J O) = fun k => bOut (F k) O (-1, []) := by rw [← hF]; rfl
    rw [e0]
    -- the invariant: of the pairs ahead of (i, c)
    let Ahead := fun (i c : Nat) (acc : Int × List S67) => (∀ i' c', i' < c' → c' < O.length → (i' < i ∨ i' = i ∧ c' < c) → ∀ J'', Ends n m (J ++ [(⟨rd O i', rd O c'⟩ : S67)]) (restTo O i' c' O.length ++ [((n + J.length : Nat) : Int)]) J'' → acc.1 ≤ LV t J'') ∧ ((acc.1 = -1 ∧ i = 0 ∧ c ≤ 1) ∨ (acc.1 = LV t acc.2 ∧ Ends n (m + 1) J O acc.2))
    have step : ∀ i c acc, i < c → c < O.length → Ahead i c acc → ∀ J', Ends n (m + 1) J O J' → (∀ J'', Ends n m (J ++ [(⟨rd O i, rd O c⟩ : S67)]) (restTo O i c O.length ++ [((n + J.length : Nat) : Int)]) J'' → LV t J' ≤ LV t J'') → Ahead i (c + 1) (btr acc (LV t J', J')) := by
      intro i c acc h1 h3 ha J' e1 e2
      have hp := hT J' e1
      unfold btr
      split
      · rename_i hc
        refine ⟨fun i' c' q1 q2 q3 J'' e => ?_, .inr ⟨rfl, e1⟩⟩
        by_cases hx : i' = i ∧ c' = c
        · obtain ⟨rfl, rfl⟩ := hx; exact e2 J'' e
        · have hle := ha.1 i' c' q1 q2 (by omega) J'' e
          rcases hc with hc | hc
          · rcases ha.2 with ⟨_, hi0, hc1⟩ | ⟨e3, e4⟩
            · omega
            · have := hT _ e4; omega
          · have hc' : LV t J' < acc.1 := hc
            show LV t J' ≤ _
            omega
      · rename_i hc
        have hc1 : ¬ acc.1 < 0 := fun x => hc (.inl x)
        have hc2 : ¬ LV t J' < acc.1 := fun x => hc (.inr x)
        refine ⟨fun i' c' q1 q2 q3 J'' e => ?_, ?_⟩
        · by_cases hx : i' = i ∧ c' = c
          · obtain ⟨rfl, rfl⟩ := hx
            have := e2 J'' e
            omega
          · exact ha.1 i' c' q1 q2 (by omega) J'' e
        · rcases ha.2 with ⟨e3, _⟩ | e3
          · omega
          · exact .inr e3
    have inner : ∀ i, i < O.length → ∀ d c acc, c + d = O.length → i < c → Ahead i c acc → ∃ acc', Ev (fun k => bIn (F k) (rd O i) (O.drop c) acc) acc' ∧ Ahead (i + 1) 0 acc' := by
      intro i hi d
      induction d with
      | zero =>
        intro c acc hc hic ha
        refine ⟨acc, ?_, fun i' c' q1 q2 q3 J'' e => ha.1 i' c' q1 q2 (by omega) J'' e, ?_⟩
        · rw [List.drop_of_length_le (by omega)]
          exact Ev.now _
        · rcases ha.2 with ⟨_, e1, e2⟩ | e
          · omega
          · exact .inr e
      | succ d ih =>
        intro c acc hc hic ha
        obtain ⟨J', e1, e2, e3⟩ := hsub i c hic (by omega)
        obtain ⟨acc', e4, e5⟩ := ih (c + 1) _ (by omega) (by omega) (step i c acc hic (by omega) ha J' e2 e3)
        refine ⟨acc', ?_, e5⟩
        rw [dropR O c (by omega)]
        exact Ev.bind e1 e4
    have outer : ∀ d i acc, i + d = O.length → Ahead i 0 acc → ∃ acc', Ev (fun k => bOut (F k) (O.drop i) acc) acc' ∧ Ahead O.length 0 acc' := by
      intro d
      induction d with
      | zero =>
        intro i acc hi ha
        obtain rfl : i = O.length := by omega
        refine ⟨acc, ?_, ha⟩
        rw [List.drop_of_length_le (Nat.le_refl _)]
        exact Ev.now _
      | succ d ih =>
        intro i acc hi ha
        obtain ⟨acc1, e1, e2⟩ := inner i (by omega) (O.length - (i + 1)) (i + 1) acc (by omega) (by omega) ⟨fun i' c' q1 q2 q3 J'' e => ha.1 i' c' q1 q2 (by omega) J'' e, by
          rcases ha.2 with ⟨x, y, _⟩ | x
          · exact .inl ⟨x, y, by omega⟩
          · exact .inr x⟩
        obtain ⟨acc2, e3, e4⟩ := ih (i + 1) acc1 (by omega) e2
        refine ⟨acc2, ?_, e4⟩
        rw [dropR O i (by omega)]
        exact Ev.bind e1 e3
    obtain ⟨acc', e1, e2⟩ := outer O.length 0 (-1, []) (by omega) ⟨fun i' c' q1 q2 q3 => by omega, .inl ⟨rfl, rfl, by omega⟩⟩
    rw [List.drop_zero] at e1
    rcases e2.2 with ⟨_, x, _⟩ | ⟨x, y⟩
    · omega
    · refine ⟨acc'.2, by rw [← x]; exact e1, y, ?_⟩
      rintro J'' ⟨i, c, q1, q2, q3⟩
      rw [← x]
      exact e2.1 i c q1 q2 (by omega) J'' q3
-- the rest, as the reference lays it
omit ht in
theorem short_l2 (J : List S67) (O : List Int) (b : Int) (i c : Nat) (h1 : i < c) (h3 : c < O.length) (hO : O.length ≤ 100) (hJ : J.length ≤ 100) (R : Int)
    (h : Ev (fun k => (woggleref02_Shortest.f k n (restTo O i c O.length ++ [((n + J.length : Nat) : Int)]) (J ++ [(⟨rd O i, rd O c⟩ : S67)]) t).bind fun v => woggleref02_Shortest.l1 k n O J t (mn b v) (c : Int) ((i + 1 : Nat) : Int)) R) :
    Ev (fun k => woggleref02_Shortest.l2 k n O J t b (c : Int) (i : Int) [] 0) R := by
  have key := up_ind (fun q => Ev (fun k => woggleref02_Shortest.l2 k n O J t b (c : Int) (i : Int) (restTo O i c q) (q : Int)) R) O.length ?_ ?_
  · exact key
  · refine Ev.step (fun k => ?_) h
    simp only [woggleref02_Shortest.l2]
    have hl := restTo_le O i c O.length
    have hw : wrap64 ((n : Int) + (J.length : Int)) = ((n + J.length : Nat) : Int) := by rw [w64 _ (by omega) (by omega)]; omega
    rw [if_neg (Int.lt_irrefl _), hw, succ_w i (by omega)]
    simp only [Option.bind_some, List.length_nil, List.length_singleton, List.nil_append]
    rw [if_pos (by omega), if_pos (by omega), if_pos (by omega), if_pos (by omega), if_pos (by omega), if_pos (by omega), if_pos (by omega)]
  · intro q hq ih
    have p1 : (q : Int) < (O.length : Int) := by omega
    refine Ev.step (fun k => ?_) ih
    simp only [woggleref02_Shortest.l2]
    rw [if_pos p1, succ_w q (by omega)]
    show _ = woggleref02_Shortest.l2 k n O J t b (c : Int) (i : Int) (if q = i ∨ q = c then restTo O i c q else restTo O i c q ++ [rd O q]) _
    by_cases c1 : q = c
    · rw [if_pos (show (q : Int) = (c : Int) by omega), if_pos (.inr c1)]
    · rw [if_neg (show ¬ (q : Int) = (c : Int) by omega)]
      by_cases c2 : q = i
      · rw [if_pos (show (q : Int) = (i : Int) by omega), if_pos (.inl c2)]
      · have hl := restTo_le O i c q
        rw [if_neg (show ¬ (q : Int) = (i : Int) by omega), if_pos (show 0 ≤ (q : Int) by omega), if_neg (show ¬ (q = i ∨ q = c) by omega)]
        simp only [Option.bind_some, List.length_singleton]
        rw [if_pos (by omega)]
theorem short_ev : ∀ m J O, RootsOk n J O → O.length = m + 1 → ∃ R, Ev (fun k => woggleref02_Shortest.f k n O J t) R ∧ (∀ J'', Ends n m J O J'' → R ≤ LV t J'') ∧ ∃ J', Ends n m J O J' ∧ R = LV t J'
  | 0, J, O, h, hl => by
    have hT := ends_ok n h2 h8 0 J O J h hl rfl
    refine ⟨LV t J, Ev.step (f := fun k => (woggleref02_Length.f k n J t).bind fun r => some r) (fun k => ?_) (Ev.bind (rlength_ev hT ht hn) (Ev.now _)), fun J'' e => by rw [show J'' = J from e]; exact Int.le_refl _, J, rfl, rfl⟩
    simp only [woggleref02_Shortest.f]
    rw [if_pos (by omega)]
  | m + 1, J, O, h, hl => by
    have hlen := h.len
    have hB : ∀ J', Ends n (m + 1) J O J' → LV t J' < 1073741824 := fun J' e => by
      have := ends_ok n h2 h8 (m + 1) J O J' h hl e
      have := (len_few J' t (by have := this.2.2.1; omega) (rd_L3 t 0).length (by have := ht.2.1.2; omega)).2
      have := ht.2.1.2
      unfold LV
      omega
    have hsub : ∀ i c, i < c → c < O.length → ∃ R, Ev (fun k => woggleref02_Shortest.f k n (restTo O i c O.length ++ [((n + J.length : Nat) : Int)]) (J ++ [(⟨rd O i, rd O c⟩ : S67)]) t) R ∧ (∀ J'', Ends n m (J ++ [(⟨rd O i, rd O c⟩ : S67)]) (restTo O i c O.length ++ [((n + J.length : Nat) : Int)]) J'' → R ≤ LV t J'') ∧ ∃ J', Ends n (m + 1) J O J' ∧ R = LV t J' := by
      intro i c h1 h3
      obtain ⟨R, e1, e2, J', e3, e4⟩ := short_ev m _ _ (roots_step n J O h i c (by omega) h3 (by omega)) (rest_len O i c m _ h1 h3 hl)
      exact ⟨R, e1, e2, J', ⟨i, c, h1, h3, e3⟩, e4⟩
    let Ahead := fun (c i : Nat) (b : Int) => (∀ i' c', i' < c' → c' < O.length → (c' < c ∨ c' = c ∧ i' < i) → ∀ J'', Ends n m (J ++ [(⟨rd O i', rd O c'⟩ : S67)]) (restTo O i' c' O.length ++ [((n + J.length : Nat) : Int)]) J'' → b ≤ LV t J'') ∧ (b = 1073741824 ∨ ∃ J', Ends n (m + 1) J O J' ∧ b = LV t J')
    have step : ∀ i c b R, i < c → c < O.length → Ahead c i b → (∀ J'', Ends n m (J ++ [(⟨rd O i, rd O c⟩ : S67)]) (restTo O i c O.length ++ [((n + J.length : Nat) : Int)]) J'' → R ≤ LV t J'') → (∃ J', Ends n (m + 1) J O J' ∧ R = LV t J') → Ahead c (i + 1) (mn b R) := by
      intro i c b R h1 h3 ha e1 e2
      unfold mn
      split
      · rename_i hc
        refine ⟨fun i' c' q1 q2 q3 J'' e => ?_, .inr e2⟩
        by_cases hx : i' = i ∧ c' = c
        · obtain ⟨rfl, rfl⟩ := hx; exact e1 J'' e
        · have := ha.1 i' c' q1 q2 (by omega) J'' e
          omega
      · rename_i hc
        refine ⟨fun i' c' q1 q2 q3 J'' e => ?_, ha.2⟩
        by_cases hx : i' = i ∧ c' = c
        · obtain ⟨rfl, rfl⟩ := hx
          have := e1 J'' e
          omega
        · exact ha.1 i' c' q1 q2 (by omega) J'' e
    have key := up_ind (fun c => ∀ b, Ahead c 0 b → ∃ R, Ev (fun k => woggleref02_Shortest.l0 k n O J t b (c : Int)) R ∧ Ahead O.length 0 R) O.length ?_ ?_
    · obtain ⟨R, e1, e2⟩ := key 1073741824 ⟨fun i' c' q1 q2 q3 => by omega, .inl rfl⟩
      have e3 : ∀ J'', Ends n (m + 1) J O J'' → R ≤ LV t J'' := by
        rintro J'' ⟨i, c, q1, q2, q3⟩
        exact e2.1 i c q1 q2 (by omega) J'' q3
      refine ⟨R, Ev.step (f := fun k => woggleref02_Shortest.l0 k n O J t 1073741824 0) (fun k => ?_) e1, e3, ?_⟩
      · simp only [woggleref02_Shortest.f]
        rw [if_neg (by omega)]
      · rcases e2.2 with e | e
        · obtain ⟨R', _, _, J', e4, e5⟩ := hsub 0 1 (by omega) (by omega)
          have := e3 J' e4
          have := hB J' e4
          omega
        · exact e
    · intro b hb
      exact ⟨b, Ev.step (f := fun _ => some b) (fun k => by simp only [woggleref02_Shortest.l0]; rw [if_neg (Int.lt_irrefl _)]) (Ev.now _), hb⟩
    · intro c hc ih b hb
      have inner := up_ind (fun i => ∀ b, Ahead c i b → ∃ R, Ev (fun k => woggleref02_Shortest.l1 k n O J t b (c : Int) (i : Int)) R ∧ Ahead O.length 0 R) c ?_ ?_
      · obtain ⟨R, e1, e2⟩ := inner b hb
        refine ⟨R, Ev.step (f := fun k => woggleref02_Shortest.l1 k n O J t b (c : Int) ((0 : Nat) : Int)) (fun k => ?_) e1, e2⟩
        simp only [woggleref02_Shortest.l0]
        rw [if_pos (by omega)]
        rfl
      · intro b hb
        obtain ⟨R, e1, e2⟩ := ih b ⟨fun i' c' q1 q2 q3 J'' e => hb.1 i' c' q1 q2 (by omega) J'' e, hb.2⟩
        refine ⟨R, Ev.step (fun k => ?_) e1, e2⟩
        simp only [woggleref02_Shortest.l1]
        rw [if_neg (Int.lt_irrefl _), succ_w c (by omega)]
      · intro i hi ihi b hb
        obtain ⟨R1, e1, e2, e3⟩ := hsub i c hi hc
        obtain ⟨R, e4, e5⟩ := ihi _ (step i c b R1 hi hc hb e2 e3)
        refine ⟨R, Ev.step (f := fun k => woggleref02_Shortest.l2 k n O J t b (c : Int) (i : Int) [] 0) (fun k => ?_) (short_l2 h2 h8 hn J O b i c hi hc (by omega) (by omega) R (Ev.bind e1 e4)), e5⟩
        simp only [woggleref02_Shortest.l1]
        rw [if_pos (by omega)]
/-- The search's answers are the same. -/
theorem both (J : List S67) (O : List Int) (m : Nat) (h : RootsOk n J O) (hl : O.length = m + 1) : ∃ J', TreeOk n J' ∧ Ev (fun k => bestM k t m J O) (LV t J', J') ∧ Ev (fun k => woggleref02_Shortest.f k n O J t) (LV t J') := by
  obtain ⟨J', e1, e2, e3⟩ := best_ev h2 h8 ht hn m J O h hl
  obtain ⟨R, r1, r2, J2, r3, r4⟩ := short_ev h2 h8 ht hn m J O h hl
  have a := e3 J2 r3
  have b := r2 J' e2
  have e : R = LV t J' := by omega
  exact ⟨J', ends_ok n h2 h8 m J O J' h hl e2, e1, e ▸ r1⟩
end
end Go.Proofs.Ytcphmeeighhdjaa.Pure

-- out of PureTrackBests
namespace Go.Proofs.Ytcphmeeighhdjaa.Pure
open Go Go.Proofs Go.RowKit Go.Proofs.Ytcphmeeighhdjaa.P Go.Proofs.YtcphmeeighhdjaaW.PrintWords Go.Proofs.YtcphmeeighhdjaaW.PrintLast
set_option linter.unusedVariables false
theorem livesB_ev : Ev (fun k => wogglelaw02_lives.f k) true := Ev.of wogglelaw02_lives.mono track_lives_at
theorem all_ev (t : List (List Int)) (ht : t.length ≤ 1000) : Ev (fun k => track_all.f k t) ((List.range t.length).map (fun v : Nat => (v : Int))) := by
  unfold track_all.f
  have key := up_ind (fun i => Ev (fun k => track_all.l0 k ((List.range i).map (fun v : Nat => (v : Int))) (t.length : Int) (i : Int)) ((List.range t.length).map (fun v : Nat => (v : Int)))) t.length ?_ ?_
  · exact key
  · exact Ev.step (f := fun _ => some ((List.range t.length).map (fun v : Nat => (v : Int)))) (fun k => by simp only [track_all.l0]; rw [if_neg (by omega)]) (Ev.now _)
  · intro i hi ih
    refine Ev.step (f := fun k => track_all.l0 k ((List.range (i + 1)).map (fun v : Nat => (v : Int))) (t.length : Int) ((i + 1 : Nat) : Int)) (fun k => ?_) ih
    simp only [track_all.l0]
    rw [if_pos (by omega), if_pos (by simp; omega), succ_w i (by omega), range_succ_map]
theorem roots_all (q : Nat) : RootsOk q [] ((List.range q).map (fun v : Nat => (v : Int))) := by
  refine ⟨by simp, ?_, ?_, fun i hi => absurd hi (by simp)⟩
  · refine List.pairwise_map.2 (List.Pairwise.imp (fun h => ?_) (List.nodup_range (n := q)))
    omega
  · intro v hv
    obtain ⟨u, hu, rfl⟩ := List.mem_map.1 hv
    have := List.mem_range.1 hu
    exact ⟨by omega, by simp; omega, by simp [usedTo]⟩
/-- Best, Tree and the reference's Shortest, for a table. -/
theorem bests_ev (t : List (List Int)) (ht : TableOk t) : ∃ J', TreeOk t.length J' ∧ Ev (fun k => track_Best.f k t) (LV t J', 0) ∧ Ev (fun k => track_Tree.f k t) (J', 0) ∧
    Ev (fun k => woggleref02_Shortest.f k t.length ((List.range t.length).map (fun v : Nat => (v : Int))) [] t) (LV t J') := by
  have h2 := ht.1.1
  have h5 := ht.1.2
  have hr := roots_all t.length
  obtain ⟨J', hT, e1, e2⟩ := both (n := t.length) h2 (by omega) ht rfl [] _ (t.length - 1) hr (by simp; omega)
  have rf := rows_f t
  rw [@decide_eq_true _ (_) ht] at rf
  have hok : OpenOk t [] ((List.range t.length).map (fun v : Nat => (v : Int))) := ⟨hr.nd, fun x hx => by have := hr.free x hx; exact ⟨this.1, this.2.1⟩, by omega, by simp; omega⟩
  have e3 : Ev (fun k => track_best.f k t [] ((List.range t.length).map (fun v : Nat => (v : Int)))) (LV t J', J') := by
    refine Ev.congr (fun k => ?_) e1
    unfold track_best.f
    rw [if_pos ⟨hok, by simp; omega⟩]
    simp
  refine ⟨J', hT, ?_, ?_, e2⟩
  · unfold track_Best.f
    rw [rf]
    exact Ev.bind (ev_val rfl) (ev_pos rfl (Ev.bind (all_ev t (by omega)) (Ev.bind e3 (Ev.now _))))
  · unfold track_Tree.f
    rw [rf]
    exact Ev.bind (ev_val rfl) (ev_pos rfl (Ev.bind (all_ev t (by omega)) (Ev.bind e3 (Ev.now _))))
theorem TrackBests : wogglelaw02_TrackBests.Pure := by
  intro x1 g1
  apply Ev.rounds
  have hr := rows_ev x1 ⟨g1.1, fun x hx => (g1.2 x hx).1⟩
  have hT : ((x1.take 9).map (fun x => x.take 9)).length ≤ 9 := by rw [List.length_map]; exact List.length_take_le _ _
  have hR : ∀ row ∈ (x1.take 9).map (fun x => x.take 9), row.length ≤ 9 := by
    intro row hr
    obtain ⟨y, _, rfl⟩ := List.mem_map.1 hr
    exact List.length_take_le _ _
  generalize (x1.take 9).map (fun x => x.take 9) = t at *
  unfold wogglelaw02_TrackBests.f
  refine Ev.bind hr ?_
  have tb := table_ev t hT hR
  by_cases c1 : TableOk t
  · rw [@decide_eq_true _ (_) c1] at tb
    obtain ⟨J', hJ, e1, e2, e3⟩ := bests_ev t c1
    have tr := rtree_ev t.length J'
    rw [@decide_eq_true _ (_) hJ] at tr
    exact Ev.bind e1 (Ev.bind e2 (Ev.bind tb (ev_pos rfl (Ev.bind (roots_ev t.length (by omega)) (Ev.bind e3 (ev_pos rfl (ev_pos rfl (Ev.bind tr (ev_pos rfl (Ev.bind (rlength_ev hJ c1 rfl) (ev_pos rfl (ev_pos rfl (Ev.bind livesB_ev (Ev.now _))))))))))))))
  · rw [@decide_eq_false _ (_) c1] at tb
    have rf := rows_f t
    rw [@decide_eq_false _ (_) c1] at rf
    have e1 : Ev (fun k => track_Best.f k t) (0, 2) := by
      unfold track_Best.f
      rw [rf]
      exact Ev.bind (ev_val rfl) (ev_neg (by decide) (Ev.now _))
    have e2 : Ev (fun k => track_Tree.f k t) ([], 2) := by
      unfold track_Tree.f
      rw [rf]
      exact Ev.bind (ev_val rfl) (ev_neg (by decide) (Ev.now _))
    exact Ev.bind e1 (Ev.bind e2 (Ev.bind tb (ev_neg (by decide) (ev_pos rfl (ev_pos rfl (ev_pos rfl (ev_pos rfl (Ev.bind livesB_ev (Ev.now _)))))))))
end Go.Proofs.Ytcphmeeighhdjaa.Pure
