/- For all trees and tables, Length answers the length of the tree, or the error: in plain numbers and lists. -/
import Derived.Test.YtcphmeeighhdjaaPF12
import Derived.Test.YtcphmeeighhdjaaRN
namespace Go.Proofs.Ytcphmeeighhdjaa.Pure
open Go Go.Proofs Go.RowKit Go.Proofs.Ytcphmeeighhdjaa.P Go.Proofs.YtcphmeeighhdjaaW.PrintWords Go.Proofs.YtcphmeeighhdjaaW.PrintLast
set_option linter.unusedVariables false

theorem livesG_ev : Ev (fun k => wogglelaw02_lives.f k) true := Ev.of wogglelaw02_lives.mono track_lives_at
def TableOk (t : List (List Int)) : Prop := (2 ≤ t.length ∧ t.length ≤ 5) ∧ (1 ≤ (rd_L3 t 0).length ∧ (rd_L3 t 0).length ≤ 6) ∧ ∀ row ∈ t, StatesOk (rd_L3 t 0).length 4 row
open Classical in
theorem stB_is (row : List Int) (m : Int) : stB row m = decide (StatesOk m 4 row) := Option.some.inj ((stB_f row m).symm.trans (states_f row m 4))
open Classical in
theorem rows_f (t : List (List Int)) : track_rows.f t = some (decide (TableOk t)) := by
  unfold track_rows.f
  by_cases k1 : (t.length : Int) < 2
  · rw [if_pos k1, decide_eq_false (fun h => by have := h.1.1; omega)]
  rw [if_neg k1]
  by_cases k2 : (t.length : Int) > 5
  · rw [if_pos k2, decide_eq_false (fun h => by have := h.1.2; omega)]
  rw [if_neg k2]
  by_cases k3 : ((rd_L3 t 0).length : Int) < 1
  · rw [if_pos k3, decide_eq_false (fun h => by have := h.2.1.1; omega)]
  rw [if_neg k3]
  by_cases k4 : ((rd_L3 t 0).length : Int) > 6
  · rw [if_pos k4, decide_eq_false (fun h => by have := h.2.1.2; omega)]
  rw [if_neg k4]
  congr 1
  rw [Bool.eq_iff_iff, decide_eq_true_iff, Bool.not_eq_true', List.any_eq_false]
  constructor
  · intro h
    refine ⟨⟨by omega, by omega⟩, ⟨by omega, by omega⟩, fun row hr => ?_⟩
    have := h row hr
    unfold badR at this
    rw [stB_is] at this
    simpa using this
  · intro h row hr
    unfold badR
    rw [stB_is, decide_eq_true (h.2.2 row hr)]
    decide
open Classical in
theorem table_ev (t : List (List Int)) (ht : t.length ≤ 9) (hr : ∀ row ∈ t, row.length ≤ 9) : Ev (fun k => woggleref02_Table.f k t) (decide (TableOk t)) := by
  unfold woggleref02_Table.f
  have key : ∀ i, i ≤ t.length → ∀ r : Bool, (r = true ↔ (∀ row ∈ t.drop i, StatesOk (rd_L3 t 0).length 4 row) ∧ (2 ≤ t.length ∧ t.length ≤ 5) ∧ (1 ≤ (rd_L3 t 0).length ∧ (rd_L3 t 0).length ≤ 6)) → Ev (fun k => woggleref02_Table.l0 k t (i : Int)) r := by
    intro i hi
    refine up_from (fun i => ∀ r : Bool, (r = true ↔ (∀ row ∈ t.drop i, StatesOk (rd_L3 t 0).length 4 row) ∧ (2 ≤ t.length ∧ t.length ≤ 5) ∧ (1 ≤ (rd_L3 t 0).length ∧ (rd_L3 t 0).length ≤ 6)) → Ev (fun k => woggleref02_Table.l0 k t (i : Int)) r) i t.length hi ?_ ?_
    · intro r h
      rw [List.drop_length] at h
      simp only [List.not_mem_nil, false_implies, implies_true, true_and] at h
      by_cases c : 2 ≤ t.length ∧ t.length ≤ 5
      · have c' : (2 : Int) ≤ t.length ∧ (t.length : Int) ≤ 5 := by omega
        have e : r = decide ((1 : Int) ≤ (rd_L3 t 0).length ∧ ((rd_L3 t 0).length : Int) ≤ 6) := by
          rw [Bool.eq_iff_iff, h, decide_eq_true_iff]; omega
        rw [e]
        refine Ev.step (f := fun _ => some (decide ((1 : Int) ≤ (rd_L3 t 0).length ∧ ((rd_L3 t 0).length : Int) ≤ 6))) (fun k => ?_) (Ev.now _)
        simp only [woggleref02_Table.l0]
        rw [if_neg (Int.lt_irrefl _), in_f, decide_eq_true c']
        simp only [Option.bind_some, if_true]
        rw [if_pos (show (0 : Int) < t.length by omega), in_f]; rfl
      · have c' : ¬ ((2 : Int) ≤ t.length ∧ (t.length : Int) ≤ 5) := by omega
        have e : r = false := Bool.eq_false_iff.2 fun q => c (h.1 q).1
        rw [e]
        refine Ev.step (f := fun _ => some false) (fun k => ?_) (Ev.now _)
        simp only [woggleref02_Table.l0]
        rw [if_neg (Int.lt_irrefl _), in_f, decide_eq_false c']; rfl
    · intro j h0 h1 ih r h
      have hd : t.drop j = t[j] :: t.drop (j + 1) := List.drop_eq_getElem_cons h1
      rw [hd] at h
      simp only [List.mem_cons, forall_eq_or_imp] at h
      have eR := rd_L3_nat t j h1
      have hl := hr _ (List.getElem_mem h1)
      generalize t[j] = row at h eR hl
      have p1 : (j : Int) < t.length := by omega
      have p2 : (0 : Int) ≤ j := by omega
      have p3 : (0 : Int) < t.length := by omega
      by_cases cl : (row.length : Int) = ((rd_L3 t 0).length : Int)
      rotate_left
      · have e : r = false := Bool.eq_false_iff.2 fun q => cl (h.1 q).1.1.2
        rw [e]
        refine Ev.step (f := fun _ => some false) (fun k => ?_) (Ev.now _)
        simp only [woggleref02_Table.l0]
        rw [if_pos p1, if_pos p2, if_pos p3, eR, if_neg cl]
      have st := rstates_ev (row.length : Int) 4 row (by omega) (by omega) (by omega)
      refine Ev.step (f := fun k => (woggleref02_States.f k (row.length : Int) 4 row).bind fun b => if b = true then woggleref02_Table.l0 k t ((j + 1 : Nat) : Int) else some false) (fun k => ?_) (Ev.bind st ?_)
      · simp only [woggleref02_Table.l0]
        rw [if_pos p1, if_pos p2, if_pos p3, eR, if_pos cl, succ_w j (by omega)]
      · rw [cl]
        by_cases cs : StatesOk (rd_L3 t 0).length 4 row
        · rw [decide_eq_true cs]
          refine Ev.congr (fun k => if_pos rfl) (ih r ?_)
          rw [h]
          exact ⟨fun q => ⟨q.1.2, q.2⟩, fun q => ⟨⟨cs, q.1⟩, q.2⟩⟩
        · have e : r = false := Bool.eq_false_iff.2 fun q => cs (h.1 q).1.1
          rw [decide_eq_false cs, e]
          exact Ev.congr (f := fun _ => some false) (fun k => if_neg (by decide)) (Ev.now _)
  refine key 0 (Nat.zero_le _) _ ?_
  rw [decide_eq_true_iff, List.drop_zero]
  exact ⟨fun h => ⟨h.2.2, h.1, h.2.1⟩, fun h => ⟨h.2.1, h.2.2, h.1⟩⟩
/-- A column. -/
def col (t : List (List Int)) (c : Nat) : List Int := t.map (fun row => rd row c)
theorem col_ok {t : List (List Int)} (ht : TableOk t) (c : Nat) (hc : c < (rd_L3 t 0).length) : StatesOk t.length 4 (col t c) := by
  refine ⟨fun s hs => ?_, by simp [col]⟩
  obtain ⟨row, hr, rfl⟩ := List.mem_map.1 hs
  obtain ⟨h1, h2⟩ := ht.2.2 row hr
  have hl : c < row.length := by omega
  rw [rd_nat row c hl]
  exact h1 _ (List.getElem_mem hl)
/-- The length of the first columns. -/
def lenTo (J : List S67) (t : List (List Int)) : Nat → Int
  | 0 => 0
  | c + 1 => wrap64 (lenTo J t c + (fitTo J (col t c) J.length).2)
theorem col_take (t : List (List Int)) (c i : Nat) (hi : i < t.length) : (col t c).take (i + 1) = (col t c).take i ++ [rd (rd_L3 t i) c] := by
  rw [take_up _ i (by simp [col]; exact hi), rd_L3_nat t i hi]
  simp [col]
section
variable {n : Nat} {J : List S67} {t : List (List Int)}
theorem length_ev (hJ : TreeOk n J) (ht : TableOk t) (hn : t.length = n) : Ev (fun k => track_length.f k J t) (lenTo J t (rd_L3 t 0).length) := by
  unfold track_length.f
  have hw := ht.2.1.2
  have h5 := ht.1.2
  have h2 := ht.1.1
  refine Ev.congr (f := fun k => track_length.l0 k J t 0 ((rd_L3 t 0).length : Int) 0) (fun k => if_pos (by omega)) ?_
  have key := up_ind (fun c => Ev (fun k => track_length.l0 k J t (lenTo J t c) ((rd_L3 t 0).length : Int) (c : Int)) (lenTo J t (rd_L3 t 0).length)) (rd_L3 t 0).length ?_ ?_
  · exact key
  · exact Ev.step (f := fun _ => some (lenTo J t (rd_L3 t 0).length)) (fun k => by simp only [track_length.l0]; rw [if_neg (Int.lt_irrefl _)]) (Ev.now _)
  · intro c hc ih
    have p1 : (c : Int) < (rd_L3 t 0).length := by omega
    have p2 : (0 : Int) ≤ c := by omega
    have inner := up_ind (fun i => Ev (fun k => track_length.l1 k J t (lenTo J t c) (c : Int) ((col t c).take i) ((rd_L3 t 0).length : Int) (c : Int) t (t.length : Int) (i : Int)) (lenTo J t (rd_L3 t 0).length)) t.length ?_ ?_
    · exact Ev.step (f := fun k => track_length.l1 k J t (lenTo J t c) (c : Int) [] ((rd_L3 t 0).length : Int) (c : Int) t (t.length : Int) ((0 : Nat) : Int)) (fun k => by simp only [track_length.l0]; rw [if_pos p1]; rfl) inner
    · have hcl : (col t c).length = t.length := by simp [col]
      refine Ev.step (f := fun k => (track_fitch.f k J (col t c)).bind fun b => track_length.l0 k J t (wrap64 (lenTo J t c + b.2)) ((rd_L3 t 0).length : Int) ((c + 1 : Nat) : Int)) (fun k => ?_) ?_
      · simp only [track_length.l1]
        rw [if_neg (Int.lt_irrefl _), List.take_of_length_le (Nat.le_of_eq hcl), succ_w c (by omega)]
      · exact Ev.bind (fitch_ev hJ (hn ▸ col_ok ht c hc)) ih
    · intro i hi ihi
      have q1 : (i : Int) < t.length := by omega
      have q2 : (0 : Int) ≤ i := by omega
      have hrow := (ht.2.2 _ (List.getElem_mem hi)).2
      have q3 : (c : Int) < ((rd_L3 t i).length : Int) := by rw [rd_L3_nat t i hi]; omega
      have q4 : ((col t c).take i).length < 17592186044416 := by rw [List.length_take]; omega
      refine Ev.step (fun k => ?_) ihi
      simp only [track_length.l1]
      rw [if_pos q1, if_pos q2, if_pos q1, if_pos p2, if_pos q3, if_pos q4, succ_w i (by omega), col_take t c i hi]
theorem rlength_ev (hJ : TreeOk n J) (ht : TableOk t) (hn : t.length = n) : Ev (fun k => woggleref02_Length.f k n J t) (lenTo J t (rd_L3 t 0).length) := by
  unfold woggleref02_Length.f
  have hw := ht.2.1.2
  have h5 := ht.1.2
  have h2 := ht.1.1
  have p0 : (0 : Int) < t.length := by omega
  have key := up_ind (fun c => Ev (fun k => woggleref02_Length.l0 k n J t (lenTo J t c) (c : Int)) (lenTo J t (rd_L3 t 0).length)) (rd_L3 t 0).length ?_ ?_
  · exact key
  · exact Ev.step (f := fun _ => some (lenTo J t (rd_L3 t 0).length)) (fun k => by simp only [woggleref02_Length.l0]; rw [if_pos p0, if_neg (Int.lt_irrefl _)]) (Ev.now _)
  · intro c hc ih
    have p1 : (c : Int) < (rd_L3 t 0).length := by omega
    have p2 : (0 : Int) ≤ c := by omega
    have inner := up_ind (fun i => Ev (fun k => woggleref02_Length.l1 k n J t (lenTo J t c) (c : Int) ((col t c).take i) (i : Int)) (lenTo J t (rd_L3 t 0).length)) t.length ?_ ?_
    · exact Ev.step (f := fun k => woggleref02_Length.l1 k n J t (lenTo J t c) (c : Int) [] ((0 : Nat) : Int)) (fun k => by simp only [woggleref02_Length.l0]; rw [if_pos p0, if_pos p1]; rfl) inner
    · have hcl : (col t c).length = t.length := by simp [col]
      refine Ev.step (f := fun k => (woggleref02_Fitch.f k n J (col t c)).bind fun b => woggleref02_Length.l0 k n J t (wrap64 (lenTo J t c + b.2)) ((c + 1 : Nat) : Int)) (fun k => ?_) ?_
      · simp only [woggleref02_Length.l1]
        rw [if_neg (show ¬ (t.length : Int) < n by omega), List.take_of_length_le (Nat.le_of_eq hcl), succ_w c (by omega)]
      · exact Ev.bind (rfitch_ev hJ (hn ▸ col_ok ht c hc)) ih
    · intro i hi ihi
      have q0 : (i : Int) < n := by omega
      have q1 : (i : Int) < t.length := by omega
      have q2 : (0 : Int) ≤ i := by omega
      have hrow := (ht.2.2 _ (List.getElem_mem hi)).2
      have q3 : (c : Int) < ((rd_L3 t i).length : Int) := by rw [rd_L3_nat t i hi]; omega
      have q4 : ((col t c).take i).length < 17592186044416 := by rw [List.length_take]; omega
      refine Ev.step (fun k => ?_) ihi
      simp only [woggleref02_Length.l1]
      rw [if_pos q0, if_pos q2, if_pos q1, if_pos p2, if_pos q3, if_pos q4, succ_w i (by omega), col_take t c i hi]
end
theorem lengths_bad (n : Int) (J : List S67) (t : List (List Int)) (e : Int) (he : e ≠ 0) : Ev (fun k => wogglelaw02_TrackLengths.j0 k n J t 0 e e) true := by
  refine Ev.step (f := fun k => (wogglelaw02_lives.f k).bind fun t => some t) (fun k => ?_) (Ev.bind livesG_ev (Ev.now _))
  simp only [wogglelaw02_TrackLengths.j0]
  rw [if_neg he, if_pos trivial, if_pos trivial]
theorem TrackLengths : wogglelaw02_TrackLengths.Pure := by
  intro a0 x0 x1 h0 g0 g1
  apply Ev.rounds
  unfold wogglelaw02_TrackLengths.f
  rw [few_f a0 x0 g0.1]
  have hJ : (x0.take 9).length ≤ 9 := List.length_take_le _ _
  have hT : ((x1.take 9).map (fun x => x.take 9)).length ≤ 9 := by rw [List.length_map]; exact List.length_take_le _ _
  have hR : ∀ row ∈ (x1.take 9).map (fun x => x.take 9), row.length ≤ 9 := by
    intro row hr
    obtain ⟨y, _, rfl⟩ := List.mem_map.1 hr
    exact List.length_take_le _ _
  have hr := rows_ev x1 ⟨g1.1, fun x hx => (g1.2 x hx).1⟩
  generalize x0.take 9 = J at *
  generalize (x1.take 9).map (fun x => x.take 9) = t at *
  simp only [Option.bind_some]
  refine Ev.bind hr ?_
  have tr := tree_ev a0 J (by omega)
  have rtr := rtree_ev a0 J
  by_cases c0 : TreeOk a0 J
  rotate_left
  · rw [@decide_eq_false _ (_) c0] at tr rtr
    have hL : Ev (fun k => track_Length.f k a0 J t) (0, 1) := by
      unfold track_Length.f
      exact Ev.bind tr (Ev.congr (f := fun _ => some (0, 1)) (fun k => if_neg (by decide)) (Ev.now _))
    refine Ev.bind hL (Ev.bind rtr ?_)
    exact Ev.congr (f := fun k => wogglelaw02_TrackLengths.j0 k a0 J t 0 1 1) (fun k => if_neg (by decide)) (lengths_bad a0 J t 1 (by decide))
  rw [@decide_eq_true _ (_) c0] at tr rtr
  have tb := table_ev t hT hR
  have rf := rows_f t
  by_cases c1 : TableOk t
  rotate_left
  · rw [@decide_eq_false _ (_) c1] at tb rf
    have hL : Ev (fun k => track_Length.f k a0 J t) (0, 2) := by
      unfold track_Length.f
      rw [rf]
      exact Ev.bind tr (Ev.congr (f := fun _ => some (0, 2)) (fun k => by rw [if_pos rfl]; rfl) (Ev.now _))
    refine Ev.bind hL (Ev.bind rtr ?_)
    refine Ev.congr (f := fun k => (woggleref02_Table.f k t).bind fun b => if b = true then if (t.length : Int) = a0 then wogglelaw02_TrackLengths.j0 k a0 J t 0 2 0 else wogglelaw02_TrackLengths.j0 k a0 J t 0 2 2 else wogglelaw02_TrackLengths.j0 k a0 J t 0 2 2) (fun k => if_pos rfl) (Ev.bind tb ?_)
    exact Ev.congr (f := fun k => wogglelaw02_TrackLengths.j0 k a0 J t 0 2 2) (fun k => if_neg (by decide)) (lengths_bad a0 J t 2 (by decide))
  rw [@decide_eq_true _ (_) c1] at tb rf
  by_cases c2 : (t.length : Int) = a0
  · subst c2
    have hL : Ev (fun k => track_Length.f k (t.length : Int) J t) (lenTo J t (rd_L3 t 0).length, 0) := by
      unfold track_Length.f
      rw [rf]
      refine Ev.bind tr (Ev.congr (f := fun k => (track_length.f k J t).bind fun v => some (v, 0)) (fun k => ?_) (Ev.bind (length_ev c0 c1 rfl) (Ev.now _)))
      rw [if_pos rfl]
      simp only [Option.bind_some, if_true]
    refine Ev.bind hL (Ev.bind rtr ?_)
    refine Ev.congr (f := fun k => (woggleref02_Table.f k t).bind fun b => if b = true then if (t.length : Int) = (t.length : Int) then wogglelaw02_TrackLengths.j0 k t.length J t (lenTo J t (rd_L3 t 0).length) 0 0 else wogglelaw02_TrackLengths.j0 k t.length J t (lenTo J t (rd_L3 t 0).length) 0 2 else wogglelaw02_TrackLengths.j0 k t.length J t (lenTo J t (rd_L3 t 0).length) 0 2) (fun k => if_pos rfl) (Ev.bind tb ?_)
    refine Ev.congr (f := fun k => wogglelaw02_TrackLengths.j0 k t.length J t (lenTo J t (rd_L3 t 0).length) 0 0) (fun k => by rw [if_pos rfl, if_pos rfl]) ?_
    refine Ev.step (f := fun k => (woggleref02_Length.f k t.length J t).bind fun v => if lenTo J t (rd_L3 t 0).length = v then (wogglelaw02_lives.f k).bind fun t => some t else some false) (fun k => by simp only [wogglelaw02_TrackLengths.j0, if_true]) (Ev.bind (rlength_ev c0 c1 rfl) ?_)
    exact Ev.congr (f := fun k => (wogglelaw02_lives.f k).bind fun t => some t) (fun k => if_pos rfl) (Ev.bind livesG_ev (Ev.now _))
  · have hL : Ev (fun k => track_Length.f k a0 J t) (0, 2) := by
      unfold track_Length.f
      rw [rf]
      refine Ev.bind tr (Ev.congr (f := fun _ => some (0, 2)) (fun k => ?_) (Ev.now _))
      rw [if_pos rfl]
      simp only [Option.bind_some, if_true]
      rw [if_neg c2]
    refine Ev.bind hL (Ev.bind rtr ?_)
    refine Ev.congr (f := fun k => (woggleref02_Table.f k t).bind fun b => if b = true then if (t.length : Int) = a0 then wogglelaw02_TrackLengths.j0 k a0 J t 0 2 0 else wogglelaw02_TrackLengths.j0 k a0 J t 0 2 2 else wogglelaw02_TrackLengths.j0 k a0 J t 0 2 2) (fun k => if_pos rfl) (Ev.bind tb ?_)
    exact Ev.congr (f := fun k => wogglelaw02_TrackLengths.j0 k a0 J t 0 2 2) (fun k => by rw [if_pos rfl, if_neg c2]) (lengths_bad a0 J t 2 (by decide))

end Go.Proofs.Ytcphmeeighhdjaa.Pure
