/- For all trees, costs and lists, Cost answers the cost of the labeling, or the error: in plain numbers and lists. -/
import Derived.Test.YtcphmeeighhdjaaPF11
import Derived.Test.YtcphmeeighhdjaaRP
namespace Go.Proofs.Ytcphmeeighhdjaa.Pure
open Go Go.Proofs Go.RowKit Go.Proofs.Ytcphmeeighhdjaa.P Go.Proofs.YtcphmeeighhdjaaW.PrintWords Go.Proofs.YtcphmeeighhdjaaW.PrintLast
set_option linter.unusedVariables false

theorem livesC_ev : Ev (fun k => wogglelaw02_lives.f k) true := Ev.of wogglelaw02_lives.mono track_lives_at
theorem costs_bad (n : Int) (J : List S67) (C : List (List Int)) (L F : List Int) (e : Int) (he : e ≠ 0) : Ev (fun k => wogglelaw02_TrackCosts.j1 k n J C L F 0 e e) true := by
  refine Ev.step (f := fun k => (wogglelaw02_lives.f k).bind fun t => some t) (fun k => ?_) (Ev.bind livesC_ev (Ev.now _))
  simp only [wogglelaw02_TrackCosts.j1]
  rw [if_neg he, if_pos trivial, if_pos trivial]
theorem TrackCosts : wogglelaw02_TrackCosts.Pure := by
  intro a0 x0 x1 x2 x3 h0 g0 g1 g2 g3
  apply Ev.rounds
  unfold wogglelaw02_TrackCosts.f
  rw [few_f a0 x0 g0.1, cut_f x2 g2.1, cut_f x3 g3.1]
  have hJ : (x0.take 9).length ≤ 9 := List.length_take_le _ _
  have hL : (x2.take 9).length ≤ 9 := List.length_take_le _ _
  have hF : (x3.take 9).length ≤ 9 := List.length_take_le _ _
  have hC : ((x1.take 9).map (fun x => x.take 9)).length ≤ 9 := by rw [List.length_map]; exact List.length_take_le _ _
  have hr := rows_ev x1 ⟨g1.1, fun x hx => (g1.2 x hx).1⟩
  generalize x0.take 9 = J at *
  generalize x2.take 9 = L at *
  generalize x3.take 9 = F at *
  generalize (x1.take 9).map (fun x => x.take 9) = C at *
  simp only [Option.bind_some]
  refine Ev.bind hr ?_
  have why := why_ev a0 J C L (by omega) (by omega)
  by_cases c : errOf a0 J C L = 0
  · rw [c] at why
    obtain ⟨ht, hc, hs⟩ := errOf_zero c
    have t1 := ht.1
    have t2 := ht.2.1
    have t3 := ht.2.2.1
    have k1 := hc.2.1
    have k4 := hc.2.2
    obtain ⟨n, rfl⟩ : ∃ n : Nat, a0 = n := ⟨a0.toNat, by omega⟩
    have hw : wrap64 ((n : Int) - 1) = ((J.length : Nat) : Int) := (w64 _ (by omega) (by omega)).trans (by omega)
    have st := rstates_ev (J.length : Int) (C.length : Int) F (by omega) (by clear hw; omega) (by clear hw; omega)
    by_cases cf : StatesOk J.length C.length F
    · rw [@decide_eq_true _ (_) cf] at st
      refine Ev.bind (Cost_ev ht hc hs F cf) (Ev.bind why ?_)
      refine Ev.congr (f := fun k => (woggleref02_States.f k (J.length : Int) (C.length : Int) F).bind fun t => wogglelaw02_TrackCosts.j0 k n J C L F (totalOf n J C L (xOf F)) 0 0 (!t)) (fun k => by rw [if_pos rfl, hw]) (Ev.bind st ?_)
      refine Ev.step (f := fun k => wogglelaw02_TrackCosts.j1 k n J C L F (totalOf n J C L (xOf F)) 0 0) (fun k => by simp only [wogglelaw02_TrackCosts.j0]; rw [if_neg (by decide)]) ?_
      have hlF : F.length = J.length := by have := cf.2; omega
      have ce := cost_ev ht hc hs F hlF (fun i hi => by rw [rd_nat F i (by omega)]; exact cf.1 _ (List.getElem_mem _))
      refine Ev.step (f := fun k => (woggleref02_Cost.f k n J C L F).bind fun v => if totalOf n J C L (xOf F) = v then (wogglelaw02_lives.f k).bind fun t => some t else some false) (fun k => by simp only [wogglelaw02_TrackCosts.j1, if_true]) (Ev.bind ce ?_)
      exact Ev.congr (f := fun k => (wogglelaw02_lives.f k).bind fun t => some t) (fun k => if_pos rfl) (Ev.bind livesC_ev (Ev.now _))
    · rw [@decide_eq_false _ (_) cf] at st
      refine Ev.bind (Cost_ev2 ht hc hs F cf) (Ev.bind why ?_)
      refine Ev.congr (f := fun k => (woggleref02_States.f k (J.length : Int) (C.length : Int) F).bind fun t => wogglelaw02_TrackCosts.j0 k n J C L F 0 2 0 (!t)) (fun k => by rw [if_pos rfl, hw]) (Ev.bind st ?_)
      exact Ev.step (f := fun k => wogglelaw02_TrackCosts.j1 k n J C L F 0 2 2) (fun k => by simp only [wogglelaw02_TrackCosts.j0]; rw [if_pos (by decide)]) (costs_bad n J C L F 2 (by decide))
  · refine Ev.bind (Cost_bad (by omega) c) (Ev.bind why ?_)
    refine Ev.congr (f := fun k => wogglelaw02_TrackCosts.j0 k a0 J C L F 0 (errOf a0 J C L) (errOf a0 J C L) false) (fun k => if_neg c) ?_
    exact Ev.step (f := fun k => wogglelaw02_TrackCosts.j1 k a0 J C L F 0 (errOf a0 J C L) (errOf a0 J C L)) (fun k => by simp only [wogglelaw02_TrackCosts.j0]; rw [if_neg (by decide)]) (costs_bad a0 J C L F _ c)

end Go.Proofs.Ytcphmeeighhdjaa.Pure
