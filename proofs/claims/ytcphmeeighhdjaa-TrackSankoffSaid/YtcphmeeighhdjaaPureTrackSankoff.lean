/- For all arguments derived from arbitrary numbers, the cost of Label is Least, and no labeling costs less: in plain numbers and lists. -/
import Derived.Test.YtcphmeeighhdjaaPF13
import Derived.Test.YtcphmeeighhdjaaRQ
namespace Go.Proofs.Ytcphmeeighhdjaa.Pure
open Go Go.Proofs Go.RowKit Go.Proofs.Ytcphmeeighhdjaa.P Go.Proofs.YtcphmeeighhdjaaW.PrintWords Go.Proofs.YtcphmeeighhdjaaW.PrintLast
set_option linter.unusedVariables false

theorem livesS_ev : Ev (fun k => wogglelaw02_lives.f k) true := Ev.of wogglelaw02_lives.mono track_lives_at
theorem TrackSankoff : wogglelaw02_TrackSankoff.Pure := by
  intro a0 a1 x0 x1 x2 y h0 h1 g0 g1 g2 g3
  apply Ev.rounds
  obtain ⟨n, J, hm, ht⟩ := made_ev a0 h0 x0 g0
  obtain ⟨k, hk, k1, k4⟩ := k_of a1 h1
  have hn8 : n ≤ 8 := by have := ht.2.1; omega
  have hn2 : 2 ≤ n := by have := ht.1; omega
  have hJ := ht.2.2.1
  obtain ⟨C, hCe, hCl, hc⟩ := costs_ev k k1 k4 x1 g1
  subst hCl
  obtain ⟨L, hl, hs⟩ := states_ev n C.length x2 g2 (by omega) k1 (by omega)
  obtain ⟨F, hF, hFs⟩ := states_ev J.length C.length y g3 (by omega) k1 (by omega)
  have LM := least_min (F := none_ J) ht hc hs (fun i hi => by rw [none_free J i hi]; omega)
  have hpos := LM.2.2.1
  have hw : wrap64 ((n : Int) - 1) = ((J.length : Nat) : Int) := (w64 _ (by omega) (by omega)).trans (by omega)
  have W := Aside0.mk hw
  clear hw
  have st := rstates_ev (J.length : Int) (C.length : Int) (labelOf J C L) (by have := (label_found ht hc hs).len; omega) (by omega) (by omega)
  rw [@decide_eq_true _ (_) (label_states ht hc hs)] at st
  unfold wogglelaw02_TrackSankoff.f
  rw [hk]
  refine Ev.bind hm (Ev.bind hCe (Ev.bind hl (Ev.bind (leastQ_ev ht hc hs) (Ev.bind (labelQ_ev ht hc hs) (Ev.bind (waysQ_ev ht hc hs) ?_)))))
  refine Ev.congr (f := fun q => (woggleref02_States.f q (J.length : Int) (C.length : Int) (labelOf J C L)).bind fun t => if t = true then if (P.leastOf C.length C (none_ J) J L).2 < 1 then wogglelaw02_TrackSankoff.j0 q y n J C.length C L (bestOf J C L) (labelOf J C L) true else (wogglelaw02_lives.f q).bind fun t => wogglelaw02_TrackSankoff.j0 q y n J C.length C L (bestOf J C L) (labelOf J C L) (!t) else wogglelaw02_TrackSankoff.j0 q y n J C.length C L (bestOf J C L) (labelOf J C L) true) (fun q => by rw [if_pos rfl, if_pos rfl, if_pos rfl, W.out]) (Ev.bind st ?_)
  refine Ev.congr (f := fun q => (wogglelaw02_lives.f q).bind fun t => wogglelaw02_TrackSankoff.j0 q y n J C.length C L (bestOf J C L) (labelOf J C L) (!t)) (fun q => by rw [if_pos rfl, if_neg (by omega)]) (Ev.bind livesS_ev ?_)
  have c1 := Cost_ev ht hc hs (labelOf J C L) (label_states ht hc hs)
  rw [(label_opt ht hc hs).2] at c1
  have c2 := Cost_ev ht hc hs F hFs
  have hlF : F.length = J.length := by have := hFs.2; omega
  have hge : totalOf n J C L (xOf F) ≥ bestOf J C L := best_le ht hc hs (xOf F) (fun i hi => by
    have := hFs.1 _ (List.getElem_mem (show i < F.length by omega))
    unfold xOf
    rw [rd_nat F i (by omega)]
    omega)
  refine Ev.step (f := fun q => (track_Cost.f q n J C L (labelOf J C L)).bind fun b => (wogglelaw02_states.f q (J.length : Int) C.length y).bind fun t => (track_Cost.f q n J C L t).bind fun d => if b.1 = bestOf J C L then if b.2 = 0 then if d.1 ≥ bestOf J C L then some (d.2 == 0) else some false else some false else some false) (fun q => by simp only [wogglelaw02_TrackSankoff.j0]; rw [if_neg (by decide), W.out]) (Ev.bind c1 (Ev.bind hF (Ev.bind c2 ?_)))
  exact Ev.congr (f := fun _ => some true) (fun q => by rw [if_pos rfl, if_pos rfl, if_pos hge]; rfl) (Ev.now _)

end Go.Proofs.Ytcphmeeighhdjaa.Pure
