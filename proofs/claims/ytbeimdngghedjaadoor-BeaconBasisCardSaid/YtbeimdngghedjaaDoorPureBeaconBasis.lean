/- Basis resolves and Double doubly resolves, and no marks that do are fewer: for all graphs and marks that are derived. -/
import Derived.Test.YtbeimdngghedjaaDoorPF7
import Derived.Test.YtbeimdngghedjaaDoorCD
namespace Go.Proofs.YtbeimdngghedjaaDoor.Pure
open Go Go.Proofs Go.RowKit Go.Proofs.YtbeimdngghedjaaDoor.P Go.Proofs.YtbeimdngghedjaaDoorW.PrintWords Go.Proofs.YtbeimdngghedjaaDoorW.PrintLast
set_option linter.unusedVariables false
theorem BeaconBasis : wogglelaw07_BeaconBasis.Pure := by
  intro l0 a1 hl0 ha1
  obtain ⟨N, l, hm, hev⟩ := made_ev (x := l0) (fun e he => u8_pair (hl0.2 e he))
  have hr := hm.readOk
  have hn := hm.n10
  have hM := met_of hr
  obtain ⟨p, hp, hp1, hp2, hp3⟩ := basis_ex hr
  obtain ⟨q, hq, hq1, hq2, hq3⟩ := double_ex hr
  obtain ⟨m, hmr, hmev⟩ := marks_ev hn ha1
  obtain ⟨L, hL, hD⟩ := refdist_ev hm
  have hdq := refdbl_ev hM (ris_mk hn hq2)
  have hdm := refdbl_ev hM (ris_mk hn hmr)
  have hdec : dblP N (finalM N l) m = true → decide ((m.length : Int) ≥ (q.length : Int)) = true := fun h => by
    have := hq3 m hmr h
    simpa using this
  have hj1 : Ev (fun k => wogglelaw07_BeaconBasis.j1 k a1 N l p q (rowsA N (finalM N l)) false) true := by
    refine Ev.step (f := fun k => (wogglelaw07_marks.f k N a1).bind fun t438 => ((beacon_Resolves.f k N l t438).bind fun bt441 => (if bt441.2 = 0 then (if bt441.1 = true then (if (t438.length : Int) ≥ (p.length : Int) then ((woggleref07_Doubly.f k (rowsA N (finalM N l)) t438).bind fun t443 => (if t443 = true then (some (decide ((t438.length : Int) ≥ (q.length : Int)))) else (some true))) else (some false)) else ((woggleref07_Doubly.f k (rowsA N (finalM N l)) t438).bind fun t444 => (if t444 = true then (some (decide ((t438.length : Int) ≥ (q.length : Int)))) else (some true)))) else (some false)))) (fun k => ?_) ?_
    · simp only [wogglelaw07_BeaconBasis.j1]
      rw [if_neg (by decide)]
    · refine Ev.bind hmev (Ev.bind (resolves_ev hr hn hmr) ?_)
      simp only [if_true]
      have fin : Ev (fun k => (woggleref07_Doubly.f k (rowsA N (finalM N l)) m).bind fun t443 => (if t443 = true then (some (decide ((m.length : Int) ≥ (q.length : Int)))) else (some true))) true := by
        refine Ev.bind hdm ?_
        by_cases h2 : dblP N (finalM N l) m = true
        · refine ev_pos h2 ?_
          rw [hdec h2]; exact Ev.now _
        · exact ev_neg h2 (Ev.now _)
      by_cases h1 : resP N (finalM N l) m = true
      · have hle := hp3 m hmr h1
        exact ev_pos h1 (ev_pos (by omega) fin)
      · exact ev_neg h1 fin
  have hj0 : Ev (fun k => wogglelaw07_BeaconBasis.j0 k a1 N l p q false) true := by
    refine Ev.step (f := fun k => (woggleref06_Near.f k N l).bind fun t429 => ((woggleref07_Distances.f k t429).bind fun t432 => ((beacon_Resolves.f k N l p).bind fun bt435 => (if bt435.1 = true then (if bt435.2 = 0 then ((woggleref07_Doubly.f k t432 q).bind fun t437 => (wogglelaw07_BeaconBasis.j1 k a1 N l p q t432 (!t437))) else (wogglelaw07_BeaconBasis.j1 k a1 N l p q t432 true)) else (wogglelaw07_BeaconBasis.j1 k a1 N l p q t432 true))))) (fun k => ?_) ?_
    · simp only [wogglelaw07_BeaconBasis.j0]
      rw [if_neg (by decide)]
    · refine Ev.bind hL (Ev.bind hD (Ev.bind (resolves_ev hr hn hp2) ?_))
      simp only [if_true]
      refine ev_pos hp1 (Ev.bind hdq ?_)
      rw [hq1]; exact hj1
  have key : Ev (fun k => wogglelaw07_BeaconBasis.f k l0 a1) true := by
    unfold wogglelaw07_BeaconBasis.f
    refine Ev.bind hev ?_
    simp only [hp, hq, Option.bind_some, if_true]
    refine Ev.bind (rising_ev hn hp2).1 ?_
    simp only [if_true]
    refine Ev.bind (rising_ev hn hq2).1 ?_
    simp only [if_true]
    exact Ev.bind lives_ev hj0
  obtain ⟨K, h⟩ := key
  exact ⟨K, h K (Nat.le_refl _)⟩
end Go.Proofs.YtbeimdngghedjaaDoor.Pure
