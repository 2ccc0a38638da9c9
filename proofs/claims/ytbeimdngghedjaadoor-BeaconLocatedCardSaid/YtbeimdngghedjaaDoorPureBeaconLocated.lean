/- Locate finds each vertex by its code, and it alone where the marks resolve: for all graphs and marks that are derived. -/
import Derived.Test.YtbeimdngghedjaaDoorPF12
import Derived.Test.YtbeimdngghedjaaDoorPL
namespace Go.Proofs.YtbeimdngghedjaaDoor.Pure
open Go Go.Proofs Go.RowKit Go.Proofs.YtbeimdngghedjaaDoor.P Go.Proofs.YtbeimdngghedjaaDoorW.PrintWords Go.Proofs.YtbeimdngghedjaaDoorW.PrintLast
set_option linter.unusedVariables false
theorem codes_rd {n : Nat} {M : Mt} {m : List Int} {i : Nat} (hi : i < n) : rd_L5 (codesL n M m) (i : Int) = codeL M i m := by unfold rd_L5 codesL; simp [hi]
theorem located_l0 {n : Nat} {l : List S47} {m : List Int} (hr : readOk (n : Int) l = true) (hn : n ≤ 10) (h : Ris n 0 m) :
    Ev (fun k => wogglelaw07_BeaconLocated.l0 k n l m (codesL n (finalM n l) m) (resP n (finalM n l) m) 0) true := by
  refine up_ind (fun i => Ev (fun k => wogglelaw07_BeaconLocated.l0 k n l m (codesL n (finalM n l) m) (resP n (finalM n l) m) (i : Int)) true) n ?_ ?_
  · refine Ev.step (f := fun _ => some true) (fun k => ?_) (Ev.now _)
    simp only [wogglelaw07_BeaconLocated.l0]
    rw [if_neg (Int.lt_irrefl _)]
  · intro i hi ih
    have hw := withCode_ris (n := n) (m := m) (finalM n l) (codeL (finalM n l) i m)
    obtain ⟨t, ht, hbits⟩ := bits_ev hn hw
    have hb := hbits i (withCode_mem.2 ⟨hi, rfl⟩)
    refine Ev.step (f := fun k => (beacon_Locate.f k n l m (codeL (finalM n l) i m)).bind fun bt560 => (if bt560.2 = 0 then ((woggleref01_Rising.f k n bt560.1).bind fun t564 => (if t564 = true then ((woggleref01_Bits.f k bt560.1).bind fun t565 => (if (Go.bits .and .i64 (shr .i64 t565 i) 1) = 0 then (some false) else (if (resP n (finalM n l) m) = true then (if (bt560.1.length : Int) = 1 then (wogglelaw07_BeaconLocated.l0 k n l m (codesL n (finalM n l) m) (resP n (finalM n l) m) ((i + 1 : Nat) : Int)) else (some false)) else (wogglelaw07_BeaconLocated.l0 k n l m (codesL n (finalM n l) m) (resP n (finalM n l) m) ((i + 1 : Nat) : Int))))) else (some false))) else (some false))) (fun k => ?_) ?_
    · simp only [wogglelaw07_BeaconLocated.l0]
      rw [if_pos (by omega), if_pos (by omega), if_pos (by simp [codesL]; omega), codes_rd hi, succ_w i (by omega)]
    · refine Ev.bind (locate_ev hr hn h (codeL_len i)) ?_
      simp only [if_true]
      refine Ev.bind (rising_ev hn hw).1 ?_
      simp only [if_true]
      refine Ev.bind ht ?_
      refine ev_neg hb ?_
      by_cases hres : resP n (finalM n l) m = true
      · refine ev_pos hres (ev_pos ?_ ih)
        rw [withCode_one hres hi]; rfl
      · exact ev_neg hres ih
theorem BeaconLocated : wogglelaw07_BeaconLocated.Pure := by
  intro l0 a1 hl0 ha1
  obtain ⟨N, l, hm, hev⟩ := made_ev (x := l0) (fun e he => u8_pair (hl0.2 e he))
  obtain ⟨m, hmr, hmev⟩ := marks_ev hm.n10 ha1
  have hr := hm.readOk
  have hn := hm.n10
  have key : Ev (fun k => wogglelaw07_BeaconLocated.f k l0 a1) true := by
    unfold wogglelaw07_BeaconLocated.f
    refine Ev.bind hev (Ev.bind hmev (Ev.bind (codes_ev hr hn hmr) (Ev.bind (resolves_ev hr hn hmr) ?_)))
    simp only [if_true]
    refine ev_pos (by simp [codesL]) (Ev.bind lives_ev ?_)
    refine Ev.step (fun k => ?_) (located_l0 hr hn hmr)
    simp only [wogglelaw07_BeaconLocated.j0]
    rw [if_neg (by decide)]
  obtain ⟨K, h⟩ := key
  exact ⟨K, h K (Nat.le_refl _)⟩
end Go.Proofs.YtbeimdngghedjaaDoor.Pure
