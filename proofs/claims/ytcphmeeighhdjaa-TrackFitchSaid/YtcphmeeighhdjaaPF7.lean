-- written by a program of this session
import Derived.Test.YtcphmeeighhdjaaPK
import Derived.Test.YtcphmeeighhdjaaPF19
import Derived.Test.YtcphmeeighhdjaaPF22
import Derived.Test.YtcphmeeighhdjaaPF22d
import Derived.Test.YtcphmeeighhdjaaPF29
import Derived.Test.YtcphmeeighhdjaaPF35
import Derived.Test.YtcphmeeighhdjaaPF36
import Derived.Test.YtcphmeeighhdjaaPF37
import Derived.Test.YtcphmeeighhdjaaGH
import Derived.Test.YtcphmeeighhdjaaGS
import Derived.Test.YtcphmeeighhdjaaGT
namespace Go.Proofs.Ytcphmeeighhdjaa.P
open Go.RowKit Go.Proofs.YtcphmeeighhdjaaW.PrintWords Go.Proofs.YtcphmeeighhdjaaW.PrintLast Go.Proofs.YtcphmeeighhdjaaW.PrintMore
attribute [local go_sem] max2_int min2_int max_two min_two max_three min_three max_four min_four   -- for this text's walks alone
set_option linter.unusedVariables false
set_option linter.unusedSimpArgs false

/-! ### wogglelaw02_TrackFitch: function 7 -/
mutual
def wogglelaw02_TrackFitch.j0 : Nat → Int → List (S67) → Int → List Int → List (List Int) → Int → Bool → Option (Bool)
  | 0, _, _, _, _, _, _, _ => none
  | k + 1, x3, x4, x5, x6, x7, x10, x73 => if x73 = true then (some false) else ((woggleref02_Unit.f k x5).bind fun t483 => ((woggleref02_Nodes.f k x3 x4 t483 x6).bind fun t486 => (if 0 ≤ (wrap64 ((t486.length : Int) - 1)) then (if (wrap64 ((t486.length : Int) - 1)) < (t486.length : Int) then (wogglelaw02_TrackFitch.l0 k x3 x5 x7 x10 (([] : List Int)) 0 ((rd_T63 t486 (wrap64 ((t486.length : Int) - 1))).f0) ((rd_T63 t486 (wrap64 ((t486.length : Int) - 1))).f1)) else (none)) else (none))))
def wogglelaw02_TrackFitch.l0 : Nat → Int → Int → List (List Int) → Int → List Int → Int → List Int → List Int → Option (Bool)
  | 0, _, _, _, _, _, _, _, _ => none
  | k + 1, x3, x5, x7, x10, x14, x15, x494000, x494001 => if x15 < x5 then (if 0 ≤ x15 then (if x15 < (x494000.length : Int) then (if (rd x494000 x15) = x10 then (if x14.length < 17592186044416 then (wogglelaw02_TrackFitch.l0 k x3 x5 x7 x10 (x14 ++ [x15]) (wrap64 (x15 + 1)) x494000 x494001) else (none)) else (wogglelaw02_TrackFitch.l0 k x3 x5 x7 x10 x14 (wrap64 (x15 + 1)) x494000 x494001)) else (none)) else (none)) else (if 0 ≤ (wrap64 (x3 - 2)) then (if (wrap64 (x3 - 2)) < (x7.length : Int) then ((woggleref01_Same.f k (rd_L3 x7 (wrap64 (x3 - 2))) x14).bind fun t499 => (some t499)) else (none)) else (none))
end
def wogglelaw02_TrackFitch.f (k : Nat) (a0_0 : Int) (a0_1 : Int) (l0_2 : List Int) (l0_3 : List Int) (l0_4 : List Int) : Option (Bool) := (wogglelaw02_made.f k a0_0 l0_2).bind fun bt465 => ((wogglelaw02_states.f k bt465.1 (wrap64 ((Int.tmod (wrap64 (a0_1)) 4) + 1)) l0_4).bind fun t469 => ((track_Fitch.f k bt465.1 bt465.2 (wrap64 ((Int.tmod (wrap64 (a0_1)) 4) + 1)) t469).bind fun bt472 => ((woggleref02_Unit.f k (wrap64 ((Int.tmod (wrap64 (a0_1)) 4) + 1))).bind fun t477 => ((track_Least.f k bt465.1 bt465.2 t477 t469).bind fun bt480 => (if bt472.2.2 = 0 then (if bt480.2 = 0 then (if bt480.1 = bt472.2.1 then (if (bt472.1.length : Int) = (wrap64 (bt465.1 - 1)) then ((wogglelaw02_lives.f k).bind fun t482 => (wogglelaw02_TrackFitch.j0 k bt465.1 bt465.2 (wrap64 ((Int.tmod (wrap64 (a0_1)) 4) + 1)) t469 bt472.1 bt480.1 (!t482))) else (wogglelaw02_TrackFitch.j0 k bt465.1 bt465.2 (wrap64 ((Int.tmod (wrap64 (a0_1)) 4) + 1)) t469 bt472.1 bt480.1 true)) else (wogglelaw02_TrackFitch.j0 k bt465.1 bt465.2 (wrap64 ((Int.tmod (wrap64 (a0_1)) 4) + 1)) t469 bt472.1 bt480.1 true)) else (wogglelaw02_TrackFitch.j0 k bt465.1 bt465.2 (wrap64 ((Int.tmod (wrap64 (a0_1)) 4) + 1)) t469 bt472.1 bt480.1 true)) else (wogglelaw02_TrackFitch.j0 k bt465.1 bt465.2 (wrap64 ((Int.tmod (wrap64 (a0_1)) 4) + 1)) t469 bt472.1 bt480.1 true))))))
theorem wogglelaw02_TrackFitch.mono_l : ∀ k, (∀ y0 y1 y2 y3 y4 y5 y6, LeO (wogglelaw02_TrackFitch.j0 k y0 y1 y2 y3 y4 y5 y6) (wogglelaw02_TrackFitch.j0 (k + 1) y0 y1 y2 y3 y4 y5 y6)) ∧ (∀ y0 y1 y2 y3 y4 y5 y6 y7, LeO (wogglelaw02_TrackFitch.l0 k y0 y1 y2 y3 y4 y5 y6 y7) (wogglelaw02_TrackFitch.l0 (k + 1) y0 y1 y2 y3 y4 y5 y6 y7))
  | 0 => ⟨fun _ _ _ _ _ _ _ r h => by simp [wogglelaw02_TrackFitch.j0] at h, fun _ _ _ _ _ _ _ _ r h => by simp [wogglelaw02_TrackFitch.l0] at h⟩
  | k + 1 => by
    obtain ⟨ih0, ih1⟩ := wogglelaw02_TrackFitch.mono_l k
    refine ⟨?_, ?_⟩
    · intro y0 y1 y2 y3 y4 y5 y6
      unfold wogglelaw02_TrackFitch.j0
      repeat' first
      | (with_reducible exact ih0 _ _ _ _ _ _ _)
      | (with_reducible exact ih1 _ _ _ _ _ _ _ _)
      | (with_reducible exact track_Fitch.mono _ _ _ _ _)
      | (with_reducible exact track_Least.mono _ _ _ _ _)
      | (with_reducible exact wogglelaw02_lives.mono _)
      | (with_reducible exact wogglelaw02_made.mono _ _ _)
      | (with_reducible exact wogglelaw02_states.mono _ _ _ _)
      | (with_reducible exact woggleref01_Same.mono _ _ _)
      | (with_reducible exact woggleref02_Nodes.mono _ _ _ _ _)
      | (with_reducible exact woggleref02_Unit.mono _ _)
      | (with_reducible exact LeO.refl _)
      | (with_reducible exact LeO.none _)
      | (with_reducible refine LeO.ite ?_ ?_)
      | (with_reducible refine LeO.bind ?_ (fun _ => ?_))
      | exact ih0 _ _ _ _ _ _ _
      | exact ih1 _ _ _ _ _ _ _ _
      | exact track_Fitch.mono _ _ _ _ _
      | exact track_Least.mono _ _ _ _ _
      | exact wogglelaw02_lives.mono _
      | exact wogglelaw02_made.mono _ _ _
      | exact wogglelaw02_states.mono _ _ _ _
      | exact woggleref01_Same.mono _ _ _
      | exact woggleref02_Nodes.mono _ _ _ _ _
      | exact woggleref02_Unit.mono _ _
      | exact LeO.none _
      | refine LeO.ite ?_ ?_
      | refine LeO.bind ?_ (fun _ => ?_)
    · intro y0 y1 y2 y3 y4 y5 y6 y7
      unfold wogglelaw02_TrackFitch.l0
      repeat' first
      | (with_reducible exact ih0 _ _ _ _ _ _ _)
      | (with_reducible exact ih1 _ _ _ _ _ _ _ _)
      | (with_reducible exact track_Fitch.mono _ _ _ _ _)
      | (with_reducible exact track_Least.mono _ _ _ _ _)
      | (with_reducible exact wogglelaw02_lives.mono _)
      | (with_reducible exact wogglelaw02_made.mono _ _ _)
      | (with_reducible exact wogglelaw02_states.mono _ _ _ _)
      | (with_reducible exact woggleref01_Same.mono _ _ _)
      | (with_reducible exact woggleref02_Nodes.mono _ _ _ _ _)
      | (with_reducible exact woggleref02_Unit.mono _ _)
      | (with_reducible exact LeO.refl _)
      | (with_reducible exact LeO.none _)
      | (with_reducible refine LeO.ite ?_ ?_)
      | (with_reducible refine LeO.bind ?_ (fun _ => ?_))
      | exact ih0 _ _ _ _ _ _ _
      | exact ih1 _ _ _ _ _ _ _ _
      | exact track_Fitch.mono _ _ _ _ _
      | exact track_Least.mono _ _ _ _ _
      | exact wogglelaw02_lives.mono _
      | exact wogglelaw02_made.mono _ _ _
      | exact wogglelaw02_states.mono _ _ _ _
      | exact woggleref01_Same.mono _ _ _
      | exact woggleref02_Nodes.mono _ _ _ _ _
      | exact woggleref02_Unit.mono _ _
      | exact LeO.none _
      | refine LeO.ite ?_ ?_
      | refine LeO.bind ?_ (fun _ => ?_)
theorem wogglelaw02_TrackFitch.mono : ∀ a0 a1 a2 a3 a4 k, LeO (wogglelaw02_TrackFitch.f k a0 a1 a2 a3 a4) (wogglelaw02_TrackFitch.f (k + 1) a0 a1 a2 a3 a4) := by
  intro a0 a1 a2 a3 a4 k
  obtain ⟨ih0, ih1⟩ := wogglelaw02_TrackFitch.mono_l k
  unfold wogglelaw02_TrackFitch.f
  repeat' first
      | (with_reducible exact ih0 _ _ _ _ _ _ _)
      | (with_reducible exact ih1 _ _ _ _ _ _ _ _)
      | (with_reducible exact track_Fitch.mono _ _ _ _ _)
      | (with_reducible exact track_Least.mono _ _ _ _ _)
      | (with_reducible exact wogglelaw02_lives.mono _)
      | (with_reducible exact wogglelaw02_made.mono _ _ _)
      | (with_reducible exact wogglelaw02_states.mono _ _ _ _)
      | (with_reducible exact woggleref01_Same.mono _ _ _)
      | (with_reducible exact woggleref02_Nodes.mono _ _ _ _ _)
      | (with_reducible exact woggleref02_Unit.mono _ _)
      | (with_reducible exact LeO.refl _)
      | (with_reducible exact LeO.none _)
      | (with_reducible refine LeO.ite ?_ ?_)
      | (with_reducible refine LeO.bind ?_ (fun _ => ?_))
      | exact ih0 _ _ _ _ _ _ _
      | exact ih1 _ _ _ _ _ _ _ _
      | exact track_Fitch.mono _ _ _ _ _
      | exact track_Least.mono _ _ _ _ _
      | exact wogglelaw02_lives.mono _
      | exact wogglelaw02_made.mono _ _ _
      | exact wogglelaw02_states.mono _ _ _ _
      | exact woggleref01_Same.mono _ _ _
      | exact woggleref02_Nodes.mono _ _ _ _ _
      | exact woggleref02_Unit.mono _ _
      | exact LeO.none _
      | refine LeO.ite ?_ ?_
      | refine LeO.bind ?_ (fun _ => ?_)
theorem no_true_ {r : Bool} (h : some false = some r) (hr : r = true) : False := by subst hr; cases h
theorem wogglelaw02_TrackFitch.j0_no {k : Nat} {a0} {a1} {a2} {a3} {a4} {a5} {r : Bool} (h : wogglelaw02_TrackFitch.j0 k a0 a1 a2 a3 a4 a5 true = some r) (hr : r = true) : False := by subst hr; cases k <;> simp [wogglelaw02_TrackFitch.j0] at h
set_option maxHeartbeats 8000000 in
set_option maxRecDepth 100000 in
theorem wogglelaw02_TrackFitch.calls (k : Nat) (a0_0 : Int) (a0_1 : Int) (A0_2 : Option Addr) (c0_2 : Nat) (l0_2 : List Int) (A0_3 : Option Addr) (c0_3 : Nat) (l0_3 : List Int) (A0_4 : Option Addr) (c0_4 : Nat) (l0_4 : List Int) (r : Bool) (w : World) (hr0_2 : Kd.C (Kd.int .u8) w A0_2 l0_2.length l0_2) (hc0_2 : l0_2.length ≤ c0_2) (hr0_3 : Kd.C (Kd.int .u8) w A0_3 l0_3.length l0_3) (hc0_3 : l0_3.length ≤ c0_3) (hr0_4 : Kd.C (Kd.int .u8) w A0_4 l0_4.length l0_4) (hc0_4 : l0_4.length ≤ c0_4) (h : wogglelaw02_TrackFitch.f k a0_0 a0_1 l0_2 l0_3 l0_4 = some r) (hrr : r = true) :
    Calls Try.prog 7 #[.agg #[.int .u8 a0_0, .int .u8 a0_1, .slice A0_2 l0_2.length c0_2, .slice A0_3 l0_3.length c0_3, .slice A0_4 l0_4.length c0_4]] w fun e w' => e = .returned (.bool r) ∧ Below w.heap.size w w' := by
  have HRR := Aside0.mk hrr
  clear hrr
  have hu56 := Try.underlying56
  have hu63 := Try.underlying63
  have HR0_2 := Aside0.mk hr0_2
  have HC0_2 := Aside0.mk hc0_2
  clear hr0_2 hc0_2
  have HR0_3 := Aside0.mk hr0_3
  have HC0_3 := Aside0.mk hc0_3
  clear hr0_3 hc0_3
  have HR0_4 := Aside0.mk hr0_4
  have HC0_4 := Aside0.mk hc0_4
  clear hr0_4 hc0_4
  have HB := Aside0.mk (Below.refl w.heap.size w)
  have H : ((wogglelaw02_made.f k a0_0 l0_2).bind fun bt465 => ((wogglelaw02_states.f k bt465.1 (wrap64 ((Int.tmod (wrap64 (a0_1)) 4) + 1)) l0_4).bind fun t469 => ((track_Fitch.f k bt465.1 bt465.2 (wrap64 ((Int.tmod (wrap64 (a0_1)) 4) + 1)) t469).bind fun bt472 => ((woggleref02_Unit.f k (wrap64 ((Int.tmod (wrap64 (a0_1)) 4) + 1))).bind fun t477 => ((track_Least.f k bt465.1 bt465.2 t477 t469).bind fun bt480 => (if bt472.2.2 = 0 then (if bt480.2 = 0 then (if bt480.1 = bt472.2.1 then (if (bt472.1.length : Int) = (wrap64 (bt465.1 - 1)) then ((wogglelaw02_lives.f k).bind fun t482 => (wogglelaw02_TrackFitch.j0 k bt465.1 bt465.2 (wrap64 ((Int.tmod (wrap64 (a0_1)) 4) + 1)) t469 bt472.1 bt480.1 (!t482))) else (wogglelaw02_TrackFitch.j0 k bt465.1 bt465.2 (wrap64 ((Int.tmod (wrap64 (a0_1)) 4) + 1)) t469 bt472.1 bt480.1 true)) else (wogglelaw02_TrackFitch.j0 k bt465.1 bt465.2 (wrap64 ((Int.tmod (wrap64 (a0_1)) 4) + 1)) t469 bt472.1 bt480.1 true)) else (wogglelaw02_TrackFitch.j0 k bt465.1 bt465.2 (wrap64 ((Int.tmod (wrap64 (a0_1)) 4) + 1)) t469 bt472.1 bt480.1 true)) else (wogglelaw02_TrackFitch.j0 k bt465.1 bt465.2 (wrap64 ((Int.tmod (wrap64 (a0_1)) 4) + 1)) t469 bt472.1 bt480.1 true))))))) = some r := h
  clear h
  replace H := Option.bind_eq_some_iff.mp H
  obtain ⟨⟨t465, t466⟩, A20, H⟩ := H
  replace H : ((wogglelaw02_states.f k t465 (wrap64 ((Int.tmod (wrap64 (a0_1)) 4) + 1)) l0_4).bind fun t469 => ((track_Fitch.f k t465 t466 (wrap64 ((Int.tmod (wrap64 (a0_1)) 4) + 1)) t469).bind fun bt472 => ((woggleref02_Unit.f k (wrap64 ((Int.tmod (wrap64 (a0_1)) 4) + 1))).bind fun t477 => ((track_Least.f k t465 t466 t477 t469).bind fun bt480 => (if bt472.2.2 = 0 then (if bt480.2 = 0 then (if bt480.1 = bt472.2.1 then (if (bt472.1.length : Int) = (wrap64 (t465 - 1)) then ((wogglelaw02_lives.f k).bind fun t482 => (wogglelaw02_TrackFitch.j0 k t465 t466 (wrap64 ((Int.tmod (wrap64 (a0_1)) 4) + 1)) t469 bt472.1 bt480.1 (!t482))) else (wogglelaw02_TrackFitch.j0 k t465 t466 (wrap64 ((Int.tmod (wrap64 (a0_1)) 4) + 1)) t469 bt472.1 bt480.1 true)) else (wogglelaw02_TrackFitch.j0 k t465 t466 (wrap64 ((Int.tmod (wrap64 (a0_1)) 4) + 1)) t469 bt472.1 bt480.1 true)) else (wogglelaw02_TrackFitch.j0 k t465 t466 (wrap64 ((Int.tmod (wrap64 (a0_1)) 4) + 1)) t469 bt472.1 bt480.1 true)) else (wogglelaw02_TrackFitch.j0 k t465 t466 (wrap64 ((Int.tmod (wrap64 (a0_1)) 4) + 1)) t469 bt472.1 bt480.1 true)))))) = some r := H
  have A2 := Aside0.mk A20
  clear A20
  replace H := Option.bind_eq_some_iff.mp H
  obtain ⟨t469, A30, H⟩ := H
  replace H : ((track_Fitch.f k t465 t466 (wrap64 ((Int.tmod (wrap64 (a0_1)) 4) + 1)) t469).bind fun bt472 => ((woggleref02_Unit.f k (wrap64 ((Int.tmod (wrap64 (a0_1)) 4) + 1))).bind fun t477 => ((track_Least.f k t465 t466 t477 t469).bind fun bt480 => (if bt472.2.2 = 0 then (if bt480.2 = 0 then (if bt480.1 = bt472.2.1 then (if (bt472.1.length : Int) = (wrap64 (t465 - 1)) then ((wogglelaw02_lives.f k).bind fun t482 => (wogglelaw02_TrackFitch.j0 k t465 t466 (wrap64 ((Int.tmod (wrap64 (a0_1)) 4) + 1)) t469 bt472.1 bt480.1 (!t482))) else (wogglelaw02_TrackFitch.j0 k t465 t466 (wrap64 ((Int.tmod (wrap64 (a0_1)) 4) + 1)) t469 bt472.1 bt480.1 true)) else (wogglelaw02_TrackFitch.j0 k t465 t466 (wrap64 ((Int.tmod (wrap64 (a0_1)) 4) + 1)) t469 bt472.1 bt480.1 true)) else (wogglelaw02_TrackFitch.j0 k t465 t466 (wrap64 ((Int.tmod (wrap64 (a0_1)) 4) + 1)) t469 bt472.1 bt480.1 true)) else (wogglelaw02_TrackFitch.j0 k t465 t466 (wrap64 ((Int.tmod (wrap64 (a0_1)) 4) + 1)) t469 bt472.1 bt480.1 true))))) = some r := H
  have A3 := Aside0.mk A30
  clear A30
  replace H := Option.bind_eq_some_iff.mp H
  obtain ⟨⟨t472, t473, t474⟩, A40, H⟩ := H
  replace H : ((woggleref02_Unit.f k (wrap64 ((Int.tmod (wrap64 (a0_1)) 4) + 1))).bind fun t477 => ((track_Least.f k t465 t466 t477 t469).bind fun bt480 => (if t474 = 0 then (if bt480.2 = 0 then (if bt480.1 = t473 then (if (t472.length : Int) = (wrap64 (t465 - 1)) then ((wogglelaw02_lives.f k).bind fun t482 => (wogglelaw02_TrackFitch.j0 k t465 t466 (wrap64 ((Int.tmod (wrap64 (a0_1)) 4) + 1)) t469 t472 bt480.1 (!t482))) else (wogglelaw02_TrackFitch.j0 k t465 t466 (wrap64 ((Int.tmod (wrap64 (a0_1)) 4) + 1)) t469 t472 bt480.1 true)) else (wogglelaw02_TrackFitch.j0 k t465 t466 (wrap64 ((Int.tmod (wrap64 (a0_1)) 4) + 1)) t469 t472 bt480.1 true)) else (wogglelaw02_TrackFitch.j0 k t465 t466 (wrap64 ((Int.tmod (wrap64 (a0_1)) 4) + 1)) t469 t472 bt480.1 true)) else (wogglelaw02_TrackFitch.j0 k t465 t466 (wrap64 ((Int.tmod (wrap64 (a0_1)) 4) + 1)) t469 t472 bt480.1 true)))) = some r := H
  have A4 := Aside0.mk A40
  clear A40
  replace H := Option.bind_eq_some_iff.mp H
  obtain ⟨t477, A50, H⟩ := H
  replace H : ((track_Least.f k t465 t466 t477 t469).bind fun bt480 => (if t474 = 0 then (if bt480.2 = 0 then (if bt480.1 = t473 then (if (t472.length : Int) = (wrap64 (t465 - 1)) then ((wogglelaw02_lives.f k).bind fun t482 => (wogglelaw02_TrackFitch.j0 k t465 t466 (wrap64 ((Int.tmod (wrap64 (a0_1)) 4) + 1)) t469 t472 bt480.1 (!t482))) else (wogglelaw02_TrackFitch.j0 k t465 t466 (wrap64 ((Int.tmod (wrap64 (a0_1)) 4) + 1)) t469 t472 bt480.1 true)) else (wogglelaw02_TrackFitch.j0 k t465 t466 (wrap64 ((Int.tmod (wrap64 (a0_1)) 4) + 1)) t469 t472 bt480.1 true)) else (wogglelaw02_TrackFitch.j0 k t465 t466 (wrap64 ((Int.tmod (wrap64 (a0_1)) 4) + 1)) t469 t472 bt480.1 true)) else (wogglelaw02_TrackFitch.j0 k t465 t466 (wrap64 ((Int.tmod (wrap64 (a0_1)) 4) + 1)) t469 t472 bt480.1 true))) = some r := H
  have A5 := Aside0.mk A50
  clear A50
  replace H := Option.bind_eq_some_iff.mp H
  obtain ⟨⟨t480, t481⟩, A60, H⟩ := H
  replace H : (if t474 = 0 then (if t481 = 0 then (if t480 = t473 then (if (t472.length : Int) = (wrap64 (t465 - 1)) then ((wogglelaw02_lives.f k).bind fun t482 => (wogglelaw02_TrackFitch.j0 k t465 t466 (wrap64 ((Int.tmod (wrap64 (a0_1)) 4) + 1)) t469 t472 t480 (!t482))) else (wogglelaw02_TrackFitch.j0 k t465 t466 (wrap64 ((Int.tmod (wrap64 (a0_1)) 4) + 1)) t469 t472 t480 true)) else (wogglelaw02_TrackFitch.j0 k t465 t466 (wrap64 ((Int.tmod (wrap64 (a0_1)) 4) + 1)) t469 t472 t480 true)) else (wogglelaw02_TrackFitch.j0 k t465 t466 (wrap64 ((Int.tmod (wrap64 (a0_1)) 4) + 1)) t469 t472 t480 true)) else (wogglelaw02_TrackFitch.j0 k t465 t466 (wrap64 ((Int.tmod (wrap64 (a0_1)) 4) + 1)) t469 t472 t480 true)) = some r := H
  have A6 := Aside0.mk A60
  clear A60
  have HC7 := Aside0.mk H
  clear H
  go_enter Try.func7, Try.ntmps7
  go_upto_region 6 with (first | ((with_reducible refine gate_dst (N := 1) rfl ?_); (try (refine gate_guard (by rfl) ?_; dsimp only)); refine box_event ?hg (N := 1) ?hd (cs := #[.int .u8 a0_0, .int .u8 a0_1, .slice A0_2 l0_2.length c0_2, .slice A0_3 l0_3.length c0_3, .slice A0_4 l0_4.length c0_4]) (t := 56) ?hr ?_; (case hd => rfl); (case hg => rfl); (case hr => first | (go_simp; done) | (go_simp; rfl)); intro gb464 hg w8 hbox hb; have n0_ := Aside0.mk (below_step (by repeat (first | (with_reducible first | exact HB.out | apply below_alloc | apply pw_below_drewN | apply below_drew1) | exact HB.out)) hb); have n1_ := Aside0.mk (hbox); have n2_ := Aside0.mk ((by rw [hg]; exact (below_size (by repeat (first | (with_reducible first | exact HB.out | apply below_alloc | apply pw_below_drewN | apply below_drew1) | exact HB.out))) : w.heap.size ≤ gb464)); have n3_ := Aside0.mk ((by rw [hg]; exact (below_size (by repeat (first | (with_reducible first | exact HB.out | apply below_alloc | apply pw_below_drewN | apply below_drew1) | exact HB.out))) : w.heap.size ≤ gb464)); clear HB; have HB := n0_; have BK464 := n1_; have GW464 := n2_; have GE464 := n3_; clear n0_ n1_ n2_ n3_; clear hb hbox hg; have hcz9_0 : w8.cell? ⟨gb464, 0, none⟩ = some (.int .u8 a0_0) := (blk_cell BK464.out 0).trans rfl; have hcz9_1 : w8.cell? ⟨gb464, 1, none⟩ = some (.int .u8 a0_1) := (blk_cell BK464.out 1).trans rfl; have hcz9_2 : w8.cell? ⟨gb464, 2, none⟩ = some (.slice A0_2 l0_2.length c0_2) := (blk_cell BK464.out 2).trans rfl; have hcz9_3 : w8.cell? ⟨gb464, 3, none⟩ = some (.slice A0_3 l0_3.length c0_3) := (blk_cell BK464.out 3).trans rfl; have hcz9_4 : w8.cell? ⟨gb464, 4, none⟩ = some (.slice A0_4 l0_4.length c0_4) := (blk_cell BK464.out 4).trans rfl; have hfz9_0 := blk_frozen BK464.out 0; have hfz9_1 := blk_frozen BK464.out 1; have hfz9_2 := blk_frozen BK464.out 2; have hfz9_3 := blk_frozen BK464.out 3; have hfz9_4 := blk_frozen BK464.out 4) | ((with_reducible refine gate_callee (f := 35) rfl ?_); refine goesL_ (some 21) rfl rfl Try.func35 (by kernel_rfl) rfl #[.int .u8 a0_0, .slice A0_2 l0_2.length c0_2] rfl (by (try simp only [List.map_toArray, List.map_cons, List.map_nil]); first | done | rfl | (simp only [List.length_drop, List.length_take]; rfl)) ?_; (with_reducible refine (wogglelaw02_made.calls k a0_0 _ _ l0_2 t465 t466 _ ?side1 ?side2 A2.out).mono ?_); (case side1 => repeat (first | exact (Kd.C_below HR0_2.out HB.out) | (with_reducible refine Kd.C_alloc ?_ _) | (with_reducible refine Kd.C_drewN ?_ _) | (with_reducible refine Kd.C_drew ?_))); (case side2 => exact HC0_2.out); rintro e w10 ⟨v467, rfl, ho0, hb⟩; refine ⟨_, rfl, ?_⟩; have n0_ := Aside0.mk (Kd.R_lower ho0 (below_size (by repeat (first | (with_reducible first | exact HB.out | apply below_alloc | apply pw_below_drewN | apply below_drew1 | refine below_set ?_ GE464.out) | exact HB.out)))); have n1_ := Aside0.mk (blk_below (g := gb464) (o := .cells #[.int .u8 a0_0, .int .u8 a0_1, .slice A0_2 l0_2.length c0_2, .slice A0_3 l0_3.length c0_3, .slice A0_4 l0_4.length c0_4] 56 (0, 0)) (by (with_reducible repeat (first | refine blk_drewN ?_ _ | refine blk_drew ?_ | refine blk_alloc ?_ _)); exact BK464.out) hb); have n2_ := Aside0.mk (below_step (by repeat (first | (with_reducible first | exact HB.out | apply below_alloc | apply pw_below_drewN | apply below_drew1 | refine below_set ?_ GE464.out) | exact HB.out)) hb); clear BK464; clear HB; have HO468 := n0_; have BK464 := n1_; have HB := n2_; clear n0_ n1_ n2_; (try clear hb); (try clear hb2); (try clear hk); (try clear hi); (try clear ho0); have hcz11_0 : w10.cell? ⟨gb464, 0, none⟩ = some (.int .u8 a0_0) := (blk_cell BK464.out 0).trans rfl; have hcz11_1 : w10.cell? ⟨gb464, 1, none⟩ = some (.int .u8 a0_1) := (blk_cell BK464.out 1).trans rfl; have hcz11_2 : w10.cell? ⟨gb464, 2, none⟩ = some (.slice A0_2 l0_2.length c0_2) := (blk_cell BK464.out 2).trans rfl; have hcz11_3 : w10.cell? ⟨gb464, 3, none⟩ = some (.slice A0_3 l0_3.length c0_3) := (blk_cell BK464.out 3).trans rfl; have hcz11_4 : w10.cell? ⟨gb464, 4, none⟩ = some (.slice A0_4 l0_4.length c0_4) := (blk_cell BK464.out 4).trans rfl; have hfz11_0 := blk_frozen BK464.out 0; have hfz11_1 := blk_frozen BK464.out 1; have hfz11_2 := blk_frozen BK464.out 2; have hfz11_3 := blk_frozen BK464.out 3; have hfz11_4 := blk_frozen BK464.out 4) | ((with_reducible refine gate_callee (f := 36) rfl ?_); refine goesL_ (some 33) rfl rfl Try.func36 (by kernel_rfl) rfl #[.int .i64 t465, .int .i64 (wrap64 ((Int.tmod (wrap64 (a0_1)) 4) + 1)), .slice A0_4 l0_4.length c0_4] rfl (by (try simp only [List.map_toArray, List.map_cons, List.map_nil]); first | done | rfl | (simp only [List.length_drop, List.length_take]; rfl)) ?_; (first | (with_reducible refine (wogglelaw02_states.calls k t465 (wrap64 ((Int.tmod (wrap64 (a0_1)) 4) + 1)) _ _ l0_4 t469 _ ?side1 ?side2 A3.out).mono ?_) | (simp only [i64_w, i32_w]; with_reducible refine (wogglelaw02_states.calls k t465 (wrap64 ((Int.tmod (wrap64 (a0_1)) 4) + 1)) _ _ l0_4 t469 _ ?side1 ?side2 A3.out).mono ?_)); (case side1 => repeat (first | exact (Kd.C_below HR0_4.out HB.out) | (with_reducible refine Kd.C_alloc ?_ _) | (with_reducible refine Kd.C_drewN ?_ _) | (with_reducible refine Kd.C_drew ?_))); (case side2 => exact HC0_4.out); rintro e w12 ⟨v470, rfl, ho0, hb⟩; refine ⟨_, rfl, ?_⟩; have n0_ := Aside0.mk (Kd.R_below (by (with_reducible repeat (first | apply Kd.R_alloc | apply Kd.R_drewN | apply Kd.R_drew)); exact HO468.out) hb); have n1_ := Aside0.mk (Kd.R_lower ho0 (below_size (by repeat (first | (with_reducible first | exact HB.out | apply below_alloc | apply pw_below_drewN | apply below_drew1 | refine below_set ?_ GE464.out) | exact HB.out)))); have n2_ := Aside0.mk (blk_below (g := gb464) (o := .cells #[.int .u8 a0_0, .int .u8 a0_1, .slice A0_2 l0_2.length c0_2, .slice A0_3 l0_3.length c0_3, .slice A0_4 l0_4.length c0_4] 56 (0, 0)) (by (with_reducible repeat (first | refine blk_drewN ?_ _ | refine blk_drew ?_ | refine blk_alloc ?_ _)); exact BK464.out) hb); have n3_ := Aside0.mk (below_step (by repeat (first | (with_reducible first | exact HB.out | apply below_alloc | apply pw_below_drewN | apply below_drew1 | refine below_set ?_ GE464.out) | exact HB.out)) hb); clear HO468; clear BK464; clear HB; have HO468 := n0_; have HO471 := n1_; have BK464 := n2_; have HB := n3_; clear n0_ n1_ n2_ n3_; (try clear hb); (try clear hb2); (try clear hk); (try clear hi); (try clear ho0); obtain ⟨Ao13, co13, eo13⟩ := Kd.R_slice HO468.out; subst eo13; obtain ⟨Ao14, co14, eo14⟩ := Kd.R_slice HO471.out; subst eo14) | ((with_reducible refine gate_callee (f := 19) rfl ?_); refine goesL_ (some 39) rfl rfl Try.func19 (by kernel_rfl) rfl #[.int .i64 t465, .slice Ao13 t466.length co13, .int .i64 (wrap64 ((Int.tmod (wrap64 (a0_1)) 4) + 1)), .slice Ao14 t469.length co14] rfl (by (try simp only [List.map_toArray, List.map_cons, List.map_nil]); first | done | rfl | (simp only [List.length_drop, List.length_take]; rfl)) ?_; (first | (with_reducible refine (track_Fitch.calls k t465 _ _ t466 (wrap64 ((Int.tmod (wrap64 (a0_1)) 4) + 1)) _ _ t469 t472 t473 t474 _ ?side1 ?side2 ?side3 ?side4 A4.out).mono ?_) | (simp only [i64_w, i32_w]; with_reducible refine (track_Fitch.calls k t465 _ _ t466 (wrap64 ((Int.tmod (wrap64 (a0_1)) 4) + 1)) _ _ t469 t472 t473 t474 _ ?side1 ?side2 ?side3 ?side4 A4.out).mono ?_)); (case side1 => repeat (first | exact (Kd.R_reads' HO468.out).2.2 | (with_reducible refine Kd.C_alloc ?_ _) | (with_reducible refine Kd.C_drewN ?_ _) | (with_reducible refine Kd.C_drew ?_))); (case side2 => exact (Kd.R_reads' HO468.out).2.1); (case side3 => repeat (first | exact (Kd.R_reads' HO471.out).2.2 | (with_reducible refine Kd.C_alloc ?_ _) | (with_reducible refine Kd.C_drewN ?_ _) | (with_reducible refine Kd.C_drew ?_))); (case side4 => exact (Kd.R_reads' HO471.out).2.1); rintro e w15 ⟨v475, rfl, ho0, hb⟩; refine ⟨_, rfl, ?_⟩; have n0_ := Aside0.mk (Kd.R_below (by (with_reducible repeat (first | apply Kd.R_alloc | apply Kd.R_drewN | apply Kd.R_drew)); exact HO468.out) hb); have n1_ := Aside0.mk (Kd.R_below (by (with_reducible repeat (first | apply Kd.R_alloc | apply Kd.R_drewN | apply Kd.R_drew)); exact HO471.out) hb); have n2_ := Aside0.mk (Kd.S_lower (Kd.S_new' ho0 (Kd.R_lt (by (with_reducible repeat (first | apply Kd.R_alloc | apply Kd.R_drewN | apply Kd.R_drew)); exact HO471.out))) (below_size (by repeat (first | (with_reducible first | exact HB.out | apply below_alloc | apply pw_below_drewN | apply below_drew1 | refine below_set ?_ GE464.out) | exact HB.out)))); have n3_ := Aside0.mk (blk_below (g := gb464) (o := .cells #[.int .u8 a0_0, .int .u8 a0_1, .slice A0_2 l0_2.length c0_2, .slice A0_3 l0_3.length c0_3, .slice A0_4 l0_4.length c0_4] 56 (0, 0)) (by (with_reducible repeat (first | refine blk_drewN ?_ _ | refine blk_drew ?_ | refine blk_alloc ?_ _)); exact BK464.out) hb); have n4_ := Aside0.mk (below_step (by repeat (first | (with_reducible first | exact HB.out | apply below_alloc | apply pw_below_drewN | apply below_drew1 | refine below_set ?_ GE464.out) | exact HB.out)) hb); clear HO468; clear HO471; clear BK464; clear HB; have HO468 := n0_; have HO471 := n1_; have HO476 := n2_; have BK464 := n3_; have HB := n4_; clear n0_ n1_ n2_ n3_ n4_; (try clear hb); (try clear hb2); (try clear hk); (try clear hi); (try clear ho0)) | ((with_reducible refine gate_callee (f := 37) rfl ?_); refine goesL_ (some 47) rfl rfl Try.func37 (by kernel_rfl) rfl #[.int .i64 (wrap64 ((Int.tmod (wrap64 (a0_1)) 4) + 1))] rfl (by (try simp only [List.map_toArray, List.map_cons, List.map_nil]); first | done | rfl | (simp only [List.length_drop, List.length_take]; rfl)) ?_; (first | (with_reducible refine (woggleref02_Unit.calls k (wrap64 ((Int.tmod (wrap64 (a0_1)) 4) + 1)) t477 _ A5.out).mono ?_) | (simp only [i64_w, i32_w]; with_reducible refine (woggleref02_Unit.calls k (wrap64 ((Int.tmod (wrap64 (a0_1)) 4) + 1)) t477 _ A5.out).mono ?_)); rintro e w16 ⟨v478, rfl, ho0, hb⟩; refine ⟨_, rfl, ?_⟩; have n0_ := Aside0.mk (Kd.R_below (by (with_reducible repeat (first | apply Kd.R_alloc | apply Kd.R_drewN | apply Kd.R_drew)); exact HO468.out) hb); have n1_ := Aside0.mk (Kd.R_below (by (with_reducible repeat (first | apply Kd.R_alloc | apply Kd.R_drewN | apply Kd.R_drew)); exact HO471.out) hb); have n2_ := Aside0.mk (Kd.S_elder' (by (with_reducible repeat (first | apply Kd.S_alloc | apply Kd.S_drewN | apply Kd.S_drew)); exact HO476.out) (Kd.S_base ho0) hb); have n3_ := Aside0.mk (Kd.S_lower (Kd.S_new' (Kd.S_new' ho0 (Kd.R_lt (by (with_reducible repeat (first | apply Kd.R_alloc | apply Kd.R_drewN | apply Kd.R_drew)); exact HO471.out))) (Kd.S_lt (by (with_reducible repeat (first | apply Kd.S_alloc | apply Kd.S_drewN | apply Kd.S_drew)); exact HO476.out))) (below_size (by repeat (first | (with_reducible first | exact HB.out | apply below_alloc | apply pw_below_drewN | apply below_drew1 | refine below_set ?_ GE464.out) | exact HB.out)))); have n4_ := Aside0.mk (blk_below (g := gb464) (o := .cells #[.int .u8 a0_0, .int .u8 a0_1, .slice A0_2 l0_2.length c0_2, .slice A0_3 l0_3.length c0_3, .slice A0_4 l0_4.length c0_4] 56 (0, 0)) (by (with_reducible repeat (first | refine blk_drewN ?_ _ | refine blk_drew ?_ | refine blk_alloc ?_ _)); exact BK464.out) hb); have n5_ := Aside0.mk (below_step (by repeat (first | (with_reducible first | exact HB.out | apply below_alloc | apply pw_below_drewN | apply below_drew1 | refine below_set ?_ GE464.out) | exact HB.out)) hb); clear HO468; clear HO471; clear HO476; clear BK464; clear HB; have HO468 := n0_; have HO471 := n1_; have HO476 := n2_; have HO479 := n3_; have BK464 := n4_; have HB := n5_; clear n0_ n1_ n2_ n3_ n4_ n5_; (try clear hb); (try clear hb2); (try clear hk); (try clear hi); (try clear ho0); obtain ⟨Ao17, co17, eo17⟩ := Kd.S_slice HO479.out; subst eo17) | ((with_reducible refine gate_callee (f := 32) rfl ?_); refine goesL_ (some 49) rfl rfl Try.func32 (by kernel_rfl) rfl #[.int .i64 t465, .slice Ao13 t466.length co13, .slice Ao17 t477.length co17, .slice Ao14 t469.length co14] rfl (by (try simp only [List.map_toArray, List.map_cons, List.map_nil]); first | done | rfl | (simp only [List.length_drop, List.length_take]; rfl)) ?_; (with_reducible refine (track_Least.calls k t465 _ _ t466 _ _ t477 _ _ t469 t480 t481 _ ?side1 ?side2 ?side3 ?side4 ?side5 ?side6 A6.out).mono ?_); (case side1 => repeat (first | exact (Kd.R_reads' HO468.out).2.2 | (with_reducible refine Kd.C_alloc ?_ _) | (with_reducible refine Kd.C_drewN ?_ _) | (with_reducible refine Kd.C_drew ?_))); (case side2 => exact (Kd.R_reads' HO468.out).2.1); (case side3 => repeat (first | exact (Kd.S_reads' HO479.out).2.2 | (with_reducible refine Kd.C_alloc ?_ _) | (with_reducible refine Kd.C_drewN ?_ _) | (with_reducible refine Kd.C_drew ?_))); (case side4 => exact (Kd.S_reads' HO479.out).2.1); (case side5 => repeat (first | exact (Kd.R_reads' HO471.out).2.2 | (with_reducible refine Kd.C_alloc ?_ _) | (with_reducible refine Kd.C_drewN ?_ _) | (with_reducible refine Kd.C_drew ?_))); (case side6 => exact (Kd.R_reads' HO471.out).2.1); rintro e w18 ⟨rfl, hb⟩; refine ⟨_, rfl, ?_⟩; have n0_ := Aside0.mk (Kd.R_below (by (with_reducible repeat (first | apply Kd.R_alloc | apply Kd.R_drewN | apply Kd.R_drew)); exact HO468.out) hb); have n1_ := Aside0.mk (Kd.R_below (by (with_reducible repeat (first | apply Kd.R_alloc | apply Kd.R_drewN | apply Kd.R_drew)); exact HO471.out) hb); have n2_ := Aside0.mk (Kd.S_below (by (with_reducible repeat (first | apply Kd.S_alloc | apply Kd.S_drewN | apply Kd.S_drew)); exact HO476.out) hb); have n3_ := Aside0.mk (Kd.S_below (by (with_reducible repeat (first | apply Kd.S_alloc | apply Kd.S_drewN | apply Kd.S_drew)); exact HO479.out) hb); have n4_ := Aside0.mk (blk_below (g := gb464) (o := .cells #[.int .u8 a0_0, .int .u8 a0_1, .slice A0_2 l0_2.length c0_2, .slice A0_3 l0_3.length c0_3, .slice A0_4 l0_4.length c0_4] 56 (0, 0)) (by (with_reducible repeat (first | refine blk_drewN ?_ _ | refine blk_drew ?_ | refine blk_alloc ?_ _)); exact BK464.out) hb); have n5_ := Aside0.mk (below_step (by repeat (first | (with_reducible first | exact HB.out | apply below_alloc | apply pw_below_drewN | apply below_drew1 | refine below_set ?_ GE464.out) | exact HB.out)) hb); clear HO468; clear HO471; clear HO476; clear HO479; clear BK464; clear HB; have HO468 := n0_; have HO471 := n1_; have HO476 := n2_; have HO479 := n3_; have BK464 := n4_; have HB := n5_; clear n0_ n1_ n2_ n3_ n4_ n5_; (try clear hb); (try clear hb2); (try clear hk); (try clear hi)))
  (try simp only [Act.put, List.setIfInBounds_toArray, List.set_cons_zero, List.set_cons_succ])
  go_cut [73] (fun v73 wc => ∃ (kq : Nat) (x73_6 : Bool), v73 = .bool x73_6 ∧ Aside0 (wogglelaw02_TrackFitch.j0 kq t465 t466 (wrap64 ((Int.tmod (wrap64 (a0_1)) 4) + 1)) t469 t472 t480 x73_6 = some r) ∧ Aside0 (kq ≤ k) ∧ Aside0 (Kd.R k67 67 wc w.heap.size (fun _ => True) (.slice Ao13 t466.length co13) t466) ∧ Aside0 (Kd.R (Kd.int .i64) 3 wc w.heap.size (fun _ => True) (.slice Ao14 t469.length co14) t469) ∧ Aside0 (Kd.S (Kd.slice 3 (Kd.int .i64)) 25 wc w.heap.size (fun k_ => some k_ ≠ ((.slice Ao14 t469.length co14) : Value).ownBlock) v475 t472) ∧ Aside0 (wc.heap[gb464]? = some (.cells #[.int .u8 a0_0, .int .u8 a0_1, (.slice A0_2 l0_2.length c0_2), (.slice A0_3 l0_3.length c0_3), (.slice A0_4 l0_4.length c0_4)] 56 (0, 0))) ∧ Aside0 (Below w.heap.size w wc))
  case first =>
    have H := HC7.out
    clear HC7
    by_cases c19 : t474 = 0
    · rw [if_pos c19] at H
      have c19b0 : (t474 == 0) = true := beq_iff_eq.mpr c19
      have c19b1 : (t474 != 0) = false := bne_eq_false_iff_eq.mpr c19
      clear c19
      (first | rw [c19b0] | (simp only [i64_w, i32_w]; rw [c19b0]) | skip)
      by_cases c20 : t481 = 0
      · rw [if_pos c20] at H
        have c20b0 : (t481 == 0) = true := beq_iff_eq.mpr c20
        have c20b1 : (t481 != 0) = false := bne_eq_false_iff_eq.mpr c20
        clear c20
        by_cases c21 : t480 = t473
        · rw [if_pos c21] at H
          have c21b0 : (t480 == t473) = true := beq_iff_eq.mpr c21
          have c21b1 : (t480 != t473) = false := bne_eq_false_iff_eq.mpr c21
          clear c21
          by_cases c22 : (t472.length : Int) = (wrap64 (t465 - 1))
          · rw [if_pos c22] at H
            have c22b0 : ((t472.length : Int) == (wrap64 (t465 - 1))) = true := beq_iff_eq.mpr c22
            have c22b1 : ((t472.length : Int) != (wrap64 (t465 - 1))) = false := bne_eq_false_iff_eq.mpr c22
            clear c22
            replace H := Option.bind_eq_some_iff.mp H
            obtain ⟨t482, A230, H⟩ := H
            replace H : (wogglelaw02_TrackFitch.j0 k t465 t466 (wrap64 ((Int.tmod (wrap64 (a0_1)) 4) + 1)) t469 t472 t480 (!t482)) = some r := H
            have A23 := Aside0.mk A230
            clear A230
            have H' := Aside0.mk H
            clear H
            obtain ⟨Ao24, co24, eo24⟩ := Kd.S_slice HO476.out
            subst eo24
            go_wp2_with (first | (go_at_call 22; (with_reducible refine (wogglelaw02_lives.calls k  t482 _ A23.out).mono ?_); rintro e w25 ⟨rfl, hb⟩; have n0_ := Aside0.mk (Kd.R_below (by (with_reducible repeat (first | apply Kd.R_alloc | apply Kd.R_drewN | apply Kd.R_drew)); exact HO468.out) hb); have n1_ := Aside0.mk (Kd.R_below (by (with_reducible repeat (first | apply Kd.R_alloc | apply Kd.R_drewN | apply Kd.R_drew)); exact HO471.out) hb); have n2_ := Aside0.mk (Kd.S_below (by (with_reducible repeat (first | apply Kd.S_alloc | apply Kd.S_drewN | apply Kd.S_drew)); exact HO476.out) hb); have n3_ := Aside0.mk (Kd.S_below (by (with_reducible repeat (first | apply Kd.S_alloc | apply Kd.S_drewN | apply Kd.S_drew)); exact HO479.out) hb); have n4_ := Aside0.mk (blk_below (g := gb464) (o := .cells #[.int .u8 a0_0, .int .u8 a0_1, .slice A0_2 l0_2.length c0_2, .slice A0_3 l0_3.length c0_3, .slice A0_4 l0_4.length c0_4] 56 (0, 0)) (by (with_reducible repeat (first | refine blk_drewN ?_ _ | refine blk_drew ?_ | refine blk_alloc ?_ _)); exact BK464.out) hb); have n5_ := Aside0.mk (below_step (by repeat (first | (with_reducible first | exact HB.out | apply below_alloc | apply pw_below_drewN | apply below_drew1 | refine below_set ?_ GE464.out) | exact HB.out)) hb); clear HO468; clear HO471; clear HO476; clear HO479; clear BK464; clear HB; have HO468 := n0_; have HO471 := n1_; have HO476 := n2_; have HO479 := n3_; have BK464 := n4_; have HB := n5_; clear n0_ n1_ n2_ n3_ n4_ n5_; (try clear hb); (try clear hb2); (try clear hk); (try clear hi)))
            go_meet
            case rel => exact ⟨_, (!t482), (by first | rfl | (simp; done) | (simp [*]; done)), H', ⟨by first | omega | exact Nat.le_refl _⟩, ⟨by (with_reducible repeat (first | apply Kd.R_alloc | apply Kd.R_drewN | apply Kd.R_drew)); exact HO468.out⟩, ⟨by (with_reducible repeat (first | apply Kd.R_alloc | apply Kd.R_drewN | apply Kd.R_drew)); exact HO471.out⟩, ⟨by (with_reducible repeat (first | apply Kd.S_alloc | apply Kd.S_drewN | apply Kd.S_drew)); exact Kd.S_mono HO476.out (fun _ hk => hk.1.2)⟩, ⟨by (with_reducible repeat (first | refine blk_drewN ?_ _ | refine blk_drew ?_ | refine blk_alloc ?_ _)); exact BK464.out⟩, ⟨by repeat (first | (with_reducible first | exact HB.out | apply below_alloc | apply pw_below_drewN | apply below_drew1 | refine below_set ?_ GE464.out) | exact HB.out)⟩⟩
          · rw [if_neg c22] at H
            exact (wogglelaw02_TrackFitch.j0_no H HRR.out).elim
        · rw [if_neg c21] at H
          exact (wogglelaw02_TrackFitch.j0_no H HRR.out).elim
      · rw [if_neg c20] at H
        exact (wogglelaw02_TrackFitch.j0_no H HRR.out).elim
    · rw [if_neg c19] at H
      exact (wogglelaw02_TrackFitch.j0_no H HRR.out).elim
  case rest =>
    clear HC7
    try clear c1
    try clear c2
    try clear p2
    try clear c3
    try clear p6
    try clear c7
    try clear c19
    try clear c19b0
    try clear c19b1
    try clear c20
    try clear c20b0
    try clear c20b1
    try clear c21
    try clear c21b0
    try clear c21b1
    try clear c22
    try clear c22b0
    try clear c22b1
    try clear hcz11_0
    try clear hcz11_1
    try clear hcz11_2
    try clear hcz11_3
    try clear hcz11_4
    try clear hcz9_0
    try clear hcz9_1
    try clear hcz9_2
    try clear hcz9_3
    try clear hcz9_4
    try clear hfz11_0
    try clear hfz11_1
    try clear hfz11_2
    try clear hfz11_3
    try clear hfz11_4
    try clear hfz9_0
    try clear hfz9_1
    try clear hfz9_2
    try clear hfz9_3
    try clear hfz9_4
    obtain ⟨kq, x73_6, rfl, HA, HJ6, HO_4, HO_6, HO_7, BK464, HB⟩ := hcut
    cases kq with
    | zero => exact absurd HA.out (by simp [wogglelaw02_TrackFitch.j0])
    | succ kj6 =>
      have H := HA.out
      clear HA
      simp only [wogglelaw02_TrackFitch.j0] at H
      by_cases c27 : x73_6 = true
      · subst c27
        have H1 : (some false) = some r := by rw [if_pos rfl] at H; exact H
        clear H
        have H := H1
        clear H1
        exact (no_true_ H HRR.out).elim
      · replace c27 := Bool.eq_false_iff.mpr c27
        subst c27
        have H1 : ((woggleref02_Unit.f kj6 (wrap64 ((Int.tmod (wrap64 (a0_1)) 4) + 1))).bind fun t483 => ((woggleref02_Nodes.f kj6 t465 t466 t483 t469).bind fun t486 => (if 0 ≤ (wrap64 ((t486.length : Int) - 1)) then (if (wrap64 ((t486.length : Int) - 1)) < (t486.length : Int) then (wogglelaw02_TrackFitch.l0 kj6 t465 (wrap64 ((Int.tmod (wrap64 (a0_1)) 4) + 1)) t472 t480 (([] : List Int)) 0 ((rd_T63 t486 (wrap64 ((t486.length : Int) - 1))).f0) ((rd_T63 t486 (wrap64 ((t486.length : Int) - 1))).f1)) else (none)) else (none)))) = some r := by rw [if_neg (show ¬ (false = true) by decide)] at H; exact H
        clear H
        have H := H1
        clear H1
        replace H := Option.bind_eq_some_iff.mp H
        obtain ⟨t483, A280, H⟩ := H
        replace H : ((woggleref02_Nodes.f kj6 t465 t466 t483 t469).bind fun t486 => (if 0 ≤ (wrap64 ((t486.length : Int) - 1)) then (if (wrap64 ((t486.length : Int) - 1)) < (t486.length : Int) then (wogglelaw02_TrackFitch.l0 kj6 t465 (wrap64 ((Int.tmod (wrap64 (a0_1)) 4) + 1)) t472 t480 (([] : List Int)) 0 ((rd_T63 t486 (wrap64 ((t486.length : Int) - 1))).f0) ((rd_T63 t486 (wrap64 ((t486.length : Int) - 1))).f1)) else (none)) else (none))) = some r := H
        have A28 := Aside0.mk A280
        clear A280
        replace H := Option.bind_eq_some_iff.mp H
        obtain ⟨t486, A290, H⟩ := H
        replace H : (if 0 ≤ (wrap64 ((t486.length : Int) - 1)) then (if (wrap64 ((t486.length : Int) - 1)) < (t486.length : Int) then (wogglelaw02_TrackFitch.l0 kj6 t465 (wrap64 ((Int.tmod (wrap64 (a0_1)) 4) + 1)) t472 t480 (([] : List Int)) 0 ((rd_T63 t486 (wrap64 ((t486.length : Int) - 1))).f0) ((rd_T63 t486 (wrap64 ((t486.length : Int) - 1))).f1)) else (none)) else (none)) = some r := H
        have A29 := Aside0.mk A290
        clear A290
        obtain ⟨ji30, hji30⟩ : ∃ j_ : Int, (wrap64 ((t486.length : Int) - 1)) = j_ := ⟨_, rfl⟩
        replace H : (if 0 ≤ (ji30) then (if (ji30) < (t486.length : Int) then (wogglelaw02_TrackFitch.l0 kj6 t465 (wrap64 ((Int.tmod (wrap64 (a0_1)) 4) + 1)) t472 t480 (([] : List Int)) 0 ((rd_T63 t486 (ji30)).f0) ((rd_T63 t486 (ji30)).f1)) else (none)) else (none)) = some r := by first | (rw [hji30] at H; exact H) | (simp only [hji30] at H ⊢; exact H)
        (try rw [hji30] at A28)
        (try rw [hji30] at A29)
        have hji30w : (IntKind.i64.wrap ((t486.length : Int) - 1)) = ji30 := (i64_w _).trans hji30
        by_cases c31 : 0 ≤ (ji30)
        · rw [if_pos c31] at H
          have c31b0 : decide (0 ≤ (ji30)) = true := decide_eq_true c31
          clear c31
          by_cases c32 : (ji30) < (t486.length : Int)
          · rw [if_pos c32] at H
            have c32b0 : decide ((ji30) < (t486.length : Int)) = true := decide_eq_true c32
            clear c32
            obtain ⟨y490, hy490⟩ : ∃ y_ : List Int, y_ = (([] : List Int)) := ⟨_, rfl⟩
            replace H : (wogglelaw02_TrackFitch.l0 kj6 t465 (wrap64 ((Int.tmod (wrap64 (a0_1)) 4) + 1)) t472 t480 y490 0 ((rd_T63 t486 (ji30)).f0) ((rd_T63 t486 (ji30)).f1)) = some r := by first | (rw [hy490]; with_reducible exact H) | (have H2_ := (Option.bind_some _ _).symm.trans H; rw [hy490]; with_reducible exact H2_) | (have H2_ := (Option.bind_some _ _).symm.trans H; with_reducible exact H2_) | with_reducible exact H | (rw [hy490]; exact H) | exact H
            have Ny490 := Aside0.mk hy490
            clear hy490
            have H' := Aside0.mk H
            clear H
            go_wp2_with (first | ((with_reducible refine gate_callee (f := 37) rfl ?_); refine goesL_ (some 77) rfl rfl Try.func37 (by kernel_rfl) rfl #[.int .i64 (wrap64 ((Int.tmod (wrap64 (a0_1)) 4) + 1))] rfl (by (try simp only [List.map_toArray, List.map_cons, List.map_nil]); first | done | rfl | (simp only [List.length_drop, List.length_take]; rfl)) ?_; (first | (with_reducible refine (woggleref02_Unit.calls kj6 (wrap64 ((Int.tmod (wrap64 (a0_1)) 4) + 1)) t483 _ A28.out).mono ?_) | (simp only [i64_w, i32_w]; with_reducible refine (woggleref02_Unit.calls kj6 (wrap64 ((Int.tmod (wrap64 (a0_1)) 4) + 1)) t483 _ A28.out).mono ?_)); rintro e w33 ⟨v484, rfl, ho0, hb⟩; refine ⟨_, rfl, ?_⟩; have n0_ := Aside0.mk (Kd.R_below (by (with_reducible repeat (first | apply Kd.R_alloc | apply Kd.R_drewN | apply Kd.R_drew)); exact HO_4.out) hb); have n1_ := Aside0.mk (Kd.R_below (by (with_reducible repeat (first | apply Kd.R_alloc | apply Kd.R_drewN | apply Kd.R_drew)); exact HO_6.out) hb); have n2_ := Aside0.mk (Kd.S_elder' (by (with_reducible repeat (first | apply Kd.S_alloc | apply Kd.S_drewN | apply Kd.S_drew)); exact HO_7.out) (Kd.S_base ho0) hb); have n3_ := Aside0.mk (Kd.S_lower (Kd.S_new' (Kd.S_new' ho0 (Kd.R_lt (by (with_reducible repeat (first | apply Kd.R_alloc | apply Kd.R_drewN | apply Kd.R_drew)); exact HO_6.out))) (Kd.S_lt (by (with_reducible repeat (first | apply Kd.S_alloc | apply Kd.S_drewN | apply Kd.S_drew)); exact HO_7.out))) (below_size (by repeat (first | (with_reducible first | exact HB.out | apply below_alloc | apply pw_below_drewN | apply below_drew1 | refine below_set ?_ GE464.out) | exact HB.out)))); have n4_ := Aside0.mk (blk_below (g := gb464) (o := .cells #[.int .u8 a0_0, .int .u8 a0_1, .slice A0_2 l0_2.length c0_2, .slice A0_3 l0_3.length c0_3, .slice A0_4 l0_4.length c0_4] 56 (0, 0)) (by (with_reducible repeat (first | refine blk_drewN ?_ _ | refine blk_drew ?_ | refine blk_alloc ?_ _)); exact BK464.out) hb); have n5_ := Aside0.mk (below_step (by repeat (first | (with_reducible first | exact HB.out | apply below_alloc | apply pw_below_drewN | apply below_drew1 | refine below_set ?_ GE464.out) | exact HB.out)) hb); clear HO_4; clear HO_6; clear HO_7; clear BK464; clear HB; have HO_4 := n0_; have HO_6 := n1_; have HO_7 := n2_; have HO485 := n3_; have BK464 := n4_; have HB := n5_; clear n0_ n1_ n2_ n3_ n4_ n5_; (try clear hb); (try clear hb2); (try clear hk); (try clear hi); (try clear ho0); obtain ⟨Ao34, co34, eo34⟩ := Kd.S_slice HO485.out; subst eo34) | ((with_reducible refine gate_callee (f := 38) rfl ?_); refine goesL_ (some 79) rfl rfl Try.func38 (by kernel_rfl) rfl #[.int .i64 t465, .slice Ao13 t466.length co13, .slice Ao34 t483.length co34, .slice Ao14 t469.length co14] rfl (by (try simp only [List.map_toArray, List.map_cons, List.map_nil]); first | done | rfl | (simp only [List.length_drop, List.length_take]; rfl)) ?_; (with_reducible refine (woggleref02_Nodes.calls kj6 t465 _ _ t466 _ _ t483 _ _ t469 t486 _ ?side1 ?side2 ?side3 ?side4 ?side5 ?side6 A29.out).mono ?_); (case side1 => repeat (first | exact (Kd.R_reads' HO_4.out).2.2 | (with_reducible refine Kd.C_alloc ?_ _) | (with_reducible refine Kd.C_drewN ?_ _) | (with_reducible refine Kd.C_drew ?_))); (case side2 => exact (Kd.R_reads' HO_4.out).2.1); (case side3 => repeat (first | exact (Kd.S_reads' HO485.out).2.2 | (with_reducible refine Kd.C_alloc ?_ _) | (with_reducible refine Kd.C_drewN ?_ _) | (with_reducible refine Kd.C_drew ?_))); (case side4 => exact (Kd.S_reads' HO485.out).2.1); (case side5 => repeat (first | exact (Kd.R_reads' HO_6.out).2.2 | (with_reducible refine Kd.C_alloc ?_ _) | (with_reducible refine Kd.C_drewN ?_ _) | (with_reducible refine Kd.C_drew ?_))); (case side6 => exact (Kd.R_reads' HO_6.out).2.1); rintro e w35 ⟨v487, rfl, ho0, hb⟩; refine ⟨_, rfl, ?_⟩; have n0_ := Aside0.mk (Kd.R_below (by (with_reducible repeat (first | apply Kd.R_alloc | apply Kd.R_drewN | apply Kd.R_drew)); exact HO_4.out) hb); have n1_ := Aside0.mk (Kd.R_below (by (with_reducible repeat (first | apply Kd.R_alloc | apply Kd.R_drewN | apply Kd.R_drew)); exact HO_6.out) hb); have n2_ := Aside0.mk (Kd.S_below (by (with_reducible repeat (first | apply Kd.S_alloc | apply Kd.S_drewN | apply Kd.S_drew)); exact HO_7.out) hb); have n3_ := Aside0.mk (Kd.S_below (by (with_reducible repeat (first | apply Kd.S_alloc | apply Kd.S_drewN | apply Kd.S_drew)); exact HO485.out) hb); have n4_ := Aside0.mk (Kd.S_lower (Kd.S_new' ho0 (Kd.R_lt (by (with_reducible repeat (first | apply Kd.R_alloc | apply Kd.R_drewN | apply Kd.R_drew)); exact HO_6.out))) (below_size (by repeat (first | (with_reducible first | exact HB.out | apply below_alloc | apply pw_below_drewN | apply below_drew1 | refine below_set ?_ GE464.out) | exact HB.out)))); have n5_ := Aside0.mk (blk_below (g := gb464) (o := .cells #[.int .u8 a0_0, .int .u8 a0_1, .slice A0_2 l0_2.length c0_2, .slice A0_3 l0_3.length c0_3, .slice A0_4 l0_4.length c0_4] 56 (0, 0)) (by (with_reducible repeat (first | refine blk_drewN ?_ _ | refine blk_drew ?_ | refine blk_alloc ?_ _)); exact BK464.out) hb); have n6_ := Aside0.mk (below_step (by repeat (first | (with_reducible first | exact HB.out | apply below_alloc | apply pw_below_drewN | apply below_drew1 | refine below_set ?_ GE464.out) | exact HB.out)) hb); clear HO_4; clear HO_6; clear HO_7; clear HO485; clear BK464; clear HB; have HO_4 := n0_; have HO_6 := n1_; have HO_7 := n2_; have HO485 := n3_; have HO488 := n4_; have BK464 := n5_; have HB := n6_; clear n0_ n1_ n2_ n3_ n4_ n5_ n6_; (try clear hb); (try clear hb2); (try clear hk); (try clear hi); (try clear ho0); obtain ⟨Ao36, co36, eo36⟩ := Kd.S_slice HO488.out; subst eo36; have p489 : 0 ≤ ((ji30) : Int) := of_decide_eq_true (by first | (with_reducible assumption) | assumption); have q489 : (ji30) < (t486.length : Int) := of_decide_eq_true (by first | (with_reducible assumption) | assumption); obtain ⟨ad489, A489_0, c489_0, A489_1, c489_1, e489, hx489_0, hx489_1, hl489_0, hi489_0, hl489_1, hi489_1⟩ := at_T63 (Kd.S_reads' HO488.out).2.2 (ji30) p489 q489; cases e489; obtain ⟨ce489, hce489, hMe489, hcc489⟩ := Kd.S_get HO488.out z63 (ji30) p489 (by first | exact q489 | exact of_decide_eq_true (by first | (with_reducible assumption) | assumption) | (have e_ := (Kd.S_reads' HO488.out).1; omega)); obtain ⟨ve489_0, ve489_1, rfl, ge489_0, ge489_1⟩ := k63_openM hMe489; have hv489_0 := hcc489 0 _ rfl; rw [Nat.add_zero] at hv489_0; replace hv489_0 := Option.some.inj (hv489_0.symm.trans hx489_0); rw [hv489_0] at ge489_0; have HL489_0 := Aside0.mk (show Kd.R (Kd.int .i64) 3 _ _ _ _ ((rd_T63 t486 (ji30)).f0) from ge489_0); clear hv489_0 ge489_0; have hv489_1 := hcc489 1 _ rfl; rw [add_field _ _ 1 (by omega)] at hv489_1; replace hv489_1 := Option.some.inj (hv489_1.symm.trans hx489_1); rw [hv489_1] at ge489_1; have HL489_1 := Aside0.mk (show Kd.R (Kd.int .i64) 3 _ _ _ _ ((rd_T63 t486 (ji30)).f1) from ge489_1); clear hv489_1 ge489_1; clear hcc489 hce489; have HR489_0 := Aside0.mk hi489_0; have HC489_0 := Aside0.mk hl489_0; clear hi489_0 hl489_0; have HR489_1 := Aside0.mk hi489_1; have HC489_1 := Aside0.mk hl489_1; clear hi489_1 hl489_1; replace p489 := eq_true p489; replace q489 := eq_true q489) | ((with_reducible refine gate_dst (N := 86) rfl ?_); (try (refine gate_guard (by rfl) ?_; dsimp only)); refine Kd.R_lit (Kd.int .i64) _ 3 ?hg (N := 86) ?hd (xs := ([] : List Int)) (inner := []) (ok := fun _ => True) (okp := fun _ => True) ?hr ?hp (fun _ hk => hk) trivial (Below.refl _ _) (Nat.le_refl _) (by simp) ?_; (case hd => rfl); (case hg => rfl); (case hr => first | (go_simp; done) | (go_simp; rfl)); (case hp => exact (Reps.none _ _)); intro v491 w37 ho38 hb hg_ hnew_; clear hg_ hnew_; (first | rw [← Ny490.out] at ho38 | (simp only [Int.reduceToNat] at ho38; rw [← Ny490.out] at ho38)); have n0_ := Aside0.mk (Kd.R_below (by (with_reducible repeat (first | apply Kd.R_alloc | apply Kd.R_drewN | apply Kd.R_drew)); exact HO_4.out) hb); have n1_ := Aside0.mk (Kd.R_elder' (by (with_reducible repeat (first | apply Kd.R_alloc | apply Kd.R_drewN | apply Kd.R_drew)); exact HO_6.out) (Kd.R_base ho38) hb); have n2_ := Aside0.mk (Kd.S_elder' (by (with_reducible repeat (first | apply Kd.S_alloc | apply Kd.S_drewN | apply Kd.S_drew)); exact HO_7.out) (Kd.R_base ho38) hb); have n3_ := Aside0.mk (Kd.S_elder' (by (with_reducible repeat (first | apply Kd.S_alloc | apply Kd.S_drewN | apply Kd.S_drew)); exact HO485.out) (Kd.R_base ho38) hb); have n4_ := Aside0.mk (Kd.S_elder' (by (with_reducible repeat (first | apply Kd.S_alloc | apply Kd.S_drewN | apply Kd.S_drew)); exact HO488.out) (Kd.R_base ho38) hb); have n5_ := Aside0.mk (Kd.R_elder' (by (with_reducible repeat (first | apply Kd.R_alloc | apply Kd.R_drewN | apply Kd.R_drew)); exact HL489_0.out) (Kd.R_base ho38) hb); have n6_ := Aside0.mk (Kd.R_elder' (by (with_reducible repeat (first | apply Kd.R_alloc | apply Kd.R_drewN | apply Kd.R_drew)); exact HL489_1.out) (Kd.R_base ho38) hb); have n7_ := Aside0.mk (Kd.R_lower (Kd.R_new' (Kd.R_new' (Kd.R_new' ho38 (Kd.R_lt (by (with_reducible repeat (first | apply Kd.R_alloc | apply Kd.R_drewN | apply Kd.R_drew)); exact HO_6.out))) (Kd.R_lt (by (with_reducible repeat (first | apply Kd.R_alloc | apply Kd.R_drewN | apply Kd.R_drew)); exact HL489_0.out))) (Kd.R_lt (by (with_reducible repeat (first | apply Kd.R_alloc | apply Kd.R_drewN | apply Kd.R_drew)); exact HL489_1.out))) (below_size (by repeat (first | (with_reducible first | exact HB.out | apply below_alloc | apply pw_below_drewN | apply below_drew1 | refine below_set ?_ GE464.out) | exact HB.out)))); have n8_ := Aside0.mk (blk_below (g := gb464) (o := .cells #[.int .u8 a0_0, .int .u8 a0_1, .slice A0_2 l0_2.length c0_2, .slice A0_3 l0_3.length c0_3, .slice A0_4 l0_4.length c0_4] 56 (0, 0)) (by (with_reducible repeat (first | refine blk_drewN ?_ _ | refine blk_drew ?_ | refine blk_alloc ?_ _)); exact BK464.out) hb); have n9_ := Aside0.mk (Kd.C_below (by repeat (first | (with_reducible exact HR489_0.out) | (with_reducible refine Kd.C_alloc ?_ _) | (with_reducible refine Kd.C_drewN ?_ _) | (with_reducible refine Kd.C_drew ?_) | exact HR489_0.out | exact (Kd.C_below HR489_0.out HB.out))) hb); have n10_ := Aside0.mk (Kd.C_below (by repeat (first | (with_reducible exact HR489_1.out) | (with_reducible refine Kd.C_alloc ?_ _) | (with_reducible refine Kd.C_drewN ?_ _) | (with_reducible refine Kd.C_drew ?_) | exact HR489_1.out | exact (Kd.C_below HR489_1.out HB.out))) hb); have n11_ := Aside0.mk (below_step (by repeat (first | (with_reducible first | exact HB.out | apply below_alloc | apply pw_below_drewN | apply below_drew1 | refine below_set ?_ GE464.out) | exact HB.out)) hb); clear HO_4; clear HO_6; clear HO_7; clear HO485; clear HO488; clear HL489_0; clear HL489_1; clear BK464; clear HR489_0; clear HR489_1; clear HB; have HO_4 := n0_; have HO_6 := n1_; have HO_7 := n2_; have HO485 := n3_; have HO488 := n4_; have HL489_0 := n5_; have HL489_1 := n6_; have HO492 := n7_; have BK464 := n8_; have HR489_0 := n9_; have HR489_1 := n10_; have HB := n11_; clear n0_ n1_ n2_ n3_ n4_ n5_ n6_ n7_ n8_ n9_ n10_ n11_; clear hb ho38) | ((with_reducible refine gate_dst (N := 13) rfl ?_); (try (refine gate_guard (by rfl) ?_; dsimp only)); refine box_event ?hg (N := 13) ?hd (cs := #[.slice none 0 0, .slice none 0 0]) (t := 63) ?hr ?_; (case hd => rfl); (case hg => rfl); (case hr => first | (go_simp; done) | (go_simp; rfl)); intro gb493 hg w39 hbox hb; have n0_ := Aside0.mk (Kd.R_below (by (with_reducible repeat (first | apply Kd.R_alloc | apply Kd.R_drewN | apply Kd.R_drew)); exact HO_4.out) hb); have n1_ := Aside0.mk (Kd.R_below (by (with_reducible repeat (first | apply Kd.R_alloc | apply Kd.R_drewN | apply Kd.R_drew)); exact HO_6.out) hb); have n2_ := Aside0.mk (Kd.S_below (by (with_reducible repeat (first | apply Kd.S_alloc | apply Kd.S_drewN | apply Kd.S_drew)); exact HO_7.out) hb); have n3_ := Aside0.mk (Kd.S_below (by (with_reducible repeat (first | apply Kd.S_alloc | apply Kd.S_drewN | apply Kd.S_drew)); exact HO485.out) hb); have n4_ := Aside0.mk (Kd.S_below (Kd.S_elderB (by (with_reducible repeat (first | apply Kd.S_alloc | apply Kd.S_drewN | apply Kd.S_drew)); exact HO488.out) gb493 (Nat.le_of_eq hg.symm)) hb); have n5_ := Aside0.mk (Kd.R_below (by (with_reducible repeat (first | apply Kd.R_alloc | apply Kd.R_drewN | apply Kd.R_drew)); exact HL489_0.out) hb); have n6_ := Aside0.mk (Kd.R_below (by (with_reducible repeat (first | apply Kd.R_alloc | apply Kd.R_drewN | apply Kd.R_drew)); exact HL489_1.out) hb); have n7_ := Aside0.mk (Kd.R_below (by (with_reducible repeat (first | apply Kd.R_alloc | apply Kd.R_drewN | apply Kd.R_drew)); exact HO492.out) hb); have n8_ := Aside0.mk (blk_below (g := gb464) (o := .cells #[.int .u8 a0_0, .int .u8 a0_1, .slice A0_2 l0_2.length c0_2, .slice A0_3 l0_3.length c0_3, .slice A0_4 l0_4.length c0_4] 56 (0, 0)) (by (with_reducible repeat (first | refine blk_drewN ?_ _ | refine blk_drew ?_ | refine blk_alloc ?_ _)); exact BK464.out) hb); have n9_ := Aside0.mk (Kd.C_below (by repeat (first | (with_reducible exact HR489_0.out) | (with_reducible refine Kd.C_alloc ?_ _) | (with_reducible refine Kd.C_drewN ?_ _) | (with_reducible refine Kd.C_drew ?_) | exact HR489_0.out | exact (Kd.C_below HR489_0.out HB.out))) hb); have n10_ := Aside0.mk (Kd.C_below (by repeat (first | (with_reducible exact HR489_1.out) | (with_reducible refine Kd.C_alloc ?_ _) | (with_reducible refine Kd.C_drewN ?_ _) | (with_reducible refine Kd.C_drew ?_) | exact HR489_1.out | exact (Kd.C_below HR489_1.out HB.out))) hb); have n11_ := Aside0.mk (below_step (by repeat (first | (with_reducible first | exact HB.out | apply below_alloc | apply pw_below_drewN | apply below_drew1 | refine below_set ?_ GE464.out) | exact HB.out)) hb); have n12_ := Aside0.mk (hbox); have n13_ := Aside0.mk ((by rw [hg]; exact (below_size (by repeat (first | (with_reducible first | exact HB.out | apply below_alloc | apply pw_below_drewN | apply below_drew1 | refine below_set ?_ GE464.out) | exact HB.out))) : w.heap.size ≤ gb493)); have n14_ := Aside0.mk ((by rw [hg]; exact (below_size (by repeat (first | (with_reducible first | exact HB.out | apply below_alloc | apply pw_below_drewN | apply below_drew1 | refine below_set ?_ GE464.out) | exact HB.out))) : w.heap.size ≤ gb493)); have n15_ := Aside0.mk ((by rw [hg]; exact Nat.ne_of_lt (blk_lt (g := gb464) (o := .cells #[.int .u8 a0_0, .int .u8 a0_1, .slice A0_2 l0_2.length c0_2, .slice A0_3 l0_3.length c0_3, .slice A0_4 l0_4.length c0_4] 56 (0, 0)) (by (with_reducible repeat (first | refine blk_drewN ?_ _ | refine blk_drew ?_ | refine blk_alloc ?_ _)); exact BK464.out)) : gb464 ≠ gb493)); have n16_ := Aside0.mk ((by rw [hg]; exact Nat.ne_of_gt (blk_lt (g := gb464) (o := .cells #[.int .u8 a0_0, .int .u8 a0_1, .slice A0_2 l0_2.length c0_2, .slice A0_3 l0_3.length c0_3, .slice A0_4 l0_4.length c0_4] 56 (0, 0)) (by (with_reducible repeat (first | refine blk_drewN ?_ _ | refine blk_drew ?_ | refine blk_alloc ?_ _)); exact BK464.out)) : gb493 ≠ gb464)); clear HO_4; clear HO_6; clear HO_7; clear HO485; clear HO488; clear HL489_0; clear HL489_1; clear HO492; clear BK464; clear HR489_0; clear HR489_1; clear HB; have HO_4 := n0_; have HO_6 := n1_; have HO_7 := n2_; have HO485 := n3_; have HO488 := n4_; have HL489_0 := n5_; have HL489_1 := n6_; have HO492 := n7_; have BK464 := n8_; have HR489_0 := n9_; have HR489_1 := n10_; have HB := n11_; have BK493 := n12_; have GW493 := n13_; have GE493 := n14_; have NB464_493 := n15_; have NB493_464 := n16_; clear n0_ n1_ n2_ n3_ n4_ n5_ n6_ n7_ n8_ n9_ n10_ n11_ n12_ n13_ n14_ n15_ n16_; clear hb hbox hg; have hnb40 := NB493_464.out; have hnc40 := NB464_493.out; have hcz41_0 : w39.cell? ⟨gb493, 0, none⟩ = some (.slice none 0 0) := (blk_cell BK493.out 0).trans rfl; have hcz41_1 : w39.cell? ⟨gb493, 1, none⟩ = some (.slice none 0 0) := (blk_cell BK493.out 1).trans rfl; have hfz41_0 := blk_frozen BK493.out 0; have hfz41_1 := blk_frozen BK493.out 1))
            go_loopg [14, 15] kj6 (fun kq v14 v15 w' => ∃ (x14_2 : List Int) (x15_2 : Int), v15 = .int .i64 x15_2 ∧ Aside0 (wogglelaw02_TrackFitch.l0 kq t465 (wrap64 ((Int.tmod (wrap64 (a0_1)) 4) + 1)) t472 t480 x14_2 x15_2 ((rd_T63 t486 (ji30)).f0) ((rd_T63 t486 (ji30)).f1) = some r) ∧ Aside0 (kq ≤ kj6) ∧ Aside0 (Kd.S (Kd.slice 3 (Kd.int .i64)) 25 w' w.heap.size (fun k_ => some k_ ≠ (v14 : Value).ownBlock) v475 t472) ∧ Aside0 (Kd.R (Kd.int .i64) 3 w' w.heap.size (fun _ => True) v14 x14_2) ∧ Aside0 (Kd.R (Kd.int .i64) 3 w' w.heap.size (fun k_ => some k_ ≠ (v14 : Value).ownBlock) (.slice A489_0 ((rd_T63 t486 (ji30)).f0).length c489_0) ((rd_T63 t486 (ji30)).f0)) ∧ Aside0 (w'.heap[gb464]? = some (.cells #[.int .u8 a0_0, .int .u8 a0_1, (.slice A0_2 l0_2.length c0_2), (.slice A0_3 l0_3.length c0_3), (.slice A0_4 l0_4.length c0_4)] 56 (0, 0))) ∧ Aside0 (w'.heap[gb493]? = some (.cells #[(.slice A489_0 ((rd_T63 t486 (ji30)).f0).length c489_0), (.slice A489_1 ((rd_T63 t486 (ji30)).f1).length c489_1)] 63 (0, 0))) ∧ Aside0 (Below w.heap.size w w'))
            case atStart => exact ⟨(y490), (0), (by first | rfl | (simp; done) | (simp [*]; done)), H', ⟨Nat.le_refl _⟩, ⟨by (with_reducible repeat (first | apply Kd.S_alloc | apply Kd.S_drewN | apply Kd.S_drew)); exact Kd.S_mono (Kd.S_far (p := ⟨gb493, 1, none⟩) (Kd.S_far (p := ⟨gb493, 0, none⟩) (Kd.S_types HO_7.out BK493.out (by decide)) (fun _ hk => hk.2) (.slice A489_0 ((rd_T63 t486 (ji30)).f0).length c489_0)) (fun _ hk => hk.2) (.slice A489_1 ((rd_T63 t486 (ji30)).f1).length c489_1)) (fun _ hk => hk.1.2)⟩, ⟨by (with_reducible repeat (first | apply Kd.R_alloc | apply Kd.R_drewN | apply Kd.R_drew)); exact Kd.R_mono (Kd.R_far (p := ⟨gb493, 1, none⟩) (Kd.R_far (p := ⟨gb493, 0, none⟩) (Kd.R_types HO492.out BK493.out (by decide)) (fun _ hk => hk.2) (.slice A489_0 ((rd_T63 t486 (ji30)).f0).length c489_0)) (fun _ hk => hk.2) (.slice A489_1 ((rd_T63 t486 (ji30)).f1).length c489_1)) (fun _ hk => trivial)⟩, ⟨by (with_reducible repeat (first | apply Kd.R_alloc | apply Kd.R_drewN | apply Kd.R_drew)); exact Kd.R_mono (Kd.R_far (p := ⟨gb493, 1, none⟩) (Kd.R_far (p := ⟨gb493, 0, none⟩) (Kd.R_types HL489_0.out BK493.out (by decide)) (fun _ hk => hk.2) (.slice A489_0 ((rd_T63 t486 (ji30)).f0).length c489_0)) (fun _ hk => hk.2) (.slice A489_1 ((rd_T63 t486 (ji30)).f1).length c489_1)) (fun _ hk => hk.1.2)⟩, ⟨by (with_reducible repeat (first | refine blk_drewN ?_ _ | refine blk_drew ?_ | refine blk_alloc ?_ _)); refine blk_far ?_ NB464_493.out _; (with_reducible repeat (first | refine blk_drewN ?_ _ | refine blk_drew ?_ | refine blk_alloc ?_ _)); refine blk_far ?_ NB464_493.out _; (with_reducible repeat (first | refine blk_drewN ?_ _ | refine blk_drew ?_ | refine blk_alloc ?_ _)); exact BK464.out⟩, ⟨by (with_reducible repeat (first | refine blk_drewN ?_ _ | refine blk_drew ?_ | refine blk_alloc ?_ _)); refine blk_put (cs := #[.slice A489_0 ((rd_T63 t486 (ji30)).f0).length c489_0, .slice none 0 0]) ?_ 1 _ rfl; (with_reducible repeat (first | refine blk_drewN ?_ _ | refine blk_drew ?_ | refine blk_alloc ?_ _)); refine blk_put (cs := #[.slice none 0 0, .slice none 0 0]) ?_ 0 _ rfl; (with_reducible repeat (first | refine blk_drewN ?_ _ | refine blk_drew ?_ | refine blk_alloc ?_ _)); exact BK493.out⟩, ⟨by repeat (first | (with_reducible first | exact HB.out | apply below_alloc | apply pw_below_drewN | apply below_drew1 | refine below_set ?_ GE464.out | refine below_set ?_ GE493.out) | exact HB.out)⟩⟩
            case round =>
              clear H'
              try clear c1
              try clear c2
              try clear p2
              try clear c3
              try clear c4
              try clear p4
              try clear q4
              try clear hx4
              try clear p6
              try clear c7
              try clear c19
              try clear c19b0
              try clear c19b1
              try clear c20
              try clear c20b0
              try clear c20b1
              try clear c21
              try clear c21b0
              try clear c21b1
              try clear c22
              try clear c22b0
              try clear c22b1
              try clear c27
              try clear c31
              try clear c31b0
              try clear c32
              try clear c32b0
              try clear c35
              try clear c36
              try clear c37
              try clear c38
              try clear c40
              try clear hcz11_0
              try clear hcz11_1
              try clear hcz11_2
              try clear hcz11_3
              try clear hcz11_4
              try clear hcz41_0
              try clear hcz41_1
              try clear hcz9_0
              try clear hcz9_1
              try clear hcz9_2
              try clear hcz9_3
              try clear hcz9_4
              try clear hfz11_0
              try clear hfz11_1
              try clear hfz11_2
              try clear hfz11_3
              try clear hfz11_4
              try clear hfz41_0
              try clear hfz41_1
              try clear hfz9_0
              try clear hfz9_1
              try clear hfz9_2
              try clear hfz9_3
              try clear hfz9_4
              try clear hx489_0
              try clear hx489_1
              try clear p2
              try clear p489
              try clear p6
              try clear q489
              obtain ⟨x14_2, x15_2, rfl, HA, HK2, HO_7, HO_14, HLx, BK464, BK493, HB⟩ := hrel
              cases gk with
              | zero => exact absurd HA.out (by simp [wogglelaw02_TrackFitch.l0])
              | succ k2 =>
                have H := HA.out
                clear HA
                simp only [wogglelaw02_TrackFitch.l0] at H
                by_cases c42 : x15_2 < (wrap64 ((Int.tmod (wrap64 (a0_1)) 4) + 1))
                · rw [if_pos c42] at H
                  have c42b0 : decide (x15_2 < (wrap64 ((Int.tmod (wrap64 (a0_1)) 4) + 1))) = true := decide_eq_true c42
                  clear c42
                  by_cases c43 : 0 ≤ x15_2
                  · rw [if_pos c43] at H
                    have c43b0 : decide (0 ≤ x15_2) = true := decide_eq_true c43
                    clear c43
                    by_cases c44 : x15_2 < (((rd_T63 t486 (ji30)).f0).length : Int)
                    · rw [if_pos c44] at H
                      have c44b0 : decide (x15_2 < (((rd_T63 t486 (ji30)).f0).length : Int)) = true := decide_eq_true c44
                      clear c44
                      by_cases c45 : (rd ((rd_T63 t486 (ji30)).f0) x15_2) = t480
                      · rw [if_pos c45] at H
                        have c45b0 : ((rd ((rd_T63 t486 (ji30)).f0) x15_2) == t480) = true := beq_iff_eq.mpr c45
                        have c45b1 : ((rd ((rd_T63 t486 (ji30)).f0) x15_2) != t480) = false := bne_eq_false_iff_eq.mpr c45
                        clear c45
                        by_cases c46 : x14_2.length < 17592186044416
                        · rw [if_pos c46] at H
                          have LMc46 := Aside0.mk c46
                          clear c46
                          obtain ⟨y495, hy495⟩ : ∃ y_ : List Int, y_ = (x14_2 ++ [x15_2]) := ⟨_, rfl⟩
                          replace H : (wogglelaw02_TrackFitch.l0 k2 t465 (wrap64 ((Int.tmod (wrap64 (a0_1)) 4) + 1)) t472 t480 y495 (wrap64 (x15_2 + 1)) ((rd_T63 t486 (ji30)).f0) ((rd_T63 t486 (ji30)).f1)) = some r := by first | (rw [hy495]; with_reducible exact H) | (have H2_ := (Option.bind_some _ _).symm.trans H; rw [hy495]; with_reducible exact H2_) | (have H2_ := (Option.bind_some _ _).symm.trans H; with_reducible exact H2_) | with_reducible exact H | (rw [hy495]; exact H) | exact H
                          have Ny495 := Aside0.mk hy495
                          clear hy495
                          have H' := Aside0.mk H
                          clear H
                          have hnb47 := NB493_464.out
                          have hnc47 := NB464_493.out
                          have hcz48_0 : wr.cell? ⟨gb493, 0, none⟩ = some (.slice A489_0 ((rd_T63 t486 (ji30)).f0).length c489_0) := (blk_cell BK493.out 0).trans rfl
                          have hcz48_1 : wr.cell? ⟨gb493, 1, none⟩ = some (.slice A489_1 ((rd_T63 t486 (ji30)).f1).length c489_1) := (blk_cell BK493.out 1).trans rfl
                          have hfz48_0 := blk_frozen BK493.out 0
                          have hfz48_1 := blk_frozen BK493.out 1
                          have p494 : 0 ≤ (x15_2 : Int) := of_decide_eq_true (by first | (with_reducible assumption) | assumption)
                          have q494 : x15_2 < (((rd_T63 t486 (ji30)).f0).length : Int) := of_decide_eq_true (by first | (with_reducible assumption) | assumption)
                          obtain ⟨ad494, e494, hx494_0⟩ := Kd.at_int (Kd.R_reads' HLx.out).2.2 x15_2 p494 q494
                          cases e494
                          skip
                          replace p494 := eq_true p494
                          replace q494 := eq_true q494
                          go_wp2_with (first | ((with_reducible refine gate_builtin (b := .append) (xs := #[.tmp 99, .tmp 101]) rfl ?_); (try (refine gate_guard (by rfl) ?_; dsimp only)); at_builtin; refine Kd.R_append (Kd.int .i64) (w0 := w) w.heap.size rfl (.tmp 99) (.tmp 101) 25 3 (.int .i64 0) 8 rfl Try.underlying25 info3 rfl (by decide) (by omega) u14 x14_2 x15_2 [.int .i64 x15_2] (fun _ => True) (fun _ => False) rfl rfl ?aP (fun _ hk => hk.elim) ?aF ?aO ?aB ?aS ?aL ?_; (case aP => exact rfl); (case aB => exact (by repeat (first | (with_reducible first | exact HB.out | apply below_alloc | apply pw_below_drewN | apply below_drew1 | refine below_set ?_ GE464.out | refine below_set ?_ GE493.out) | exact HB.out))); (case aF => exact (fun _ _ => trivial)); (case aO => exact (by (with_reducible repeat (first | apply Kd.R_alloc | apply Kd.R_drewN | apply Kd.R_drew)); exact HO_14.out)); (case aS => exact (below_size (by repeat (first | (with_reducible first | exact HB.out | apply below_alloc | apply pw_below_drewN | apply below_drew1 | refine below_set ?_ GE464.out | refine below_set ?_ GE493.out) | exact HB.out)))); (case aL => have := LMc46.out; omega); intro v496 w49 ho hb hg hat; rw [← Ny495.out] at ho; have n0_ := Aside0.mk (Kd.S_after (ok := (fun _ => True)) (by (with_reducible repeat (first | apply Kd.S_alloc | apply Kd.S_drewN | apply Kd.S_drew)); exact Kd.S_mono HO_7.out (fun _ hk => ⟨trivial, hk⟩)) hg hat); have n1_ := Aside0.mk (blk_grown (g := gb464) (o := .cells #[.int .u8 a0_0, .int .u8 a0_1, .slice A0_2 l0_2.length c0_2, .slice A0_3 l0_3.length c0_3, .slice A0_4 l0_4.length c0_4] 56 (0, 0)) (by (with_reducible repeat (first | refine blk_drewN ?_ _ | refine blk_drew ?_ | refine blk_alloc ?_ _)); exact BK464.out) hg (Kd.R_ne HO_14.out BK464.out (by decide))); have n2_ := Aside0.mk (blk_grown (g := gb493) (o := .cells #[.slice (some ad494) ((rd_T63 t486 (ji30)).f0).length c489_0, .slice A489_1 ((rd_T63 t486 (ji30)).f1).length c489_1] 63 (0, 0)) (by (with_reducible repeat (first | refine blk_drewN ?_ _ | refine blk_drew ?_ | refine blk_alloc ?_ _)); exact BK493.out) hg (Kd.R_ne HO_14.out BK493.out (by decide))); have nL_ := Aside0.mk (Kd.R_after (ok := (fun _ => True)) (by (with_reducible repeat (first | apply Kd.R_alloc | apply Kd.R_drewN | apply Kd.R_drew)); exact Kd.R_mono HLx.out (fun _ hk => ⟨trivial, hk⟩)) hg hat); have n3_ := Aside0.mk (hb); have n4_ := Aside0.mk (ho); clear HO_7; clear BK464; clear BK493; clear HB; clear HO_14; clear HLx; have HLx := nL_; have HO_7 := n0_; have BK464 := n1_; have BK493 := n2_; have HB := n3_; have HO497 := n4_; clear n0_ n1_ n2_ n3_ n4_ nL_; clear ho hb hg hat))
                          go_roundg k2
                          case measure => have := HJ6.out; have := HK2.out; omega
                          case rel => exact ⟨(y495), (wrap64 (x15_2 + 1)), (by first | rfl | (simp; done) | (simp [*]; done)), H', ⟨by have := HJ6.out; have := HK2.out; omega⟩, ⟨by (with_reducible repeat (first | apply Kd.S_alloc | apply Kd.S_drewN | apply Kd.S_drew)); exact Kd.S_mono HO_7.out (fun _ hk => hk.2)⟩, ⟨by (with_reducible repeat (first | apply Kd.R_alloc | apply Kd.R_drewN | apply Kd.R_drew)); exact HO497.out⟩, ⟨by (with_reducible repeat (first | apply Kd.R_alloc | apply Kd.R_drewN | apply Kd.R_drew)); exact Kd.R_mono HLx.out (fun _ hk => hk.2)⟩, ⟨by (with_reducible repeat (first | refine blk_drewN ?_ _ | refine blk_drew ?_ | refine blk_alloc ?_ _)); exact BK464.out⟩, ⟨by (with_reducible repeat (first | refine blk_drewN ?_ _ | refine blk_drew ?_ | refine blk_alloc ?_ _)); exact BK493.out⟩, ⟨by repeat (first | (with_reducible first | exact HB.out | apply below_alloc | apply pw_below_drewN | apply below_drew1 | refine below_set ?_ GE464.out | refine below_set ?_ GE493.out) | exact HB.out)⟩⟩
                        · rw [if_neg c46] at H
                          exact absurd H (by simp)
                      · rw [if_neg c45] at H
                        have c45b0 : ((rd ((rd_T63 t486 (ji30)).f0) x15_2) == t480) = false := beq_eq_false_iff_ne.mpr c45
                        have c45b1 : ((rd ((rd_T63 t486 (ji30)).f0) x15_2) != t480) = true := bne_iff_ne.mpr c45
                        have H' := Aside0.mk H
                        clear H
                        have hnb50 := NB493_464.out
                        have hnc50 := NB464_493.out
                        have hcz51_0 : wr.cell? ⟨gb493, 0, none⟩ = some (.slice A489_0 ((rd_T63 t486 (ji30)).f0).length c489_0) := (blk_cell BK493.out 0).trans rfl
                        have hcz51_1 : wr.cell? ⟨gb493, 1, none⟩ = some (.slice A489_1 ((rd_T63 t486 (ji30)).f1).length c489_1) := (blk_cell BK493.out 1).trans rfl
                        have hfz51_0 := blk_frozen BK493.out 0
                        have hfz51_1 := blk_frozen BK493.out 1
                        have p494 : 0 ≤ (x15_2 : Int) := of_decide_eq_true (by first | (with_reducible assumption) | assumption)
                        have q494 : x15_2 < (((rd_T63 t486 (ji30)).f0).length : Int) := of_decide_eq_true (by first | (with_reducible assumption) | assumption)
                        obtain ⟨ad494, e494, hx494_0⟩ := Kd.at_int (Kd.R_reads' HLx.out).2.2 x15_2 p494 q494
                        cases e494
                        skip
                        replace p494 := eq_true p494
                        replace q494 := eq_true q494
                        go_wp2
                        go_roundg k2
                        case measure => have := HJ6.out; have := HK2.out; omega
                        case rel => exact ⟨(x14_2), (wrap64 (x15_2 + 1)), (by first | rfl | (simp; done) | (simp [*]; done)), H', ⟨by have := HJ6.out; have := HK2.out; omega⟩, ⟨by (with_reducible repeat (first | apply Kd.S_alloc | apply Kd.S_drewN | apply Kd.S_drew)); exact HO_7.out⟩, ⟨by (with_reducible repeat (first | apply Kd.R_alloc | apply Kd.R_drewN | apply Kd.R_drew)); exact HO_14.out⟩, ⟨by (with_reducible repeat (first | apply Kd.R_alloc | apply Kd.R_drewN | apply Kd.R_drew)); exact HLx.out⟩, ⟨by (with_reducible repeat (first | refine blk_drewN ?_ _ | refine blk_drew ?_ | refine blk_alloc ?_ _)); exact BK464.out⟩, ⟨by (with_reducible repeat (first | refine blk_drewN ?_ _ | refine blk_drew ?_ | refine blk_alloc ?_ _)); exact BK493.out⟩, ⟨by repeat (first | (with_reducible first | exact HB.out | apply below_alloc | apply pw_below_drewN | apply below_drew1 | refine below_set ?_ GE464.out | refine below_set ?_ GE493.out) | exact HB.out)⟩⟩
                    · rw [if_neg c44] at H
                      exact absurd H (by simp)
                  · rw [if_neg c43] at H
                    exact absurd H (by simp)
                · rw [if_neg c42] at H
                  have c42b0 : decide (x15_2 < (wrap64 ((Int.tmod (wrap64 (a0_1)) 4) + 1))) = false := decide_eq_false c42
                  clear c42
                  obtain ⟨ji52, hji52⟩ : ∃ j_ : Int, (wrap64 (t465 - 2)) = j_ := ⟨_, rfl⟩
                  replace H : (if 0 ≤ (ji52) then (if (ji52) < (t472.length : Int) then ((woggleref01_Same.f k2 (rd_L3 t472 (ji52)) x14_2).bind fun t499 => (some t499)) else (none)) else (none)) = some r := by first | (rw [hji52] at H; exact H) | (simp only [hji52] at H ⊢; exact H)
                  have hji52w : (IntKind.i64.wrap (t465 - 2)) = ji52 := (i64_w _).trans hji52
                  by_cases c53 : 0 ≤ (ji52)
                  · rw [if_pos c53] at H
                    have c53b0 : decide (0 ≤ (ji52)) = true := decide_eq_true c53
                    clear c53
                    by_cases c54 : (ji52) < (t472.length : Int)
                    · rw [if_pos c54] at H
                      have c54b0 : decide ((ji52) < (t472.length : Int)) = true := decide_eq_true c54
                      clear c54
                      replace H := Option.bind_eq_some_iff.mp H
                      obtain ⟨t499, A550, H⟩ := H
                      replace H : (some t499) = some r := H
                      have A55 := Aside0.mk A550
                      clear A550
                      obtain rfl := Option.some.inj H
                      obtain ⟨Ao56, co56, eo56⟩ := Kd.S_slice HO_7.out
                      subst eo56
                      have p498 : 0 ≤ ((ji52) : Int) := of_decide_eq_true (by first | (with_reducible assumption) | assumption)
                      have q498 : (ji52) < (t472.length : Int) := of_decide_eq_true (by first | (with_reducible assumption) | assumption)
                      obtain ⟨ad498, A498_0, c498_0, e498, hx498_0, hl498_0, hi498_0⟩ := at_L3 (Kd.S_reads' HO_7.out).2.2 (ji52) p498 q498
                      cases e498
                      obtain ⟨ce498, hce498, hMe498, hcc498⟩ := Kd.S_get HO_7.out [] (ji52) p498 (by first | exact q498 | exact of_decide_eq_true (by first | (with_reducible assumption) | assumption) | (have e_ := (Kd.S_reads' HO_7.out).1; omega))
                      obtain ⟨ve498_0, rfl, ge498_0⟩ := hMe498
                      have hv498_0 := hcc498 0 _ rfl
                      rw [Nat.add_zero, show ((Kd.slice 3 (Kd.int .i64))).sz = 1 from rfl, Nat.mul_one] at hv498_0
                      replace hv498_0 := Option.some.inj (hv498_0.symm.trans hx498_0)
                      rw [hv498_0] at ge498_0
                      have HL498_0 := Aside0.mk (show Kd.R (Kd.int .i64) 3 _ _ _ _ (rd_L3 t472 (ji52)) from ge498_0)
                      clear hv498_0 ge498_0
                      clear hcc498 hce498
                      have HR498_0 := Aside0.mk hi498_0
                      have HC498_0 := Aside0.mk hl498_0
                      clear hi498_0 hl498_0
                      replace p498 := eq_true p498
                      replace q498 := eq_true q498
                      obtain ⟨Ao57, co57, eo57⟩ := Kd.R_slice HO_14.out
                      subst eo57
                      go_wp2_with (first | ((with_reducible refine gate_callee (f := 29) rfl ?_); refine goesL_ (some 109) rfl rfl Try.func29 (by kernel_rfl) rfl #[.slice A498_0 (rd_L3 t472 (ji52)).length c498_0, .slice Ao57 x14_2.length co57] rfl (by (try simp only [List.map_toArray, List.map_cons, List.map_nil]); first | done | (simp only [hji52]; rfl) | rfl | (simp only [List.length_drop, List.length_take]; rfl)) ?_; (with_reducible refine (woggleref01_Same.calls k2 _ _ (rd_L3 t472 (ji52)) _ _ x14_2 t499 _ ?side1 ?side2 ?side3 ?side4 A55.out).mono ?_); (case side1 => repeat (first | exact (by repeat (first | (with_reducible exact HR498_0.out) | (with_reducible refine Kd.C_alloc ?_ _) | (with_reducible refine Kd.C_drewN ?_ _) | (with_reducible refine Kd.C_drew ?_) | exact HR498_0.out | exact (Kd.C_below HR498_0.out HB.out))) | (with_reducible refine Kd.C_alloc ?_ _) | (with_reducible refine Kd.C_drewN ?_ _) | (with_reducible refine Kd.C_drew ?_))); (case side2 => exact HC498_0.out); (case side3 => repeat (first | exact (Kd.R_reads' HO_14.out).2.2 | (with_reducible refine Kd.C_alloc ?_ _) | (with_reducible refine Kd.C_drewN ?_ _) | (with_reducible refine Kd.C_drew ?_))); (case side4 => exact (Kd.R_reads' HO_14.out).2.1); rintro e w' ⟨rfl, ⟨nd, rfl⟩⟩; refine ⟨_, rfl, ?_⟩))
                      go_ret
                      exact ⟨by first | rfl | (simp [errW_none, errW_some] <;> rfl) | (simp only [← hji30, ← hji52]; first | rfl | (simp [errW_none, errW_some] <;> rfl)) | (simp [*, errW_none, errW_some] <;> rfl), by repeat (first | (with_reducible first | exact HB.out | apply below_alloc | apply pw_below_drewN | apply below_drew1 | refine below_set ?_ GE464.out | refine below_set ?_ GE493.out) | exact HB.out)⟩
                    · rw [if_neg c54] at H
                      exact absurd H (by simp)
                  · rw [if_neg c53] at H
                    exact absurd H (by simp)
          · rw [if_neg c32] at H
            exact absurd H (by simp)
        · rw [if_neg c31] at H
          exact absurd H (by simp)

/-- THE ONE PURE STATEMENT of wogglelaw02_TrackFitch: yours. -/
def wogglelaw02_TrackFitch.Pure : Prop := ∀ (a0_0 : Int) (a0_1 : Int) (l0_2 : List Int) (l0_3 : List Int) (l0_4 : List Int), (Lit.int .u8 a0_0).wf = true → (Lit.int .u8 a0_1).wf = true → (l0_2.length ≤ maxLen ∧ ∀ x0_ ∈ l0_2, (Lit.int .u8 x0_).wf = true) → (l0_3.length ≤ maxLen ∧ ∀ x0_ ∈ l0_3, (Lit.int .u8 x0_).wf = true) → (l0_4.length ≤ maxLen ∧ ∀ x0_ ∈ l0_4, (Lit.int .u8 x0_).wf = true) → ∃ k, wogglelaw02_TrackFitch.f k a0_0 a0_1 l0_2 l0_3 l0_4 = some true

end Go.Proofs.Ytcphmeeighhdjaa.P
