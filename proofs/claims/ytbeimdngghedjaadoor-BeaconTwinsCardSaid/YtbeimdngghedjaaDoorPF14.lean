-- written by a program of this session
import Derived.Test.YtbeimdngghedjaaDoorPK
import Derived.Test.YtbeimdngghedjaaDoorPK2
import Derived.Test.YtbeimdngghedjaaDoorPF16
import Derived.Test.YtbeimdngghedjaaDoorPF16d
import Derived.Test.YtbeimdngghedjaaDoorPF23
import Derived.Test.YtbeimdngghedjaaDoorPF27
import Derived.Test.YtbeimdngghedjaaDoorPF28
import Derived.Test.YtbeimdngghedjaaDoorPF31
import Derived.Test.YtbeimdngghedjaaDoorPF40
import Derived.Test.YtbeimdngghedjaaDoorBB
import Derived.Test.YtbeimdngghedjaaDoorBI
import Derived.Test.YtbeimdngghedjaaDoorBZ
namespace Go.Proofs.YtbeimdngghedjaaDoor.P
open Go.RowKit Go.Proofs.YtbeimdngghedjaaDoorW.PrintWords Go.Proofs.YtbeimdngghedjaaDoorW.PrintLast Go.Proofs.YtbeimdngghedjaaDoorW.PrintMore
attribute [local go_sem] max2_int min2_int max_two min_two max_three min_three max_four min_four   -- for this text's walks alone
set_option linter.unusedVariables false
set_option linter.unusedSimpArgs false

/-! ### wogglelaw07_BeaconTwins: function 14 -/
mutual
def wogglelaw07_BeaconTwins.j0 : Nat → Int → Int → List (S47) → List (List Int) → List Int → Bool → Option (Bool)
  | 0, _, _, _, _, _, _ => none
  | k + 1, x1, x5, x6, x7, x9, x48 => if x48 = true then (some false) else ((wogglelaw07_marks.f k x5 x1).bind fun t626 => ((some (([x9, t626] : List (List Int)) : List (List Int))).bind fun y629 => (wogglelaw07_BeaconTwins.l0 k x5 x6 x7 y629 (y629.length : Int) 0)))
def wogglelaw07_BeaconTwins.l0 : Nat → Int → List (S47) → List (List Int) → List (List Int) → Int → Int → Option (Bool)
  | 0, _, _, _, _, _, _ => none
  | k + 1, x5, x6, x7, x53, x54, x55 => if x55 < x54 then (if 0 ≤ x55 then (if x55 < (x53.length : Int) then ((beacon_Resolves.f k x5 x6 (rd_L5 x53 x55)).bind fun bt633 => (if bt633.2 = 0 then (wogglelaw07_BeaconTwins.l1 k x5 x6 x7 (rd_L5 x53 x55) bt633.1 0 x53 x54 x55) else (some false))) else (none)) else (none)) else (some true)
def wogglelaw07_BeaconTwins.l1 : Nat → Int → List (S47) → List (List Int) → List Int → Bool → Int → List (List Int) → Int → Int → Option (Bool)
  | 0, _, _, _, _, _, _, _, _, _ => none
  | k + 1, x5, x6, x7, x12, x13, x15, x53, x54, x55 => if x15 < (x7.length : Int) then (wogglelaw07_BeaconTwins.j3 k x5 x6 x7 x12 x13 x15 x53 x54 x55 x13) else (wogglelaw07_BeaconTwins.j3 k x5 x6 x7 x12 x13 x15 x53 x54 x55 false)
def wogglelaw07_BeaconTwins.j3 : Nat → Int → List (S47) → List (List Int) → List Int → Bool → Int → List (List Int) → Int → Int → Bool → Option (Bool)
  | 0, _, _, _, _, _, _, _, _, _, _ => none
  | k + 1, x5, x6, x7, x12, x13, x15, x53, x54, x55, x74 => if x74 = true then (if 0 ≤ x15 then (if x15 < (x7.length : Int) then ((woggleref01_Rising.f k x5 (rd_L5 x7 x15)).bind fun t636 => (if t636 = true then (if ((rd_L5 x7 x15).length : Int) < 2 then (some false) else ((woggleref01_Bits.f k (rd_L5 x7 x15)).bind fun t640 => ((woggleref01_Bits.f k x12).bind fun t641 => ((woggleref06_Size.f k (Go.bits .and .i64 t640 t641)).bind fun t642 => (if (wrap64 (((rd_L5 x7 x15).length : Int) - t642)) > 1 then (some false) else (wogglelaw07_BeaconTwins.l1 k x5 x6 x7 x12 x13 (wrap64 (x15 + 1)) x53 x54 x55)))))) else (some false))) else (none)) else (none)) else (wogglelaw07_BeaconTwins.l0 k x5 x6 x7 x53 x54 (wrap64 (x55 + 1)))
end
def wogglelaw07_BeaconTwins.f (k : Nat) (l0 : List (S77)) (a1 : Int) : Option (Bool) := (wogglelaw07_made.f k l0 10).bind fun bt612 => ((beacon_Twins.f k bt612.1 bt612.2).bind fun bt616 => ((beacon_Basis.f bt612.1 bt612.2).bind fun bt620 => (if bt616.2 = 0 then (if bt620.2 = 0 then ((woggleref01_Rising.f k bt612.1 bt620.1).bind fun t624 => (if t624 = true then ((wogglelaw07_lives.f k).bind fun t625 => (wogglelaw07_BeaconTwins.j0 k a1 bt612.1 bt612.2 bt616.1 bt620.1 (!t625))) else (wogglelaw07_BeaconTwins.j0 k a1 bt612.1 bt612.2 bt616.1 bt620.1 true))) else (wogglelaw07_BeaconTwins.j0 k a1 bt612.1 bt612.2 bt616.1 bt620.1 true)) else (wogglelaw07_BeaconTwins.j0 k a1 bt612.1 bt612.2 bt616.1 bt620.1 true))))
theorem wogglelaw07_BeaconTwins.mono_l : ∀ k, (∀ y0 y1 y2 y3 y4 y5, LeO (wogglelaw07_BeaconTwins.j0 k y0 y1 y2 y3 y4 y5) (wogglelaw07_BeaconTwins.j0 (k + 1) y0 y1 y2 y3 y4 y5)) ∧ (∀ y0 y1 y2 y3 y4 y5, LeO (wogglelaw07_BeaconTwins.l0 k y0 y1 y2 y3 y4 y5) (wogglelaw07_BeaconTwins.l0 (k + 1) y0 y1 y2 y3 y4 y5)) ∧ (∀ y0 y1 y2 y3 y4 y5 y6 y7 y8, LeO (wogglelaw07_BeaconTwins.l1 k y0 y1 y2 y3 y4 y5 y6 y7 y8) (wogglelaw07_BeaconTwins.l1 (k + 1) y0 y1 y2 y3 y4 y5 y6 y7 y8)) ∧ (∀ y0 y1 y2 y3 y4 y5 y6 y7 y8 y9, LeO (wogglelaw07_BeaconTwins.j3 k y0 y1 y2 y3 y4 y5 y6 y7 y8 y9) (wogglelaw07_BeaconTwins.j3 (k + 1) y0 y1 y2 y3 y4 y5 y6 y7 y8 y9))
  | 0 => ⟨fun _ _ _ _ _ _ r h => by simp [wogglelaw07_BeaconTwins.j0] at h, fun _ _ _ _ _ _ r h => by simp [wogglelaw07_BeaconTwins.l0] at h, fun _ _ _ _ _ _ _ _ _ r h => by simp [wogglelaw07_BeaconTwins.l1] at h, fun _ _ _ _ _ _ _ _ _ _ r h => by simp [wogglelaw07_BeaconTwins.j3] at h⟩
  | k + 1 => by
    obtain ⟨ih0, ih1, ih2, ih3⟩ := wogglelaw07_BeaconTwins.mono_l k
    refine ⟨?_, ?_, ?_, ?_⟩
    · intro y0 y1 y2 y3 y4 y5
      unfold wogglelaw07_BeaconTwins.j0
      repeat' first
      | (with_reducible exact ih0 _ _ _ _ _ _)
      | (with_reducible exact ih1 _ _ _ _ _ _)
      | (with_reducible exact ih2 _ _ _ _ _ _ _ _ _)
      | (with_reducible exact ih3 _ _ _ _ _ _ _ _ _ _)
      | (with_reducible exact beacon_Resolves.mono _ _ _ _)
      | (with_reducible exact beacon_Twins.mono _ _ _)
      | (with_reducible exact wogglelaw07_lives.mono _)
      | (with_reducible exact wogglelaw07_made.mono _ _ _)
      | (with_reducible exact wogglelaw07_marks.mono _ _ _)
      | (with_reducible exact woggleref01_Bits.mono _ _)
      | (with_reducible exact woggleref01_Rising.mono _ _ _)
      | (with_reducible exact woggleref06_Size.mono _ _)
      | (with_reducible exact LeO.refl _)
      | (with_reducible exact LeO.none _)
      | (with_reducible refine LeO.ite ?_ ?_)
      | (with_reducible refine LeO.bind ?_ (fun _ => ?_))
      | exact ih0 _ _ _ _ _ _
      | exact ih1 _ _ _ _ _ _
      | exact ih2 _ _ _ _ _ _ _ _ _
      | exact ih3 _ _ _ _ _ _ _ _ _ _
      | exact beacon_Resolves.mono _ _ _ _
      | exact beacon_Twins.mono _ _ _
      | exact wogglelaw07_lives.mono _
      | exact wogglelaw07_made.mono _ _ _
      | exact wogglelaw07_marks.mono _ _ _
      | exact woggleref01_Bits.mono _ _
      | exact woggleref01_Rising.mono _ _ _
      | exact woggleref06_Size.mono _ _
      | exact LeO.none _
      | refine LeO.ite ?_ ?_
      | refine LeO.bind ?_ (fun _ => ?_)
    · intro y0 y1 y2 y3 y4 y5
      unfold wogglelaw07_BeaconTwins.l0
      repeat' first
      | (with_reducible exact ih0 _ _ _ _ _ _)
      | (with_reducible exact ih1 _ _ _ _ _ _)
      | (with_reducible exact ih2 _ _ _ _ _ _ _ _ _)
      | (with_reducible exact ih3 _ _ _ _ _ _ _ _ _ _)
      | (with_reducible exact beacon_Resolves.mono _ _ _ _)
      | (with_reducible exact beacon_Twins.mono _ _ _)
      | (with_reducible exact wogglelaw07_lives.mono _)
      | (with_reducible exact wogglelaw07_made.mono _ _ _)
      | (with_reducible exact wogglelaw07_marks.mono _ _ _)
      | (with_reducible exact woggleref01_Bits.mono _ _)
      | (with_reducible exact woggleref01_Rising.mono _ _ _)
      | (with_reducible exact woggleref06_Size.mono _ _)
      | (with_reducible exact LeO.refl _)
      | (with_reducible exact LeO.none _)
      | (with_reducible refine LeO.ite ?_ ?_)
      | (with_reducible refine LeO.bind ?_ (fun _ => ?_))
      | exact ih0 _ _ _ _ _ _
      | exact ih1 _ _ _ _ _ _
      | exact ih2 _ _ _ _ _ _ _ _ _
      | exact ih3 _ _ _ _ _ _ _ _ _ _
      | exact beacon_Resolves.mono _ _ _ _
      | exact beacon_Twins.mono _ _ _
      | exact wogglelaw07_lives.mono _
      | exact wogglelaw07_made.mono _ _ _
      | exact wogglelaw07_marks.mono _ _ _
      | exact woggleref01_Bits.mono _ _
      | exact woggleref01_Rising.mono _ _ _
      | exact woggleref06_Size.mono _ _
      | exact LeO.none _
      | refine LeO.ite ?_ ?_
      | refine LeO.bind ?_ (fun _ => ?_)
    · intro y0 y1 y2 y3 y4 y5 y6 y7 y8
      unfold wogglelaw07_BeaconTwins.l1
      repeat' first
      | (with_reducible exact ih0 _ _ _ _ _ _)
      | (with_reducible exact ih1 _ _ _ _ _ _)
      | (with_reducible exact ih2 _ _ _ _ _ _ _ _ _)
      | (with_reducible exact ih3 _ _ _ _ _ _ _ _ _ _)
      | (with_reducible exact beacon_Resolves.mono _ _ _ _)
      | (with_reducible exact beacon_Twins.mono _ _ _)
      | (with_reducible exact wogglelaw07_lives.mono _)
      | (with_reducible exact wogglelaw07_made.mono _ _ _)
      | (with_reducible exact wogglelaw07_marks.mono _ _ _)
      | (with_reducible exact woggleref01_Bits.mono _ _)
      | (with_reducible exact woggleref01_Rising.mono _ _ _)
      | (with_reducible exact woggleref06_Size.mono _ _)
      | (with_reducible exact LeO.refl _)
      | (with_reducible exact LeO.none _)
      | (with_reducible refine LeO.ite ?_ ?_)
      | (with_reducible refine LeO.bind ?_ (fun _ => ?_))
      | exact ih0 _ _ _ _ _ _
      | exact ih1 _ _ _ _ _ _
      | exact ih2 _ _ _ _ _ _ _ _ _
      | exact ih3 _ _ _ _ _ _ _ _ _ _
      | exact beacon_Resolves.mono _ _ _ _
      | exact beacon_Twins.mono _ _ _
      | exact wogglelaw07_lives.mono _
      | exact wogglelaw07_made.mono _ _ _
      | exact wogglelaw07_marks.mono _ _ _
      | exact woggleref01_Bits.mono _ _
      | exact woggleref01_Rising.mono _ _ _
      | exact woggleref06_Size.mono _ _
      | exact LeO.none _
      | refine LeO.ite ?_ ?_
      | refine LeO.bind ?_ (fun _ => ?_)
    · intro y0 y1 y2 y3 y4 y5 y6 y7 y8 y9
      unfold wogglelaw07_BeaconTwins.j3
      repeat' first
      | (with_reducible exact ih0 _ _ _ _ _ _)
      | (with_reducible exact ih1 _ _ _ _ _ _)
      | (with_reducible exact ih2 _ _ _ _ _ _ _ _ _)
      | (with_reducible exact ih3 _ _ _ _ _ _ _ _ _ _)
      | (with_reducible exact beacon_Resolves.mono _ _ _ _)
      | (with_reducible exact beacon_Twins.mono _ _ _)
      | (with_reducible exact wogglelaw07_lives.mono _)
      | (with_reducible exact wogglelaw07_made.mono _ _ _)
      | (with_reducible exact wogglelaw07_marks.mono _ _ _)
      | (with_reducible exact woggleref01_Bits.mono _ _)
      | (with_reducible exact woggleref01_Rising.mono _ _ _)
      | (with_reducible exact woggleref06_Size.mono _ _)
      | (with_reducible exact LeO.refl _)
      | (with_reducible exact LeO.none _)
      | (with_reducible refine LeO.ite ?_ ?_)
      | (with_reducible refine LeO.bind ?_ (fun _ => ?_))
      | exact ih0 _ _ _ _ _ _
      | exact ih1 _ _ _ _ _ _
      | exact ih2 _ _ _ _ _ _ _ _ _
      | exact ih3 _ _ _ _ _ _ _ _ _ _
      | exact beacon_Resolves.mono _ _ _ _
      | exact beacon_Twins.mono _ _ _
      | exact wogglelaw07_lives.mono _
      | exact wogglelaw07_made.mono _ _ _
      | exact wogglelaw07_marks.mono _ _ _
      | exact woggleref01_Bits.mono _ _
      | exact woggleref01_Rising.mono _ _ _
      | exact woggleref06_Size.mono _ _
      | exact LeO.none _
      | refine LeO.ite ?_ ?_
      | refine LeO.bind ?_ (fun _ => ?_)
theorem wogglelaw07_BeaconTwins.mono : ∀ a0 a1 k, LeO (wogglelaw07_BeaconTwins.f k a0 a1) (wogglelaw07_BeaconTwins.f (k + 1) a0 a1) := by
  intro a0 a1 k
  obtain ⟨ih0, ih1, ih2, ih3⟩ := wogglelaw07_BeaconTwins.mono_l k
  unfold wogglelaw07_BeaconTwins.f
  repeat' first
      | (with_reducible exact ih0 _ _ _ _ _ _)
      | (with_reducible exact ih1 _ _ _ _ _ _)
      | (with_reducible exact ih2 _ _ _ _ _ _ _ _ _)
      | (with_reducible exact ih3 _ _ _ _ _ _ _ _ _ _)
      | (with_reducible exact beacon_Resolves.mono _ _ _ _)
      | (with_reducible exact beacon_Twins.mono _ _ _)
      | (with_reducible exact wogglelaw07_lives.mono _)
      | (with_reducible exact wogglelaw07_made.mono _ _ _)
      | (with_reducible exact wogglelaw07_marks.mono _ _ _)
      | (with_reducible exact woggleref01_Bits.mono _ _)
      | (with_reducible exact woggleref01_Rising.mono _ _ _)
      | (with_reducible exact woggleref06_Size.mono _ _)
      | (with_reducible exact LeO.refl _)
      | (with_reducible exact LeO.none _)
      | (with_reducible refine LeO.ite ?_ ?_)
      | (with_reducible refine LeO.bind ?_ (fun _ => ?_))
      | exact ih0 _ _ _ _ _ _
      | exact ih1 _ _ _ _ _ _
      | exact ih2 _ _ _ _ _ _ _ _ _
      | exact ih3 _ _ _ _ _ _ _ _ _ _
      | exact beacon_Resolves.mono _ _ _ _
      | exact beacon_Twins.mono _ _ _
      | exact wogglelaw07_lives.mono _
      | exact wogglelaw07_made.mono _ _ _
      | exact wogglelaw07_marks.mono _ _ _
      | exact woggleref01_Bits.mono _ _
      | exact woggleref01_Rising.mono _ _ _
      | exact woggleref06_Size.mono _ _
      | exact LeO.none _
      | refine LeO.ite ?_ ?_
      | refine LeO.bind ?_ (fun _ => ?_)
def wogglelaw07_BeaconTwins.T15 : Bool × List (List Nat × List Nat) := (true, [([], []), ([], []), ([], []), ([1, 2], [1, 2]), ([3], [3]), ([0, 4], [0, 4]), ([5], [5]), ([6, 5], [6]), ([7], [7]), ([7], [7]), ([8, 9, 7], [7, 8, 9]), ([10, 7], [7, 10]), ([11, 7], [7, 11]), ([12, 7], [7, 12]), ([7, 13], [7, 13]), ([14, 7], [14]), ([15], [15]), ([15], [15]), ([16, 17, 15], [15, 16, 17]), ([18, 15], [15, 18]), ([19, 15], [15, 19]), ([15], [15]), ([15], [15]), ([21, 22, 15], [15, 21, 22]), ([23, 15], [15, 23]), ([24, 15, 15], [15, 24]), ([15], [15]), ([26, 25, 15], [15, 26]), ([25, 27, 15], [15, 25, 27]), ([28, 27, 15], [15, 28]), ([20, 29, 15], [15, 20, 29]), ([30, 15], [15, 30]), ([15, 31], [15, 31])])
def wogglelaw07_BeaconTwins.B15 : List Nat := [0, 0, 0, 6, 14, 31, 63, 127, 255, 255, 1023, 2047, 4095, 8191, 16383, 32767, 65535, 65535, 262143, 524287, 1048575, 65535, 65535, 6356991, 14745599, 31522815, 65535, 132186111, 266403839, 534839295, 1073741823, 2147483647, 4294967295]
theorem wogglelaw07_BeaconTwins.tab15 : rtab .any (opsOf Tryd.f14 15) = wogglelaw07_BeaconTwins.T15 := by kernel_rfl
theorem wogglelaw07_BeaconTwins.bits15 : waitsOk wogglelaw07_BeaconTwins.T15.2 wogglelaw07_BeaconTwins.B15 = true := by kernel_rfl
theorem no_true_ {r : Bool} (h : some false = some r) (hr : r = true) : False := by subst hr; cases h
theorem wogglelaw07_BeaconTwins.j0_no {k : Nat} {a0} {a1} {a2} {a3} {a4} {r : Bool} (h : wogglelaw07_BeaconTwins.j0 k a0 a1 a2 a3 a4 true = some r) (hr : r = true) : False := by subst hr; cases k <;> simp [wogglelaw07_BeaconTwins.j0] at h
set_option maxHeartbeats 8000000 in
set_option maxRecDepth 100000 in
theorem wogglelaw07_BeaconTwins.calls (k : Nat) (A0 : Option Addr) (c0 : Nat) (l0 : List (S77)) (a1 : Int) (r : Bool) (w : World) (hr0 : Kd.C k77 w A0 l0.length l0) (hc0 : l0.length ≤ c0) (hdoor : Door w) (h : wogglelaw07_BeaconTwins.f k l0 a1 = some r) (hrr : r = true) :
    Calls Tryd.prog 14 #[.slice A0 l0.length c0, .int .u16 a1] w fun e w' => e = .returned (.bool r) ∧ Below w.heap.size w w' := by
  have HRR := Aside0.mk hrr
  clear hrr
  have HDOOR := Aside0.mk hdoor
  clear hdoor
  have HR0 := Aside0.mk hr0
  have HC0 := Aside0.mk hc0
  clear hr0 hc0
  have HB := Aside0.mk (Below.refl w.heap.size w)
  have H : ((wogglelaw07_made.f k l0 10).bind fun bt612 => ((beacon_Twins.f k bt612.1 bt612.2).bind fun bt616 => ((beacon_Basis.f bt612.1 bt612.2).bind fun bt620 => (if bt616.2 = 0 then (if bt620.2 = 0 then ((woggleref01_Rising.f k bt612.1 bt620.1).bind fun t624 => (if t624 = true then ((wogglelaw07_lives.f k).bind fun t625 => (wogglelaw07_BeaconTwins.j0 k a1 bt612.1 bt612.2 bt616.1 bt620.1 (!t625))) else (wogglelaw07_BeaconTwins.j0 k a1 bt612.1 bt612.2 bt616.1 bt620.1 true))) else (wogglelaw07_BeaconTwins.j0 k a1 bt612.1 bt612.2 bt616.1 bt620.1 true)) else (wogglelaw07_BeaconTwins.j0 k a1 bt612.1 bt612.2 bt616.1 bt620.1 true))))) = some r := h
  clear h
  replace H := Option.bind_eq_some_iff.mp H
  obtain ⟨⟨t612, t613⟩, A30, H⟩ := H
  replace H : ((beacon_Twins.f k t612 t613).bind fun bt616 => ((beacon_Basis.f t612 t613).bind fun bt620 => (if bt616.2 = 0 then (if bt620.2 = 0 then ((woggleref01_Rising.f k t612 bt620.1).bind fun t624 => (if t624 = true then ((wogglelaw07_lives.f k).bind fun t625 => (wogglelaw07_BeaconTwins.j0 k a1 t612 t613 bt616.1 bt620.1 (!t625))) else (wogglelaw07_BeaconTwins.j0 k a1 t612 t613 bt616.1 bt620.1 true))) else (wogglelaw07_BeaconTwins.j0 k a1 t612 t613 bt616.1 bt620.1 true)) else (wogglelaw07_BeaconTwins.j0 k a1 t612 t613 bt616.1 bt620.1 true)))) = some r := H
  have A3 := Aside0.mk A30
  clear A30
  replace H := Option.bind_eq_some_iff.mp H
  obtain ⟨⟨t616, t617⟩, A40, H⟩ := H
  replace H : ((beacon_Basis.f t612 t613).bind fun bt620 => (if t617 = 0 then (if bt620.2 = 0 then ((woggleref01_Rising.f k t612 bt620.1).bind fun t624 => (if t624 = true then ((wogglelaw07_lives.f k).bind fun t625 => (wogglelaw07_BeaconTwins.j0 k a1 t612 t613 t616 bt620.1 (!t625))) else (wogglelaw07_BeaconTwins.j0 k a1 t612 t613 t616 bt620.1 true))) else (wogglelaw07_BeaconTwins.j0 k a1 t612 t613 t616 bt620.1 true)) else (wogglelaw07_BeaconTwins.j0 k a1 t612 t613 t616 bt620.1 true))) = some r := H
  have A4 := Aside0.mk A40
  clear A40
  replace H := Option.bind_eq_some_iff.mp H
  obtain ⟨⟨t620, t621⟩, A50, H⟩ := H
  replace H : (if t617 = 0 then (if t621 = 0 then ((woggleref01_Rising.f k t612 t620).bind fun t624 => (if t624 = true then ((wogglelaw07_lives.f k).bind fun t625 => (wogglelaw07_BeaconTwins.j0 k a1 t612 t613 t616 t620 (!t625))) else (wogglelaw07_BeaconTwins.j0 k a1 t612 t613 t616 t620 true))) else (wogglelaw07_BeaconTwins.j0 k a1 t612 t613 t616 t620 true)) else (wogglelaw07_BeaconTwins.j0 k a1 t612 t613 t616 t620 true)) = some r := H
  have A5 := Aside0.mk A50
  clear A50
  have HC6 := Aside0.mk H
  clear H
  go_enter Tryd.func14, Tryd.ntmps14
  go_upto_region 4 with (first | ((with_reducible refine gate_callee (f := 23) rfl ?_); refine goesL_ (some 18) rfl rfl Tryd.func23 (by kernel_rfl) rfl #[.slice A0 l0.length c0, .int .i64 10] rfl (by (try simp only [List.map_toArray, List.map_cons, List.map_nil]); first | done | rfl | (simp only [List.length_drop, List.length_take]; rfl)) ?_; (with_reducible refine (wogglelaw07_made.calls k _ _ l0 10 t612 t613 _ ?side1 ?side2 A3.out).mono ?_); (case side1 => repeat (first | exact HR0.out | (with_reducible refine Kd.C_alloc ?_ _) | (with_reducible refine Kd.C_drewN ?_ _) | (with_reducible refine Kd.C_drew ?_))); (case side2 => exact HC0.out); rintro e w7 ⟨v614, rfl, ho0, hb⟩; refine ⟨_, rfl, ?_⟩; have n0_ := Aside0.mk (Kd.R_lower ho0 (below_size (by repeat (first | (with_reducible first | exact HB.out | apply below_alloc | apply pw_below_drewN | apply below_drew1) | exact HB.out)))); have n1_ := Aside0.mk (below_step (by repeat (first | (with_reducible first | exact HB.out | apply below_alloc | apply pw_below_drewN | apply below_drew1) | exact HB.out)) hb); clear HB; have HO615 := n0_; have HB := n1_; clear n0_ n1_; (try clear hb); (try clear hb2); (try clear hk); (try clear hi); (try clear ho0); obtain ⟨Ao8, co8, eo8⟩ := Kd.R_slice HO615.out; subst eo8) | ((with_reducible refine gate_callee (f := 41) rfl ?_); refine goesL_ (some 24) rfl rfl Tryd.func41 (by kernel_rfl) rfl #[.int .i64 t612, .slice Ao8 t613.length co8] rfl (by (try simp only [List.map_toArray, List.map_cons, List.map_nil]); first | done | rfl | (simp only [List.length_drop, List.length_take]; rfl)) ?_; (with_reducible refine (beacon_Twins.calls k t612 _ _ t613 t616 t617 _ ?side1 ?side2 A4.out).mono ?_); (case side1 => repeat (first | exact (Kd.R_reads' HO615.out).2.2 | (with_reducible refine Kd.C_alloc ?_ _) | (with_reducible refine Kd.C_drewN ?_ _) | (with_reducible refine Kd.C_drew ?_))); (case side2 => exact (Kd.R_reads' HO615.out).2.1); rintro e w9 ⟨v618, rfl, ho0, hb⟩; refine ⟨_, rfl, ?_⟩; have n0_ := Aside0.mk (Kd.R_below (by (with_reducible repeat (first | apply Kd.R_alloc | apply Kd.R_drewN | apply Kd.R_drew)); exact HO615.out) hb); have n1_ := Aside0.mk (Kd.N_lower (Kd.N_mono (ok' := fun k_ => some k_ ≠ (.slice Ao8 t613.length co8 : Value).ownBlock) (Kd.S_N (Kd.S_bound ho0)) (fun k_ hk_ => (Kd.fresh' (Kd.R_lt (by (with_reducible repeat (first | apply Kd.R_alloc | apply Kd.R_drewN | apply Kd.R_drew)); exact HO615.out)) k_ hk_.2.1))) (below_size (by repeat (first | (with_reducible first | exact HB.out | apply below_alloc | apply pw_below_drewN | apply below_drew1) | exact HB.out)))); have n2_ := Aside0.mk (below_step (by repeat (first | (with_reducible first | exact HB.out | apply below_alloc | apply pw_below_drewN | apply below_drew1) | exact HB.out)) hb); clear HO615; clear HB; have HO615 := n0_; have HO619 := n1_; have HB := n2_; clear n0_ n1_ n2_; (try clear hb); (try clear hb2); (try clear hk); (try clear hi); (try clear ho0)) | ((with_reducible refine gate_callee (f := 17) rfl ?_); refine goesL_ (some 30) rfl rfl Tryd.func17 (by kernel_rfl) rfl #[.int .i64 t612, .slice Ao8 t613.length co8] rfl (by (try simp only [List.map_toArray, List.map_cons, List.map_nil]); first | done | rfl | (simp only [List.length_drop, List.length_take]; rfl)) ?_; (with_reducible refine (beacon_Basis.calls t612 _ _ t613 t620 t621 _ ?side1 ?side2 ?sideD A5.out).mono ?_); (case sideD => repeat (first | exact (Door.below HDOOR.out HB.out) | exact HDOOR.out | (with_reducible refine Door.alloc ?_ _) | (with_reducible refine Door.drewN ?_ _) | (with_reducible refine Door.drew ?_))); (case side1 => repeat (first | exact (Kd.R_reads' HO615.out).2.2 | (with_reducible refine Kd.C_alloc ?_ _) | (with_reducible refine Kd.C_drewN ?_ _) | (with_reducible refine Kd.C_drew ?_))); (case side2 => exact (Kd.R_reads' HO615.out).2.1); rintro e w10 ⟨v622, rfl, ho0, hb⟩; refine ⟨_, rfl, ?_⟩; have n0_ := Aside0.mk (Kd.R_below (by (with_reducible repeat (first | apply Kd.R_alloc | apply Kd.R_drewN | apply Kd.R_drew)); exact HO615.out) hb); have n1_ := Aside0.mk (Kd.N_elder' (by (with_reducible repeat (first | apply Kd.N_alloc | apply Kd.N_drewN | apply Kd.N_drew)); exact HO619.out) (Kd.R_base ho0) hb); have n2_ := Aside0.mk (Kd.R_lower ho0 (below_size (by repeat (first | (with_reducible first | exact HB.out | apply below_alloc | apply pw_below_drewN | apply below_drew1) | exact HB.out)))); have n3_ := Aside0.mk (below_step (by repeat (first | (with_reducible first | exact HB.out | apply below_alloc | apply pw_below_drewN | apply below_drew1) | exact HB.out)) hb); clear HO615; clear HO619; clear HB; have HO615 := n0_; have HO619 := n1_; have HO623 := n2_; have HB := n3_; clear n0_ n1_ n2_ n3_; (try clear hb); (try clear hb2); (try clear hk); (try clear hi); (try clear ho0)))
  (try simp only [Act.put, List.setIfInBounds_toArray, List.set_cons_zero, List.set_cons_succ])
  go_cut [48] (fun v48 wc => ∃ (kq : Nat) (x48_5 : Bool), v48 = .bool x48_5 ∧ Aside0 (wogglelaw07_BeaconTwins.j0 kq a1 t612 t613 t616 t620 x48_5 = some r) ∧ Aside0 (kq ≤ k) ∧ Aside0 (Kd.R k47 47 wc w.heap.size (fun _ => True) (.slice Ao8 t613.length co8) t613) ∧ Aside0 (Kd.N (Kd.slice 3 (Kd.int .i64)) 28 wc w.heap.size (fun k_ => some k_ ≠ ((.slice Ao8 t613.length co8) : Value).ownBlock ∧ some k_ ≠ (v622 : Value).ownBlock) v618 t616) ∧ Aside0 (Kd.R (Kd.int .i64) 3 wc w.heap.size (fun _ => True) v622 t620) ∧ Aside0 (Below w.heap.size w wc))
  case first =>
    have H := HC6.out
    clear HC6
    by_cases c11 : t617 = 0
    · rw [if_pos c11] at H
      have c11b0 : (t617 == 0) = true := beq_iff_eq.mpr c11
      have c11b1 : (t617 != 0) = false := bne_eq_false_iff_eq.mpr c11
      clear c11
      (first | rw [c11b0] | (simp only [i64_w, i32_w]; rw [c11b0]) | skip)
      by_cases c12 : t621 = 0
      · rw [if_pos c12] at H
        have c12b0 : (t621 == 0) = true := beq_iff_eq.mpr c12
        have c12b1 : (t621 != 0) = false := bne_eq_false_iff_eq.mpr c12
        clear c12
        replace H := Option.bind_eq_some_iff.mp H
        obtain ⟨t624, A130, H⟩ := H
        replace H : (if t624 = true then ((wogglelaw07_lives.f k).bind fun t625 => (wogglelaw07_BeaconTwins.j0 k a1 t612 t613 t616 t620 (!t625))) else (wogglelaw07_BeaconTwins.j0 k a1 t612 t613 t616 t620 true)) = some r := H
        have A13 := Aside0.mk A130
        clear A130
        by_cases c14 : t624 = true
        · subst c14
          have H1 : ((wogglelaw07_lives.f k).bind fun t625 => (wogglelaw07_BeaconTwins.j0 k a1 t612 t613 t616 t620 (!t625))) = some r := by rw [if_pos rfl] at H; exact H
          clear H
          have H := H1
          clear H1
          replace H := Option.bind_eq_some_iff.mp H
          obtain ⟨t625, A150, H⟩ := H
          replace H : (wogglelaw07_BeaconTwins.j0 k a1 t612 t613 t616 t620 (!t625)) = some r := H
          have A15 := Aside0.mk A150
          clear A150
          have H' := Aside0.mk H
          clear H
          obtain ⟨Ao16, co16, eo16⟩ := Kd.R_slice HO623.out
          subst eo16
          go_wp2_with (first | (go_at_call 28; (with_reducible refine (woggleref01_Rising.calls k t612 _ _ t620 true _ ?side1 ?side2 A13.out).mono ?_); (case side1 => repeat (first | exact (Kd.R_reads' HO623.out).2.2 | (with_reducible refine Kd.C_alloc ?_ _) | (with_reducible refine Kd.C_drewN ?_ _) | (with_reducible refine Kd.C_drew ?_))); (case side2 => exact (Kd.R_reads' HO623.out).2.1); rintro e w' ⟨rfl, ⟨nd, rfl⟩⟩) | (go_at_call 16; (with_reducible refine (wogglelaw07_lives.calls k  t625 _ ?sideD A15.out).mono ?_); (case sideD => repeat (first | exact (Door.below HDOOR.out HB.out) | exact HDOOR.out | (with_reducible refine Door.alloc ?_ _) | (with_reducible refine Door.drewN ?_ _) | (with_reducible refine Door.drew ?_))); rintro e w17 ⟨rfl, hb⟩; have n0_ := Aside0.mk (Kd.R_below (by (with_reducible repeat (first | apply Kd.R_alloc | apply Kd.R_drewN | apply Kd.R_drew)); exact HO615.out) hb); have n1_ := Aside0.mk (Kd.N_below (by (with_reducible repeat (first | apply Kd.N_alloc | apply Kd.N_drewN | apply Kd.N_drew)); exact HO619.out) hb); have n2_ := Aside0.mk (Kd.R_below (by (with_reducible repeat (first | apply Kd.R_alloc | apply Kd.R_drewN | apply Kd.R_drew)); exact HO623.out) hb); have n3_ := Aside0.mk (below_step (by repeat (first | (with_reducible first | exact HB.out | apply below_alloc | apply pw_below_drewN | apply below_drew1) | exact HB.out)) hb); clear HO615; clear HO619; clear HO623; clear HB; have HO615 := n0_; have HO619 := n1_; have HO623 := n2_; have HB := n3_; clear n0_ n1_ n2_ n3_; (try clear hb); (try clear hb2); (try clear hk); (try clear hi)))
          go_meet
          case rel => exact ⟨_, (!t625), (by first | rfl | (simp; done) | (simp [*]; done)), H', ⟨by first | omega | exact Nat.le_refl _⟩, ⟨by (with_reducible repeat (first | apply Kd.R_alloc | apply Kd.R_drewN | apply Kd.R_drew)); exact HO615.out⟩, ⟨by (with_reducible repeat (first | apply Kd.N_alloc | apply Kd.N_drewN | apply Kd.N_drew)); exact HO619.out⟩, ⟨by (with_reducible repeat (first | apply Kd.R_alloc | apply Kd.R_drewN | apply Kd.R_drew)); exact HO623.out⟩, ⟨by repeat (first | (with_reducible first | exact HB.out | apply below_alloc | apply pw_below_drewN | apply below_drew1) | exact HB.out)⟩⟩
        · replace c14 := Bool.eq_false_iff.mpr c14
          subst c14
          have H1 : (wogglelaw07_BeaconTwins.j0 k a1 t612 t613 t616 t620 true) = some r := by rw [if_neg (show ¬ (false = true) by decide)] at H; exact H
          clear H
          have H := H1
          clear H1
          exact (wogglelaw07_BeaconTwins.j0_no H HRR.out).elim
      · rw [if_neg c12] at H
        exact (wogglelaw07_BeaconTwins.j0_no H HRR.out).elim
    · rw [if_neg c11] at H
      exact (wogglelaw07_BeaconTwins.j0_no H HRR.out).elim
  case rest =>
    clear HC6
    try clear c1
    try clear c2
    try clear p2
    try clear c4
    try clear c11
    try clear c11b0
    try clear c11b1
    try clear c12
    try clear c12b0
    try clear c12b1
    try clear c14
    try clear c17
    obtain ⟨kq, x48_5, rfl, HA, HJ5, HO_6, HO_7, HO_9, HB⟩ := hcut
    cases kq with
    | zero => exact absurd HA.out (by simp [wogglelaw07_BeaconTwins.j0])
    | succ kj5 =>
      have H := HA.out
      clear HA
      simp only [wogglelaw07_BeaconTwins.j0] at H
      by_cases c19 : x48_5 = true
      · subst c19
        have H1 : (some false) = some r := by rw [if_pos rfl] at H; exact H
        clear H
        have H := H1
        clear H1
        exact (no_true_ H HRR.out).elim
      · replace c19 := Bool.eq_false_iff.mpr c19
        subst c19
        have H1 : ((wogglelaw07_marks.f kj5 t612 a1).bind fun t626 => ((some (([t620, t626] : List (List Int)) : List (List Int))).bind fun y629 => (wogglelaw07_BeaconTwins.l0 kj5 t612 t613 t616 y629 (y629.length : Int) 0))) = some r := by rw [if_neg (show ¬ (false = true) by decide)] at H; exact H
        clear H
        have H := H1
        clear H1
        replace H := Option.bind_eq_some_iff.mp H
        obtain ⟨t626, A200, H⟩ := H
        replace H : ((some (([t620, t626] : List (List Int)) : List (List Int))).bind fun y629 => (wogglelaw07_BeaconTwins.l0 kj5 t612 t613 t616 y629 (y629.length : Int) 0)) = some r := H
        have A20 := Aside0.mk A200
        clear A200
        obtain ⟨y629, hy629⟩ : ∃ y_ : List (List Int), y_ = (([t620, t626] : List (List Int))) := ⟨_, rfl⟩
        replace H : (wogglelaw07_BeaconTwins.l0 kj5 t612 t613 t616 y629 (y629.length : Int) 0) = some r := by first | (rw [hy629]; with_reducible exact H) | (have H2_ := (Option.bind_some _ _).symm.trans H; rw [hy629]; with_reducible exact H2_) | (have H2_ := (Option.bind_some _ _).symm.trans H; with_reducible exact H2_) | with_reducible exact H | (rw [hy629]; exact H) | exact H
        have Ny629 := Aside0.mk hy629
        clear hy629
        have H' := Aside0.mk H
        clear H
        go_wp2_with (first | ((with_reducible refine gate_callee (f := 31) rfl ?_); refine goesL_ (some 52) rfl rfl Tryd.func31 (by kernel_rfl) rfl #[.int .i64 t612, .int .u16 a1] rfl (by (try simp only [List.map_toArray, List.map_cons, List.map_nil]); first | done | rfl | (simp only [List.length_drop, List.length_take]; rfl)) ?_; (with_reducible refine (wogglelaw07_marks.calls kj5 t612 a1 t626 _ A20.out).mono ?_); rintro e w21 ⟨v627, rfl, ho0, hb⟩; refine ⟨_, rfl, ?_⟩; have n0_ := Aside0.mk (Kd.R_below (by (with_reducible repeat (first | apply Kd.R_alloc | apply Kd.R_drewN | apply Kd.R_drew)); exact HO_6.out) hb); have n1_ := Aside0.mk (Kd.N_elder' (by (with_reducible repeat (first | apply Kd.N_alloc | apply Kd.N_drewN | apply Kd.N_drew)); exact HO_7.out) (Kd.R_base ho0) hb); have n2_ := Aside0.mk (Kd.R_elder' (by (with_reducible repeat (first | apply Kd.R_alloc | apply Kd.R_drewN | apply Kd.R_drew)); exact HO_9.out) (Kd.R_base ho0) hb); have n3_ := Aside0.mk (Kd.R_lower (Kd.R_new' ho0 (Kd.R_lt (by (with_reducible repeat (first | apply Kd.R_alloc | apply Kd.R_drewN | apply Kd.R_drew)); exact HO_9.out))) (below_size (by repeat (first | (with_reducible first | exact HB.out | apply below_alloc | apply pw_below_drewN | apply below_drew1) | exact HB.out)))); have n4_ := Aside0.mk (below_step (by repeat (first | (with_reducible first | exact HB.out | apply below_alloc | apply pw_below_drewN | apply below_drew1) | exact HB.out)) hb); clear HO_6; clear HO_7; clear HO_9; clear HB; have HO_6 := n0_; have HO_7 := n1_; have HO_9 := n2_; have HO628 := n3_; have HB := n4_; clear n0_ n1_ n2_ n3_ n4_; (try clear hb); (try clear hb2); (try clear hk); (try clear hi); (try clear ho0); obtain ⟨Ao22, co22, eo22⟩ := Kd.R_slice HO_9.out; subst eo22; obtain ⟨Ao23, co23, eo23⟩ := Kd.R_slice HO628.out; subst eo23) | ((with_reducible refine gate_dst (N := 53) rfl ?_); (try (refine gate_guard (by rfl) ?_; dsimp only)); refine Kd.N_lit (Kd.slice 3 (Kd.int .i64)) _ 28 ?hg (N' := 53) ?hd (xs := ([t620, t626] : List (List Int))) (inner := [.slice Ao22 t620.length co22, .slice Ao23 t626.length co23]) (ok := (fun k_ => some k_ ≠ (.slice Ao8 t613.length co8 : Value).ownBlock ∧ some k_ ≠ (v618 : Value).ownBlock)) (okp := (fun k_ => some k_ ≠ (.slice Ao8 t613.length co8 : Value).ownBlock ∧ some k_ ≠ (v618 : Value).ownBlock)) ?hr ?hp (fun _ hk => hk) ((show ∀ k_, w21.heap.size ≤ k_ → (fun k_ => some k_ ≠ (.slice Ao8 t613.length co8 : Value).ownBlock ∧ some k_ ≠ (v618 : Value).ownBlock) k_ from fun k_ hk => ⟨Kd.fresh' (Kd.R_lt (by (with_reducible repeat (first | apply Kd.R_alloc | apply Kd.R_drewN | apply Kd.R_drew)); exact HO_6.out)) k_ hk, Kd.fresh' (Kd.N_lt (by (with_reducible repeat (first | apply Kd.N_alloc | apply Kd.N_drewN | apply Kd.N_drew)); exact HO_7.out)) k_ hk⟩) _ (Nat.le_refl _)) (Below.refl _ _) (Nat.le_refl _) (by simp) ?_; (case hd => rfl); (case hg => rfl); (case hr => first | (go_simp; done) | (go_simp; rfl)); (case hp => exact (Reps.one (show Kd.FK (Kd.slice 3 (Kd.int .i64)) _ _ t620 [.slice Ao22 t620.length co22] from (Kd.FK_slice_mk (Kd.R_reads' (Kd.R_mono (ok' := (fun k_ => some k_ ≠ (.slice Ao8 t613.length co8 : Value).ownBlock ∧ some k_ ≠ (v618 : Value).ownBlock)) (Kd.R_apart' (Kd.R_apart' (HO_9.out) (Kd.R_typed HO_6.out) (by decide)) (Kd.N_typed HO_7.out) (by decide)) (fun k_ hk => ⟨hk.1.2, hk.2⟩))).2.1 (Kd.R_F (Kd.R_mono (ok' := (fun k_ => some k_ ≠ (.slice Ao8 t613.length co8 : Value).ownBlock ∧ some k_ ≠ (v618 : Value).ownBlock)) (Kd.R_apart' (Kd.R_apart' (HO_9.out) (Kd.R_typed HO_6.out) (by decide)) (Kd.N_typed HO_7.out) (by decide)) (fun k_ hk => ⟨hk.1.2, hk.2⟩))))) (Reps.one (show Kd.FK (Kd.slice 3 (Kd.int .i64)) _ _ t626 [.slice Ao23 t626.length co23] from (Kd.FK_slice_mk (Kd.R_reads' (Kd.R_mono (ok' := (fun k_ => some k_ ≠ (.slice Ao8 t613.length co8 : Value).ownBlock ∧ some k_ ≠ (v618 : Value).ownBlock)) (Kd.R_apart' (Kd.R_apart' (HO628.out) (Kd.R_typed HO_6.out) (by decide)) (Kd.N_typed HO_7.out) (by decide)) (fun k_ hk => ⟨hk.1.2, hk.2⟩))).2.1 (Kd.R_F (Kd.R_mono (ok' := (fun k_ => some k_ ≠ (.slice Ao8 t613.length co8 : Value).ownBlock ∧ some k_ ≠ (v618 : Value).ownBlock)) (Kd.R_apart' (Kd.R_apart' (HO628.out) (Kd.R_typed HO_6.out) (by decide)) (Kd.N_typed HO_7.out) (by decide)) (fun k_ hk => ⟨hk.1.2, hk.2⟩))))) (Reps.none _ _)))); intro v630 w24 ho25 hb hg_ hnew_; clear hg_ hnew_; (first | rw [← Ny629.out] at ho25 | (simp only [Int.reduceToNat] at ho25; rw [← Ny629.out] at ho25)); have n0_ := Aside0.mk (Kd.R_below (by (with_reducible repeat (first | apply Kd.R_alloc | apply Kd.R_drewN | apply Kd.R_drew)); exact HO_6.out) hb); have n1_ := Aside0.mk (Kd.N_elder' (by (with_reducible repeat (first | apply Kd.N_alloc | apply Kd.N_drewN | apply Kd.N_drew)); exact HO_7.out) (Kd.N_base ho25) hb); have n2_ := Aside0.mk (Kd.N_lower ho25 (below_size (by repeat (first | (with_reducible first | exact HB.out | apply below_alloc | apply pw_below_drewN | apply below_drew1) | exact HB.out)))); have n3_ := Aside0.mk (below_step (by repeat (first | (with_reducible first | exact HB.out | apply below_alloc | apply pw_below_drewN | apply below_drew1) | exact HB.out)) hb); clear HO_6; clear HO_7; clear HB; clear HO628; clear HO_9; have HO_6 := n0_; have HO_7 := n1_; have HO631 := n2_; have HB := n3_; clear n0_ n1_ n2_ n3_; clear hb ho25; obtain ⟨Ao26, co26, eo26⟩ := Kd.N_slice HO631.out; subst eo26))
        go_loopg [55] kj5 (fun kq v55 w' => ∃ (x55_2 : Int), v55 = .int .i64 x55_2 ∧ Aside0 (wogglelaw07_BeaconTwins.l0 kq t612 t613 t616 y629 (y629.length : Int) x55_2 = some r) ∧ Aside0 (kq ≤ kj5) ∧ Aside0 (Kd.R k47 47 w' w.heap.size (fun _ => True) (.slice Ao8 t613.length co8) t613) ∧ Aside0 (Kd.N (Kd.slice 3 (Kd.int .i64)) 28 w' w.heap.size (fun k_ => some k_ ≠ ((.slice Ao8 t613.length co8) : Value).ownBlock ∧ some k_ ≠ ((.slice Ao26 y629.length co26) : Value).ownBlock) v618 t616) ∧ Aside0 (Kd.N (Kd.slice 3 (Kd.int .i64)) 28 w' w.heap.size (fun k_ => some k_ ≠ ((.slice Ao8 t613.length co8) : Value).ownBlock ∧ some k_ ≠ (v618 : Value).ownBlock) (.slice Ao26 y629.length co26) y629) ∧ Aside0 (Below w.heap.size w w'))
        case atStart => exact ⟨(0), (by first | rfl | (simp; done) | (simp [*]; done)), H', ⟨Nat.le_refl _⟩, ⟨by (with_reducible repeat (first | apply Kd.R_alloc | apply Kd.R_drewN | apply Kd.R_drew)); exact HO_6.out⟩, ⟨by (with_reducible repeat (first | apply Kd.N_alloc | apply Kd.N_drewN | apply Kd.N_drew)); exact Kd.N_mono HO_7.out (fun _ hk => ⟨hk.1.1.1, hk.2⟩)⟩, ⟨by (with_reducible repeat (first | apply Kd.N_alloc | apply Kd.N_drewN | apply Kd.N_drew)); exact HO631.out⟩, ⟨by repeat (first | (with_reducible first | exact HB.out | apply below_alloc | apply pw_below_drewN | apply below_drew1) | exact HB.out)⟩⟩
        case round =>
          clear H'
          try clear c1
          try clear c2
          try clear p2
          try clear c3
          try clear c4
          try clear c11
          try clear c11b0
          try clear c11b1
          try clear c12
          try clear c12b0
          try clear c12b1
          try clear c14
          try clear c17
          try clear c19
          try clear c23
          try clear p2
          obtain ⟨x55_2, rfl, HA, HK2, HO_6, HO_7, HO_53, HB⟩ := hrel
          cases gk with
          | zero => exact absurd HA.out (by simp [wogglelaw07_BeaconTwins.l0])
          | succ k2 =>
            have H := HA.out
            clear HA
            simp only [wogglelaw07_BeaconTwins.l0] at H
            by_cases c27 : x55_2 < (y629.length : Int)
            · rw [if_pos c27] at H
              have c27b0 : decide (x55_2 < (y629.length : Int)) = true := decide_eq_true c27
              clear c27
              by_cases c28 : 0 ≤ x55_2
              · rw [if_pos c28] at H
                have c28b0 : decide (0 ≤ x55_2) = true := decide_eq_true c28
                clear c28
                by_cases c29 : x55_2 < (y629.length : Int)
                · rw [if_pos c29] at H
                  have c29b0 : decide (x55_2 < (y629.length : Int)) = true := decide_eq_true c29
                  clear c29
                  replace H := Option.bind_eq_some_iff.mp H
                  obtain ⟨⟨t633, t634⟩, A300, H⟩ := H
                  replace H : (if t634 = 0 then (wogglelaw07_BeaconTwins.l1 k2 t612 t613 t616 (rd_L5 y629 x55_2) t633 0 y629 (y629.length : Int) x55_2) else (some false)) = some r := H
                  have A30 := Aside0.mk A300
                  clear A300
                  by_cases c31 : t634 = 0
                  · rw [if_pos c31] at H
                    have c31b0 : (t634 == 0) = true := beq_iff_eq.mpr c31
                    have c31b1 : (t634 != 0) = false := bne_eq_false_iff_eq.mpr c31
                    clear c31
                    have H' := Aside0.mk H
                    clear H
                    have p632 : 0 ≤ (x55_2 : Int) := of_decide_eq_true (by first | (with_reducible assumption) | assumption)
                    have q632 : x55_2 < (y629.length : Int) := of_decide_eq_true (by first | (with_reducible assumption) | assumption)
                    obtain ⟨ad632, A632_0, c632_0, e632, hx632_0, hl632_0, hi632_0⟩ := at_L5 (Kd.N_reads' HO_53.out).2.2 x55_2 p632 q632
                    cases e632
                    obtain ⟨ce632, hce632, hMe632, hcc632⟩ := Kd.N_get HO_53.out [] x55_2 p632 (by first | exact q632 | exact of_decide_eq_true (by first | (with_reducible assumption) | assumption) | (have e_ := (Kd.N_reads' HO_53.out).1; omega))
                    obtain ⟨ua632_0, uc632_0, rfl, ul632_0, ge632_0⟩ := Kd.FK_slice_open hMe632
                    have hv632_0 := hcc632 0 _ rfl
                    rw [Nat.add_zero, show ((Kd.slice 3 (Kd.int .i64))).sz = 1 from rfl, Nat.mul_one] at hv632_0
                    replace hv632_0 := Option.some.inj (hv632_0.symm.trans hx632_0)
                    injection hv632_0 with hva_ hvn_ hvc_
                    rw [hva_] at ge632_0
                    rw [hvc_] at ul632_0
                    have HL632_0 := Aside0.mk (show Kd.V (Kd.int .i64) 3 _ w.heap.size _ _ (rd_L5 y629 x55_2) from Kd.V_mk ul632_0 ge632_0)
                    clear hva_ hvn_ hvc_ ge632_0 ul632_0
                    clear hcc632 hce632
                    have HR632_0 := Aside0.mk hi632_0
                    have HC632_0 := Aside0.mk hl632_0
                    clear hi632_0 hl632_0
                    replace p632 := eq_true p632
                    replace q632 := eq_true q632
                    go_wp2_with (first | ((with_reducible refine gate_callee (f := 29) rfl ?_); refine goesL_ (some 63) rfl rfl Tryd.func29 (by kernel_rfl) rfl #[.int .i64 t612, .slice Ao8 t613.length co8, .slice A632_0 (rd_L5 y629 x55_2).length c632_0] rfl (by (try simp only [List.map_toArray, List.map_cons, List.map_nil]); first | done | rfl | (simp only [List.length_drop, List.length_take]; rfl)) ?_; (with_reducible refine (beacon_Resolves.calls k2 t612 _ _ t613 _ _ (rd_L5 y629 x55_2) t633 t634 _ ?side1 ?side2 ?side3 ?side4 ?sideD A30.out).mono ?_); (case sideD => repeat (first | exact (Door.below HDOOR.out HB.out) | exact HDOOR.out | (with_reducible refine Door.alloc ?_ _) | (with_reducible refine Door.drewN ?_ _) | (with_reducible refine Door.drew ?_))); (case side1 => repeat (first | exact (Kd.R_reads' HO_6.out).2.2 | (with_reducible refine Kd.C_alloc ?_ _) | (with_reducible refine Kd.C_drewN ?_ _) | (with_reducible refine Kd.C_drew ?_))); (case side2 => exact (Kd.R_reads' HO_6.out).2.1); (case side3 => repeat (first | exact (by repeat (first | (with_reducible exact HR632_0.out) | (with_reducible refine Kd.C_alloc ?_ _) | (with_reducible refine Kd.C_drewN ?_ _) | (with_reducible refine Kd.C_drew ?_) | (with_reducible exact Kd.C_below HR632_0.out HB.out) | exact HR632_0.out | exact (Kd.C_below HR632_0.out HB.out))) | (with_reducible refine Kd.C_alloc ?_ _) | (with_reducible refine Kd.C_drewN ?_ _) | (with_reducible refine Kd.C_drew ?_))); (case side4 => exact HC632_0.out); rintro e w32 ⟨rfl, hb⟩; refine ⟨_, rfl, ?_⟩; have n0_ := Aside0.mk (Kd.R_below (by (with_reducible repeat (first | apply Kd.R_alloc | apply Kd.R_drewN | apply Kd.R_drew)); exact HO_6.out) hb); have n1_ := Aside0.mk (Kd.N_below (by (with_reducible repeat (first | apply Kd.N_alloc | apply Kd.N_drewN | apply Kd.N_drew)); exact HO_7.out) hb); have n2_ := Aside0.mk (Kd.N_below (by (with_reducible repeat (first | apply Kd.N_alloc | apply Kd.N_drewN | apply Kd.N_drew)); exact HO_53.out) hb); have n3_ := Aside0.mk (Kd.V_below (by (with_reducible repeat (first | apply Kd.V_alloc | apply Kd.V_drewN | apply Kd.V_drew)); exact HL632_0.out) hb); have n4_ := Aside0.mk (Kd.C_below (by first | (with_reducible exact Kd.C_drewN (Kd.C_drewN (Kd.C_drewN HR632_0.out _) _) _) | (with_reducible exact Kd.C_drewN (Kd.C_drewN HR632_0.out _) _) | (with_reducible exact Kd.C_drewN HR632_0.out _) | repeat (first | (with_reducible exact HR632_0.out) | (with_reducible refine Kd.C_alloc ?_ _) | (with_reducible refine Kd.C_drewN ?_ _) | (with_reducible refine Kd.C_drew ?_) | (with_reducible exact Kd.C_below HR632_0.out HB.out) | exact HR632_0.out | exact (Kd.C_below HR632_0.out HB.out))) hb); have n5_ := Aside0.mk (below_step (by repeat (first | (with_reducible first | exact HB.out | apply below_alloc | apply pw_below_drewN | apply below_drew1) | exact HB.out)) hb); clear HO_6; clear HO_7; clear HO_53; clear HL632_0; clear HR632_0; clear HB; have HO_6 := n0_; have HO_7 := n1_; have HO_53 := n2_; have HL632_0 := n3_; have HR632_0 := n4_; have HB := n5_; clear n0_ n1_ n2_ n3_ n4_ n5_; (try clear hb); (try clear hb2); (try clear hk); (try clear hi)))
                    go_loopg [15] k2 (fun kq v15 w' => ∃ (x15_3 : Int), v15 = .int .i64 x15_3 ∧ Aside0 (wogglelaw07_BeaconTwins.l1 kq t612 t613 t616 (rd_L5 y629 x55_2) t633 x15_3 y629 (y629.length : Int) x55_2 = some r) ∧ Aside0 (kq ≤ k2) ∧ Aside0 (Kd.R k47 47 w' w.heap.size (fun _ => True) (.slice Ao8 t613.length co8) t613) ∧ Aside0 (Kd.N (Kd.slice 3 (Kd.int .i64)) 28 w' w.heap.size (fun k_ => some k_ ≠ ((.slice Ao8 t613.length co8) : Value).ownBlock ∧ some k_ ≠ ((.slice (some ad632) y629.length co26) : Value).ownBlock) v618 t616) ∧ Aside0 (Kd.N (Kd.slice 3 (Kd.int .i64)) 28 w' w.heap.size (fun k_ => some k_ ≠ ((.slice Ao8 t613.length co8) : Value).ownBlock ∧ some k_ ≠ (v618 : Value).ownBlock) (.slice (some ad632) y629.length co26) y629) ∧ Aside0 (Kd.C (Kd.int .i64) w' A632_0 (rd_L5 y629 x55_2).length (rd_L5 y629 x55_2)) ∧ Aside0 (Below w.heap.size w w'))
                    case atStart => exact ⟨(0), (by first | rfl | (simp; done) | (simp [*]; done)), H', ⟨Nat.le_refl _⟩, ⟨by (with_reducible repeat (first | apply Kd.R_alloc | apply Kd.R_drewN | apply Kd.R_drew)); exact HO_6.out⟩, ⟨by (with_reducible repeat (first | apply Kd.N_alloc | apply Kd.N_drewN | apply Kd.N_drew)); exact HO_7.out⟩, ⟨by (with_reducible repeat (first | apply Kd.N_alloc | apply Kd.N_drewN | apply Kd.N_drew)); exact HO_53.out⟩, ⟨by repeat (first | (with_reducible exact HR632_0.out) | (with_reducible refine Kd.C_alloc ?_ _) | (with_reducible refine Kd.C_drewN ?_ _) | (with_reducible refine Kd.C_drew ?_) | (with_reducible exact Kd.C_below HR632_0.out HB.out) | exact HR632_0.out | exact (Kd.C_below HR632_0.out HB.out))⟩, ⟨by repeat (first | (with_reducible first | exact HB.out | apply below_alloc | apply pw_below_drewN | apply below_drew1) | exact HB.out)⟩⟩
                    case round =>
                      clear H'
                      try clear c1
                      try clear c2
                      try clear p2
                      try clear c3
                      try clear c4
                      try clear c6
                      try clear p6
                      try clear q6
                      try clear hx6
                      try clear c11
                      try clear c11b0
                      try clear c11b1
                      try clear c12
                      try clear c12b0
                      try clear c12b1
                      try clear c14
                      try clear c17
                      try clear c19
                      try clear c23
                      try clear c27
                      try clear c27b0
                      try clear c28
                      try clear c28b0
                      try clear c29
                      try clear c29b0
                      try clear c31
                      try clear c31b0
                      try clear c31b1
                      try clear hx632_0
                      try clear p2
                      try clear p632
                      try clear q632
                      obtain ⟨x15_3, rfl, HA, HK3, HO_6, HO_7, HO_53, HR632_0, HB⟩ := hrel
                      cases gk with
                      | zero => exact absurd HA.out (by simp [wogglelaw07_BeaconTwins.l1])
                      | succ k3 =>
                        have H := HA.out
                        clear HA
                        simp only [wogglelaw07_BeaconTwins.l1] at H
                        have HC33 := Aside0.mk H
                        clear H
                        go_upto_region 13 with (fail)
                        go_cut [74] (fun v74 wc => ∃ (kq : Nat) (x74_32 : Bool), v74 = .bool x74_32 ∧ Aside0 (wogglelaw07_BeaconTwins.j3 kq t612 t613 t616 (rd_L5 y629 x55_2) t633 x15_3 y629 (y629.length : Int) x55_2 x74_32 = some r) ∧ Aside0 (kq ≤ k3) ∧ Aside0 (Kd.R k47 47 wc w.heap.size (fun _ => True) (.slice Ao8 t613.length co8) t613) ∧ Aside0 (Kd.N (Kd.slice 3 (Kd.int .i64)) 28 wc w.heap.size (fun k_ => some k_ ≠ ((.slice Ao8 t613.length co8) : Value).ownBlock ∧ some k_ ≠ ((.slice (some ad632) y629.length co26) : Value).ownBlock) v618 t616) ∧ Aside0 (Kd.N (Kd.slice 3 (Kd.int .i64)) 28 wc w.heap.size (fun k_ => some k_ ≠ ((.slice Ao8 t613.length co8) : Value).ownBlock ∧ some k_ ≠ (v618 : Value).ownBlock) (.slice (some ad632) y629.length co26) y629) ∧ Aside0 (Kd.C (Kd.int .i64) wc A632_0 (rd_L5 y629 x55_2).length (rd_L5 y629 x55_2)) ∧ Aside0 (Below w.heap.size w wc))
                        case first =>
                          have H := HC33.out
                          clear HC33
                          by_cases c34 : x15_3 < (t616.length : Int)
                          · rw [if_pos c34] at H
                            have c34b0 : decide (x15_3 < (t616.length : Int)) = true := decide_eq_true c34
                            clear c34
                            (first | rw [c34b0] | (simp only [i64_w, i32_w]; rw [c34b0]) | skip)
                            have H' := Aside0.mk H
                            clear H
                            obtain ⟨Ao35, co35, eo35⟩ := Kd.N_slice HO_7.out
                            subst eo35
                            go_wp2
                            go_meet
                            case rel => exact ⟨_, (t633), (by first | rfl | (simp; done) | (simp [*]; done)), H', ⟨by have := HJ5.out; have := HK2.out; have := HK3.out; first | omega | exact Nat.le_refl _⟩, ⟨by (with_reducible repeat (first | apply Kd.R_alloc | apply Kd.R_drewN | apply Kd.R_drew)); exact HO_6.out⟩, ⟨by (with_reducible repeat (first | apply Kd.N_alloc | apply Kd.N_drewN | apply Kd.N_drew)); exact HO_7.out⟩, ⟨by (with_reducible repeat (first | apply Kd.N_alloc | apply Kd.N_drewN | apply Kd.N_drew)); exact HO_53.out⟩, ⟨by repeat (first | (with_reducible exact HR632_0.out) | (with_reducible refine Kd.C_alloc ?_ _) | (with_reducible refine Kd.C_drewN ?_ _) | (with_reducible refine Kd.C_drew ?_) | (with_reducible exact Kd.C_below HR632_0.out HB.out) | exact HR632_0.out | exact (Kd.C_below HR632_0.out HB.out))⟩, ⟨by repeat (first | (with_reducible first | exact HB.out | apply below_alloc | apply pw_below_drewN | apply below_drew1) | exact HB.out)⟩⟩
                          · rw [if_neg c34] at H
                            have c34b0 : decide (x15_3 < (t616.length : Int)) = false := decide_eq_false c34
                            clear c34
                            (first | rw [c34b0] | (simp only [i64_w, i32_w]; rw [c34b0]) | skip)
                            have H' := Aside0.mk H
                            clear H
                            obtain ⟨Ao36, co36, eo36⟩ := Kd.N_slice HO_7.out
                            subst eo36
                            go_wp2
                            go_meet
                            case rel => exact ⟨_, (false), (by first | rfl | (simp; done) | (simp [*]; done)), H', ⟨by have := HJ5.out; have := HK2.out; have := HK3.out; first | omega | exact Nat.le_refl _⟩, ⟨by (with_reducible repeat (first | apply Kd.R_alloc | apply Kd.R_drewN | apply Kd.R_drew)); exact HO_6.out⟩, ⟨by (with_reducible repeat (first | apply Kd.N_alloc | apply Kd.N_drewN | apply Kd.N_drew)); exact HO_7.out⟩, ⟨by (with_reducible repeat (first | apply Kd.N_alloc | apply Kd.N_drewN | apply Kd.N_drew)); exact HO_53.out⟩, ⟨by repeat (first | (with_reducible exact HR632_0.out) | (with_reducible refine Kd.C_alloc ?_ _) | (with_reducible refine Kd.C_drewN ?_ _) | (with_reducible refine Kd.C_drew ?_) | (with_reducible exact Kd.C_below HR632_0.out HB.out) | exact HR632_0.out | exact (Kd.C_below HR632_0.out HB.out))⟩, ⟨by repeat (first | (with_reducible first | exact HB.out | apply below_alloc | apply pw_below_drewN | apply below_drew1) | exact HB.out)⟩⟩
                        case rest =>
                          clear HC33
                          try clear c1
                          try clear c2
                          try clear p2
                          try clear c3
                          try clear c4
                          try clear c6
                          try clear p6
                          try clear q6
                          try clear hx6
                          try clear c11
                          try clear c11b0
                          try clear c11b1
                          try clear c12
                          try clear c12b0
                          try clear c12b1
                          try clear c14
                          try clear c17
                          try clear c19
                          try clear c23
                          try clear c27
                          try clear c27b0
                          try clear c28
                          try clear c28b0
                          try clear c29
                          try clear c29b0
                          try clear c31
                          try clear c31b0
                          try clear c31b1
                          try clear c34
                          try clear c34b0
                          try clear hx632_0
                          try clear p2
                          try clear p6
                          try clear p632
                          try clear q6
                          try clear q632
                          obtain ⟨kq, x74_32, rfl, HA, HJ32, HO_6, HO_7, HO_53, HR632_0, HB⟩ := hcut
                          cases kq with
                          | zero => exact absurd HA.out (by simp [wogglelaw07_BeaconTwins.j3])
                          | succ kj32 =>
                            have H := HA.out
                            clear HA
                            simp only [wogglelaw07_BeaconTwins.j3] at H
                            by_cases c37 : x74_32 = true
                            · subst c37
                              have H1 : (if 0 ≤ x15_3 then (if x15_3 < (t616.length : Int) then ((woggleref01_Rising.f kj32 t612 (rd_L5 t616 x15_3)).bind fun t636 => (if t636 = true then (if ((rd_L5 t616 x15_3).length : Int) < 2 then (some false) else ((woggleref01_Bits.f kj32 (rd_L5 t616 x15_3)).bind fun t640 => ((woggleref01_Bits.f kj32 (rd_L5 y629 x55_2)).bind fun t641 => ((woggleref06_Size.f kj32 (Go.bits .and .i64 t640 t641)).bind fun t642 => (if (wrap64 (((rd_L5 t616 x15_3).length : Int) - t642)) > 1 then (some false) else (wogglelaw07_BeaconTwins.l1 kj32 t612 t613 t616 (rd_L5 y629 x55_2) t633 (wrap64 (x15_3 + 1)) y629 (y629.length : Int) x55_2)))))) else (some false))) else (none)) else (none)) = some r := by rw [if_pos rfl] at H; exact H
                              clear H
                              have H := H1
                              clear H1
                              by_cases c38 : 0 ≤ x15_3
                              · rw [if_pos c38] at H
                                have c38b0 : decide (0 ≤ x15_3) = true := decide_eq_true c38
                                clear c38
                                by_cases c39 : x15_3 < (t616.length : Int)
                                · rw [if_pos c39] at H
                                  have c39b0 : decide (x15_3 < (t616.length : Int)) = true := decide_eq_true c39
                                  clear c39
                                  replace H := Option.bind_eq_some_iff.mp H
                                  obtain ⟨t636, A400, H⟩ := H
                                  replace H : (if t636 = true then (if ((rd_L5 t616 x15_3).length : Int) < 2 then (some false) else ((woggleref01_Bits.f kj32 (rd_L5 t616 x15_3)).bind fun t640 => ((woggleref01_Bits.f kj32 (rd_L5 y629 x55_2)).bind fun t641 => ((woggleref06_Size.f kj32 (Go.bits .and .i64 t640 t641)).bind fun t642 => (if (wrap64 (((rd_L5 t616 x15_3).length : Int) - t642)) > 1 then (some false) else (wogglelaw07_BeaconTwins.l1 kj32 t612 t613 t616 (rd_L5 y629 x55_2) t633 (wrap64 (x15_3 + 1)) y629 (y629.length : Int) x55_2)))))) else (some false)) = some r := H
                                  have A40 := Aside0.mk A400
                                  clear A400
                                  by_cases c41 : t636 = true
                                  · subst c41
                                    have H1 : (if ((rd_L5 t616 x15_3).length : Int) < 2 then (some false) else ((woggleref01_Bits.f kj32 (rd_L5 t616 x15_3)).bind fun t640 => ((woggleref01_Bits.f kj32 (rd_L5 y629 x55_2)).bind fun t641 => ((woggleref06_Size.f kj32 (Go.bits .and .i64 t640 t641)).bind fun t642 => (if (wrap64 (((rd_L5 t616 x15_3).length : Int) - t642)) > 1 then (some false) else (wogglelaw07_BeaconTwins.l1 kj32 t612 t613 t616 (rd_L5 y629 x55_2) t633 (wrap64 (x15_3 + 1)) y629 (y629.length : Int) x55_2)))))) = some r := by rw [if_pos rfl] at H; exact H
                                    clear H
                                    have H := H1
                                    clear H1
                                    by_cases c42 : ((rd_L5 t616 x15_3).length : Int) < 2
                                    · rw [if_pos c42] at H
                                      exact (no_true_ H HRR.out).elim
                                    · rw [if_neg c42] at H
                                      have c42b0 : decide (((rd_L5 t616 x15_3).length : Int) < 2) = false := decide_eq_false c42
                                      have c42b1 : decide ((rd_L5 t616 x15_3).length < 2) = false := decide_eq_false (by omega)
                                      clear c42
                                      replace H := Option.bind_eq_some_iff.mp H
                                      obtain ⟨t640, A450, H⟩ := H
                                      replace H : ((woggleref01_Bits.f kj32 (rd_L5 y629 x55_2)).bind fun t641 => ((woggleref06_Size.f kj32 (Go.bits .and .i64 t640 t641)).bind fun t642 => (if (wrap64 (((rd_L5 t616 x15_3).length : Int) - t642)) > 1 then (some false) else (wogglelaw07_BeaconTwins.l1 kj32 t612 t613 t616 (rd_L5 y629 x55_2) t633 (wrap64 (x15_3 + 1)) y629 (y629.length : Int) x55_2)))) = some r := H
                                      have A45 := Aside0.mk A450
                                      clear A450
                                      replace H := Option.bind_eq_some_iff.mp H
                                      obtain ⟨t641, A460, H⟩ := H
                                      replace H : ((woggleref06_Size.f kj32 (Go.bits .and .i64 t640 t641)).bind fun t642 => (if (wrap64 (((rd_L5 t616 x15_3).length : Int) - t642)) > 1 then (some false) else (wogglelaw07_BeaconTwins.l1 kj32 t612 t613 t616 (rd_L5 y629 x55_2) t633 (wrap64 (x15_3 + 1)) y629 (y629.length : Int) x55_2))) = some r := H
                                      have A46 := Aside0.mk A460
                                      clear A460
                                      replace H := Option.bind_eq_some_iff.mp H
                                      obtain ⟨t642, A470, H⟩ := H
                                      replace H : (if (wrap64 (((rd_L5 t616 x15_3).length : Int) - t642)) > 1 then (some false) else (wogglelaw07_BeaconTwins.l1 kj32 t612 t613 t616 (rd_L5 y629 x55_2) t633 (wrap64 (x15_3 + 1)) y629 (y629.length : Int) x55_2)) = some r := H
                                      have A47 := Aside0.mk A470
                                      clear A470
                                      by_cases c48 : (wrap64 (((rd_L5 t616 x15_3).length : Int) - t642)) > 1
                                      · rw [if_pos c48] at H
                                        exact (no_true_ H HRR.out).elim
                                      · rw [if_neg c48] at H
                                        have c48b0 : decide (1 < (wrap64 (((rd_L5 t616 x15_3).length : Int) - t642))) = false := decide_eq_false c48
                                        clear c48
                                        have H' := Aside0.mk H
                                        clear H
                                        try go_wp2
                                        have n0_ := Aside0.mk (Kd.R_drew HO_6.out)
                                        have n1_ := Aside0.mk (Kd.N_drew HO_7.out)
                                        have n2_ := Aside0.mk (Kd.N_drew HO_53.out)
                                        have n3_ := Aside0.mk (Kd.C_drew HR632_0.out)
                                        have n4_ := Aside0.mk (below_drew1 HB.out)
                                        clear HO_6
                                        clear HO_7
                                        clear HO_53
                                        clear HR632_0
                                        clear HB
                                        have HO_6 := n0_
                                        have HO_7 := n1_
                                        have HO_53 := n2_
                                        have HR632_0 := n3_
                                        have HB := n4_
                                        clear n0_ n1_ n2_ n3_ n4_
                                        obtain ⟨Ao53, co53, eo53⟩ := Kd.N_slice HO_7.out
                                        (first | subst eo53 | (injection eo53 with f1_ f2_ f3_; have f4_ := f1_.symm; have f5_ := f3_.symm; clear f1_ f2_ f3_; subst f4_; subst f5_))
                                        have p635 : 0 ≤ (x15_3 : Int) := of_decide_eq_true (by first | (with_reducible assumption) | assumption)
                                        have q635 : x15_3 < (t616.length : Int) := of_decide_eq_true (by first | (with_reducible assumption) | assumption)
                                        obtain ⟨ad635, A635_0, c635_0, e635, hx635_0, hl635_0, hi635_0⟩ := at_L5 (Kd.N_reads' HO_7.out).2.2 x15_3 p635 q635
                                        cases e635
                                        obtain ⟨ce635, hce635, hMe635, hcc635⟩ := Kd.N_get HO_7.out [] x15_3 p635 (by first | exact q635 | exact of_decide_eq_true (by first | (with_reducible assumption) | assumption) | (have e_ := (Kd.N_reads' HO_7.out).1; omega))
                                        obtain ⟨ua635_0, uc635_0, rfl, ul635_0, ge635_0⟩ := Kd.FK_slice_open hMe635
                                        have hv635_0 := hcc635 0 _ rfl
                                        rw [Nat.add_zero, show ((Kd.slice 3 (Kd.int .i64))).sz = 1 from rfl, Nat.mul_one] at hv635_0
                                        replace hv635_0 := Option.some.inj (hv635_0.symm.trans hx635_0)
                                        injection hv635_0 with hva_ hvn_ hvc_
                                        rw [hva_] at ge635_0
                                        rw [hvc_] at ul635_0
                                        have HL635_0 := Aside0.mk (show Kd.V (Kd.int .i64) 3 _ w.heap.size _ _ (rd_L5 t616 x15_3) from Kd.V_mk ul635_0 ge635_0)
                                        clear hva_ hvn_ hvc_ ge635_0 ul635_0
                                        clear hcc635 hce635
                                        have HR635_0 := Aside0.mk hi635_0
                                        have HC635_0 := Aside0.mk hl635_0
                                        clear hi635_0 hl635_0
                                        replace p635 := eq_true p635
                                        replace q635 := eq_true q635
                                        have p637 : 0 ≤ (x15_3 : Int) := of_decide_eq_true (by first | (with_reducible assumption) | assumption)
                                        have q637 : x15_3 < (t616.length : Int) := of_decide_eq_true (by first | (with_reducible assumption) | assumption)
                                        obtain ⟨ad637, A637_0, c637_0, e637, hx637_0, hl637_0, hi637_0⟩ := at_L5 (Kd.N_reads' HO_7.out).2.2 x15_3 p637 q637
                                        obtain rfl : ad635 = ad637 := (by injection e637)
                                        obtain ⟨ce637, hce637, hMe637, hcc637⟩ := Kd.N_get HO_7.out [] x15_3 p637 (by first | exact q637 | exact of_decide_eq_true (by first | (with_reducible assumption) | assumption) | (have e_ := (Kd.N_reads' HO_7.out).1; omega))
                                        obtain ⟨ua637_0, uc637_0, rfl, ul637_0, ge637_0⟩ := Kd.FK_slice_open hMe637
                                        have hv637_0 := hcc637 0 _ rfl
                                        rw [Nat.add_zero, show ((Kd.slice 3 (Kd.int .i64))).sz = 1 from rfl, Nat.mul_one] at hv637_0
                                        replace hv637_0 := Option.some.inj (hv637_0.symm.trans hx637_0)
                                        injection hv637_0 with hva_ hvn_ hvc_
                                        rw [hva_] at ge637_0
                                        rw [hvc_] at ul637_0
                                        have HL637_0 := Aside0.mk (show Kd.V (Kd.int .i64) 3 _ w.heap.size _ _ (rd_L5 t616 x15_3) from Kd.V_mk ul637_0 ge637_0)
                                        clear hva_ hvn_ hvc_ ge637_0 ul637_0
                                        clear hcc637 hce637
                                        have HR637_0 := Aside0.mk hi637_0
                                        have HC637_0 := Aside0.mk hl637_0
                                        clear hi637_0 hl637_0
                                        replace p637 := eq_true p637
                                        replace q637 := eq_true q637
                                        have ea_ := Option.some.inj (hx635_0.symm.trans hx637_0)
                                        injection ea_ with ea_ en_ ec_
                                        subst ea_
                                        subst ec_
                                        clear en_
                                        have p638 : 0 ≤ (x15_3 : Int) := of_decide_eq_true (by first | (with_reducible assumption) | assumption)
                                        have q638 : x15_3 < (t616.length : Int) := of_decide_eq_true (by first | (with_reducible assumption) | assumption)
                                        obtain ⟨ad638, A638_0, c638_0, e638, hx638_0, hl638_0, hi638_0⟩ := at_L5 (Kd.N_reads' HO_7.out).2.2 x15_3 p638 q638
                                        obtain rfl : ad635 = ad638 := (by injection e638)
                                        obtain ⟨ce638, hce638, hMe638, hcc638⟩ := Kd.N_get HO_7.out [] x15_3 p638 (by first | exact q638 | exact of_decide_eq_true (by first | (with_reducible assumption) | assumption) | (have e_ := (Kd.N_reads' HO_7.out).1; omega))
                                        obtain ⟨ua638_0, uc638_0, rfl, ul638_0, ge638_0⟩ := Kd.FK_slice_open hMe638
                                        have hv638_0 := hcc638 0 _ rfl
                                        rw [Nat.add_zero, show ((Kd.slice 3 (Kd.int .i64))).sz = 1 from rfl, Nat.mul_one] at hv638_0
                                        replace hv638_0 := Option.some.inj (hv638_0.symm.trans hx638_0)
                                        injection hv638_0 with hva_ hvn_ hvc_
                                        rw [hva_] at ge638_0
                                        rw [hvc_] at ul638_0
                                        have HL638_0 := Aside0.mk (show Kd.V (Kd.int .i64) 3 _ w.heap.size _ _ (rd_L5 t616 x15_3) from Kd.V_mk ul638_0 ge638_0)
                                        clear hva_ hvn_ hvc_ ge638_0 ul638_0
                                        clear hcc638 hce638
                                        have HR638_0 := Aside0.mk hi638_0
                                        have HC638_0 := Aside0.mk hl638_0
                                        clear hi638_0 hl638_0
                                        replace p638 := eq_true p638
                                        replace q638 := eq_true q638
                                        have ea_ := Option.some.inj (hx635_0.symm.trans hx638_0)
                                        injection ea_ with ea_ en_ ec_
                                        subst ea_
                                        subst ec_
                                        clear en_
                                        have p639 : 0 ≤ (x15_3 : Int) := of_decide_eq_true (by first | (with_reducible assumption) | assumption)
                                        have q639 : x15_3 < (t616.length : Int) := of_decide_eq_true (by first | (with_reducible assumption) | assumption)
                                        obtain ⟨ad639, A639_0, c639_0, e639, hx639_0, hl639_0, hi639_0⟩ := at_L5 (Kd.N_reads' HO_7.out).2.2 x15_3 p639 q639
                                        obtain rfl : ad635 = ad639 := (by injection e639)
                                        obtain ⟨ce639, hce639, hMe639, hcc639⟩ := Kd.N_get HO_7.out [] x15_3 p639 (by first | exact q639 | exact of_decide_eq_true (by first | (with_reducible assumption) | assumption) | (have e_ := (Kd.N_reads' HO_7.out).1; omega))
                                        obtain ⟨ua639_0, uc639_0, rfl, ul639_0, ge639_0⟩ := Kd.FK_slice_open hMe639
                                        have hv639_0 := hcc639 0 _ rfl
                                        rw [Nat.add_zero, show ((Kd.slice 3 (Kd.int .i64))).sz = 1 from rfl, Nat.mul_one] at hv639_0
                                        replace hv639_0 := Option.some.inj (hv639_0.symm.trans hx639_0)
                                        injection hv639_0 with hva_ hvn_ hvc_
                                        rw [hva_] at ge639_0
                                        rw [hvc_] at ul639_0
                                        have HL639_0 := Aside0.mk (show Kd.V (Kd.int .i64) 3 _ w.heap.size _ _ (rd_L5 t616 x15_3) from Kd.V_mk ul639_0 ge639_0)
                                        clear hva_ hvn_ hvc_ ge639_0 ul639_0
                                        clear hcc639 hce639
                                        have HR639_0 := Aside0.mk hi639_0
                                        have HC639_0 := Aside0.mk hl639_0
                                        clear hi639_0 hl639_0
                                        replace p639 := eq_true p639
                                        replace q639 := eq_true q639
                                        have ea_ := Option.some.inj (hx635_0.symm.trans hx639_0)
                                        injection ea_ with ea_ en_ ec_
                                        subst ea_
                                        subst ec_
                                        clear en_
                                        refine start_ (n := 33) (S := fun w' => w'.cell? (ad635.add (x15_3).toNat) = some (.slice A635_0 (rd_L5 t616 x15_3).length c635_0) ∧ w'.cell? (ad635.add (x15_3).toNat) = some (.slice A635_0 (rd_L5 t616 x15_3).length c635_0) ∧ w'.cell? (ad635.add (x15_3).toNat) = some (.slice A635_0 (rd_L5 t616 x15_3).length c635_0) ∧ w'.cell? (ad635.add (x15_3).toNat) = some (.slice A635_0 (rd_L5 t616 x15_3).length c635_0)) (ds := []) #[false, false, false, false, false, false, false, false, false, false, false, false, false, false, false, false, false, false, false, false, false, false, false, false, false, false, false, false, false, false, false, false, false] (by kernel_rfl) rfl rfl ⟨hx635_0, hx637_0, hx638_0, hx639_0⟩ (fun hHeld => ?_); refine with_tabW wogglelaw07_BeaconTwins.tab15 wogglelaw07_BeaconTwins.bits15 (fun HT_ HW_ => ?_)
                                        generalize wc.drew = w52 at HO_6 HO_7 HO_53 HR632_0 HB HL635_0 HL637_0 HL638_0 HL639_0 HR635_0 HR637_0 HR638_0 HR639_0 hx635_0 hx637_0 hx638_0 hx639_0 hHeld ⊢
                                        refine pure_ (i := 0) (N := some 77) (v := ?_) (a' := ?_) #[true, false, false, false, false, false, false, false, false, false, false, false, false, false, false, false, false, false, false, false, false, false, false, false, false, false, false, false, false, false, false, false, false] rfl rfl (any_of HT_.out (by kernel_rfl)) (fun _ _ _ h => h) (Or.inl ⟨by rfl, ?_⟩) ?_ ?_
                                        rotate_left
                                        · intro w'
                                          go_simp
                                          with_reducible rfl
                                        rotate_left
                                        · simp only [Act.put, List.setIfInBounds_toArray, List.set_cons_zero, List.set_cons_succ, i64_w, i32_w]
                                          rfl
                                        refine pure_ (i := 1) (N := some 78) (v := ?_) (a' := ?_) #[true, true, false, false, false, false, false, false, false, false, false, false, false, false, false, false, false, false, false, false, false, false, false, false, false, false, false, false, false, false, false, false, false] rfl rfl (any_of HT_.out (by kernel_rfl)) (fun _ _ _ h => h) (Or.inl ⟨by rfl, ?_⟩) ?_ ?_
                                        rotate_left
                                        · intro w'
                                          go_simp
                                          with_reducible rfl
                                        rotate_left
                                        · simp only [Act.put, List.setIfInBounds_toArray, List.set_cons_zero, List.set_cons_succ, i64_w, i32_w]
                                          rfl
                                        refine pure_ (i := 2) (N := some 79) (v := ?_) (a' := ?_) #[true, true, true, false, false, false, false, false, false, false, false, false, false, false, false, false, false, false, false, false, false, false, false, false, false, false, false, false, false, false, false, false, false] rfl rfl (any_of HT_.out (by kernel_rfl)) (fun _ _ _ h => h) (Or.inl ⟨by rfl, ?_⟩) ?_ ?_
                                        rotate_left
                                        · intro w'
                                          go_simp
                                          with_reducible rfl
                                        rotate_left
                                        · simp only [Act.put, List.setIfInBounds_toArray, List.set_cons_zero, List.set_cons_succ, i64_w, i32_w]
                                          rfl
                                        refine pure_ (i := 3) (N := some 80) (v := ?_) (a' := ?_) #[true, true, true, true, false, false, false, false, false, false, false, false, false, false, false, false, false, false, false, false, false, false, false, false, false, false, false, false, false, false, false, false, false] rfl rfl (any_of HT_.out (by kernel_rfl)) (fun _ _ _ h => h) (Or.inl ⟨by rfl, ?_⟩) ?_ ?_
                                        rotate_left
                                        · intro w'
                                          go_simp
                                          with_reducible rfl
                                        rotate_left
                                        · simp only [Act.put, List.setIfInBounds_toArray, List.set_cons_zero, List.set_cons_succ, i64_w, i32_w]
                                          rfl
                                        refine take_ (i := 4) (N := some 81) (v := ?_) (a' := ?_) #[true, true, true, true, true, false, false, false, false, false, false, false, false, false, false, false, false, false, false, false, false, false, false, false, false, false, false, false, false, false, false, false, false] rfl rfl (take_ofW HT_.out HW_.out (by kernel_rfl)) (fun _ _ _ h => h) (Or.inl ⟨by rfl, ?_⟩) hHeld ?_ ?_
                                        rotate_left
                                        · rintro w' ⟨s0, s1, s2, s3⟩
                                          go_simp
                                          with_reducible rfl
                                        rotate_left
                                        · simp only [Act.put, List.setIfInBounds_toArray, List.set_cons_zero, List.set_cons_succ, i64_w, i32_w]
                                          rfl
                                        refine one_ (i := 5) (N := some 82) #[true, true, true, true, true, true, false, false, false, false, false, false, false, false, false, false, false, false, false, false, false, false, false, false, false, false, false, false, false, false, false, false, false] rfl rfl (one_of HT_.out (by kernel_rfl)) (by decide) (fun K hK => ?_)
                                        refine goes_ Tryd.func28 (by kernel_rfl) rfl #[.int .i64 t612, .slice A635_0 (rd_L5 t616 x15_3).length c635_0] (by rfl) rfl rfl (by (try simp only [List.map_toArray, List.map_cons, List.map_nil]); first | done | rfl | (simp only [List.length_drop, List.length_take]; rfl)) ?_
                                        with_reducible refine (woggleref01_Rising.calls kj32 t612 _ _ (rd_L5 t616 x15_3) true _ ?side1 ?side2 A40.out).mono ?_
                                        (case side1 => repeat (first | exact (by repeat (first | (with_reducible exact HR635_0.out) | (with_reducible refine Kd.C_alloc ?_ _) | (with_reducible refine Kd.C_drewN ?_ _) | (with_reducible refine Kd.C_drew ?_) | (with_reducible exact Kd.C_below HR635_0.out HB.out) | exact HR635_0.out | exact (Kd.C_below HR635_0.out HB.out))) | (with_reducible refine Kd.C_alloc ?_ _) | (with_reducible refine Kd.C_drewN ?_ _) | (with_reducible refine Kd.C_drew ?_)))
                                        (case side2 => exact HC635_0.out)
                                        rintro e w' ⟨rfl, ⟨nd, rfl⟩⟩
                                        refine ⟨_, rfl, ?_⟩
                                        refine hK.out _ _ ⟨hHeld.1, hHeld.2.1, hHeld.2.2.1, hHeld.2.2.2⟩ (fun hHeld => ?_)
                                        clear hK K
                                        refine norm_ (a' := ?_) ?_ ?_
                                        rotate_left
                                        · show Act.put _ (some 82) _ = _
                                          simp only [Act.put, List.setIfInBounds_toArray, List.set_cons_zero, List.set_cons_succ, i64_w, i32_w]
                                          rfl
                                        refine pure_ (i := 6) (N := some 83) (v := ?_) (a' := ?_) #[true, true, true, true, true, true, true, false, false, false, false, false, false, false, false, false, false, false, false, false, false, false, false, false, false, false, false, false, false, false, false, false, false] rfl rfl (any_of HT_.out (by kernel_rfl)) (fun _ _ _ h => h) (Or.inl ⟨by rfl, ?_⟩) ?_ ?_
                                        rotate_left
                                        · intro w'
                                          go_simp
                                          with_reducible rfl
                                        rotate_left
                                        · simp only [Act.put, List.setIfInBounds_toArray, List.set_cons_zero, List.set_cons_succ, i64_w, i32_w]
                                          rfl
                                        refine pure_ (i := 7) (N := some 84) (v := ?_) (a' := ?_) #[true, true, true, true, true, true, true, true, false, false, false, false, false, false, false, false, false, false, false, false, false, false, false, false, false, false, false, false, false, false, false, false, false] rfl rfl (any_of HT_.out (by kernel_rfl)) (fun _ _ _ h => h) (Or.inl ⟨by rfl, ?_⟩) ?_ ?_
                                        rotate_left
                                        · intro w'
                                          go_simp
                                          with_reducible rfl
                                        rotate_left
                                        · simp only [Act.put, List.setIfInBounds_toArray, List.set_cons_zero, List.set_cons_succ, i64_w, i32_w]
                                          rfl
                                        refine pure_ (i := 8) (N := some 85) (v := ?_) (a' := ?_) #[true, true, true, true, true, true, true, true, true, false, false, false, false, false, false, false, false, false, false, false, false, false, false, false, false, false, false, false, false, false, false, false, false] rfl rfl (any_of HT_.out (by kernel_rfl)) (fun _ _ _ h => h) (Or.inl ⟨by rfl, ?_⟩) ?_ ?_
                                        rotate_left
                                        · intro w'
                                          go_simp
                                          with_reducible rfl
                                        rotate_left
                                        · simp only [Act.put, List.setIfInBounds_toArray, List.set_cons_zero, List.set_cons_succ, i64_w, i32_w]
                                          rfl
                                        refine pure_ (i := 9) (N := some 86) (v := ?_) (a' := ?_) #[true, true, true, true, true, true, true, true, true, true, false, false, false, false, false, false, false, false, false, false, false, false, false, false, false, false, false, false, false, false, false, false, false] rfl rfl (any_of HT_.out (by kernel_rfl)) (fun _ _ _ h => h) (Or.inl ⟨by rfl, ?_⟩) ?_ ?_
                                        rotate_left
                                        · intro w'
                                          go_simp
                                          with_reducible rfl
                                        rotate_left
                                        · simp only [Act.put, List.setIfInBounds_toArray, List.set_cons_zero, List.set_cons_succ, i64_w, i32_w]
                                          rfl
                                        refine pure_ (i := 10) (N := some 87) (v := ?_) (a' := ?_) #[true, true, true, true, true, true, true, true, true, true, true, false, false, false, false, false, false, false, false, false, false, false, false, false, false, false, false, false, false, false, false, false, false] rfl rfl (any_of HT_.out (by kernel_rfl)) (fun _ _ _ h => h) (Or.inl ⟨by rfl, ?_⟩) ?_ ?_
                                        rotate_left
                                        · intro w'
                                          go_simp
                                          with_reducible rfl
                                        rotate_left
                                        · simp only [Act.put, List.setIfInBounds_toArray, List.set_cons_zero, List.set_cons_succ, i64_w, i32_w]
                                          rfl
                                        refine take_ (i := 11) (N := some 88) (v := ?_) (a' := ?_) #[true, true, true, true, true, true, true, true, true, true, true, true, false, false, false, false, false, false, false, false, false, false, false, false, false, false, false, false, false, false, false, false, false] rfl rfl (take_ofW HT_.out HW_.out (by kernel_rfl)) (fun _ _ _ h => h) (Or.inl ⟨by rfl, ?_⟩) hHeld ?_ ?_
                                        rotate_left
                                        · rintro w' ⟨s0, s1, s2, s3⟩
                                          go_simp
                                          with_reducible rfl
                                        rotate_left
                                        · simp only [Act.put, List.setIfInBounds_toArray, List.set_cons_zero, List.set_cons_succ, i64_w, i32_w]
                                          rfl
                                        refine pure_ (i := 12) (N := some 89) (v := ?_) (a' := ?_) #[true, true, true, true, true, true, true, true, true, true, true, true, true, false, false, false, false, false, false, false, false, false, false, false, false, false, false, false, false, false, false, false, false] rfl rfl (any_of HT_.out (by kernel_rfl)) (fun _ _ _ h => h) (Or.inl ⟨by rfl, ?_⟩) ?_ ?_
                                        rotate_left
                                        · intro w'
                                          go_simp
                                          with_reducible rfl
                                        rotate_left
                                        · simp only [Act.put, List.setIfInBounds_toArray, List.set_cons_zero, List.set_cons_succ, i64_w, i32_w]
                                          rfl
                                        refine pure_ (i := 13) (N := some 90) (v := ?_) (a' := ?_) #[true, true, true, true, true, true, true, true, true, true, true, true, true, true, false, false, false, false, false, false, false, false, false, false, false, false, false, false, false, false, false, false, false] rfl rfl (any_of HT_.out (by kernel_rfl)) (fun _ _ _ h => h) (Or.inl ⟨by rfl, ?_⟩) ?_ ?_
                                        rotate_left
                                        · intro w'
                                          go_simp
                                          with_reducible rfl
                                        rotate_left
                                        · simp only [Act.put, List.setIfInBounds_toArray, List.set_cons_zero, List.set_cons_succ, i64_w, i32_w]
                                          rfl
                                        refine pure_ (i := 14) (N := some 91) (v := ?_) (a' := ?_) #[true, true, true, true, true, true, true, true, true, true, true, true, true, true, true, false, false, false, false, false, false, false, false, false, false, false, false, false, false, false, false, false, false] rfl rfl (any_of HT_.out (by kernel_rfl)) (fun _ _ _ h => h) (Or.inl ⟨by rfl, ?_⟩) ?_ ?_
                                        rotate_left
                                        · intro w'
                                          go_simp
                                          with_reducible rfl
                                        rotate_left
                                        · simp only [Act.put, List.setIfInBounds_toArray, List.set_cons_zero, List.set_cons_succ, i64_w, i32_w]
                                          rfl
                                        refine pure_ (i := 15) (N := some 92) (v := ?_) (a' := ?_) #[true, true, true, true, true, true, true, true, true, true, true, true, true, true, true, true, false, false, false, false, false, false, false, false, false, false, false, false, false, false, false, false, false] rfl rfl (any_of HT_.out (by kernel_rfl)) (fun _ _ _ h => h) (Or.inl ⟨by rfl, ?_⟩) ?_ ?_
                                        rotate_left
                                        · intro w'
                                          go_simp
                                          with_reducible rfl
                                        rotate_left
                                        · simp only [Act.put, List.setIfInBounds_toArray, List.set_cons_zero, List.set_cons_succ, i64_w, i32_w]
                                          rfl
                                        refine pure_ (i := 16) (N := some 93) (v := ?_) (a' := ?_) #[true, true, true, true, true, true, true, true, true, true, true, true, true, true, true, true, true, false, false, false, false, false, false, false, false, false, false, false, false, false, false, false, false] rfl rfl (any_of HT_.out (by kernel_rfl)) (fun _ _ _ h => h) (Or.inl ⟨by rfl, ?_⟩) ?_ ?_
                                        rotate_left
                                        · intro w'
                                          go_simp
                                          with_reducible rfl
                                        rotate_left
                                        · simp only [Act.put, List.setIfInBounds_toArray, List.set_cons_zero, List.set_cons_succ, i64_w, i32_w]
                                          rfl
                                        refine pure_ (i := 17) (N := some 94) (v := ?_) (a' := ?_) #[true, true, true, true, true, true, true, true, true, true, true, true, true, true, true, true, true, true, false, false, false, false, false, false, false, false, false, false, false, false, false, false, false] rfl rfl (any_of HT_.out (by kernel_rfl)) (fun _ _ _ h => h) (Or.inl ⟨by rfl, ?_⟩) ?_ ?_
                                        rotate_left
                                        · intro w'
                                          go_simp
                                          with_reducible rfl
                                        rotate_left
                                        · simp only [Act.put, List.setIfInBounds_toArray, List.set_cons_zero, List.set_cons_succ, i64_w, i32_w]
                                          rfl
                                        refine pure_ (i := 18) (N := some 95) (v := ?_) (a' := ?_) #[true, true, true, true, true, true, true, true, true, true, true, true, true, true, true, true, true, true, true, false, false, false, false, false, false, false, false, false, false, false, false, false, false] rfl rfl (any_of HT_.out (by kernel_rfl)) (fun _ _ _ h => h) (Or.inl ⟨by rfl, ?_⟩) ?_ ?_
                                        rotate_left
                                        · intro w'
                                          go_simp
                                          with_reducible rfl
                                        rotate_left
                                        · simp only [Act.put, List.setIfInBounds_toArray, List.set_cons_zero, List.set_cons_succ, i64_w, i32_w]
                                          rfl
                                        refine pure_ (i := 21) (N := some 98) (v := ?_) (a' := ?_) #[true, true, true, true, true, true, true, true, true, true, true, true, true, true, true, true, true, true, true, false, false, true, false, false, false, false, false, false, false, false, false, false, false] rfl rfl (any_of HT_.out (by kernel_rfl)) (fun _ _ _ h => h) (Or.inl ⟨by rfl, ?_⟩) ?_ ?_
                                        rotate_left
                                        · intro w'
                                          go_simp
                                          with_reducible rfl
                                        rotate_left
                                        · simp only [Act.put, List.setIfInBounds_toArray, List.set_cons_zero, List.set_cons_succ, i64_w, i32_w]
                                          rfl
                                        refine pure_ (i := 22) (N := some 99) (v := ?_) (a' := ?_) #[true, true, true, true, true, true, true, true, true, true, true, true, true, true, true, true, true, true, true, false, false, true, true, false, false, false, false, false, false, false, false, false, false] rfl rfl (any_of HT_.out (by kernel_rfl)) (fun _ _ _ h => h) (Or.inl ⟨by rfl, ?_⟩) ?_ ?_
                                        rotate_left
                                        · intro w'
                                          go_simp
                                          with_reducible rfl
                                        rotate_left
                                        · simp only [Act.put, List.setIfInBounds_toArray, List.set_cons_zero, List.set_cons_succ, i64_w, i32_w]
                                          rfl
                                        refine pure_ (i := 23) (N := some 100) (v := ?_) (a' := ?_) #[true, true, true, true, true, true, true, true, true, true, true, true, true, true, true, true, true, true, true, false, false, true, true, true, false, false, false, false, false, false, false, false, false] rfl rfl (any_of HT_.out (by kernel_rfl)) (fun _ _ _ h => h) (Or.inl ⟨by rfl, ?_⟩) ?_ ?_
                                        rotate_left
                                        · intro w'
                                          go_simp
                                          with_reducible rfl
                                        rotate_left
                                        · simp only [Act.put, List.setIfInBounds_toArray, List.set_cons_zero, List.set_cons_succ, i64_w, i32_w]
                                          rfl
                                        refine pure_ (i := 26) (N := some 103) (v := ?_) (a' := ?_) #[true, true, true, true, true, true, true, true, true, true, true, true, true, true, true, true, true, true, true, false, false, true, true, true, false, false, true, false, false, false, false, false, false] rfl rfl (any_of HT_.out (by kernel_rfl)) (fun _ _ _ h => h) (Or.inl ⟨by rfl, ?_⟩) ?_ ?_
                                        rotate_left
                                        · intro w'
                                          go_simp
                                          with_reducible rfl
                                        rotate_left
                                        · simp only [Act.put, List.setIfInBounds_toArray, List.set_cons_zero, List.set_cons_succ, i64_w, i32_w]
                                          rfl
                                        refine take_ (i := 19) (N := some 96) (v := ?_) (a' := ?_) #[true, true, true, true, true, true, true, true, true, true, true, true, true, true, true, true, true, true, true, true, false, true, true, true, false, false, true, false, false, false, false, false, false] rfl rfl (take_ofW HT_.out HW_.out (by kernel_rfl)) (fun _ _ _ h => h) (Or.inl ⟨by rfl, ?_⟩) hHeld ?_ ?_
                                        rotate_left
                                        · rintro w' ⟨s0, s1, s2, s3⟩
                                          go_simp
                                          with_reducible rfl
                                        rotate_left
                                        · simp only [Act.put, List.setIfInBounds_toArray, List.set_cons_zero, List.set_cons_succ, i64_w, i32_w]
                                          rfl
                                        refine pure_ (i := 20) (N := some 97) (v := ?_) (a' := ?_) #[true, true, true, true, true, true, true, true, true, true, true, true, true, true, true, true, true, true, true, true, true, true, true, true, false, false, true, false, false, false, false, false, false] rfl rfl (any_of HT_.out (by kernel_rfl)) (fun _ _ _ h => h) (Or.inl ⟨by rfl, ?_⟩) ?_ ?_
                                        rotate_left
                                        · intro w'
                                          go_simp
                                          with_reducible rfl
                                        rotate_left
                                        · simp only [Act.put, List.setIfInBounds_toArray, List.set_cons_zero, List.set_cons_succ, i64_w, i32_w]
                                          rfl
                                        refine take_ (i := 24) (N := some 101) (v := ?_) (a' := ?_) #[true, true, true, true, true, true, true, true, true, true, true, true, true, true, true, true, true, true, true, true, true, true, true, true, true, false, true, false, false, false, false, false, false] rfl rfl (take_ofW HT_.out HW_.out (by kernel_rfl)) (fun _ _ _ h => h) (Or.inl ⟨by rfl, ?_⟩) hHeld ?_ ?_
                                        rotate_left
                                        · rintro w' ⟨s0, s1, s2, s3⟩
                                          go_simp
                                          with_reducible rfl
                                        rotate_left
                                        · simp only [Act.put, List.setIfInBounds_toArray, List.set_cons_zero, List.set_cons_succ, i64_w, i32_w]
                                          rfl
                                        refine one_ (i := 25) (N := some 102) #[true, true, true, true, true, true, true, true, true, true, true, true, true, true, true, true, true, true, true, true, true, true, true, true, true, true, true, false, false, false, false, false, false] rfl rfl (one_of HT_.out (by kernel_rfl)) (by decide) (fun K hK => ?_)
                                        refine goes_ Tryd.func40 (by kernel_rfl) rfl #[.slice A635_0 (rd_L5 t616 x15_3).length c635_0] (by rfl) rfl rfl (by (try simp only [List.map_toArray, List.map_cons, List.map_nil]); first | done | rfl | (simp only [List.length_drop, List.length_take]; rfl)) ?_
                                        with_reducible refine (woggleref01_Bits.calls kj32 _ _ (rd_L5 t616 x15_3) t640 _ ?side1 ?side2 A45.out).mono ?_
                                        (case side1 => repeat (first | exact (by repeat (first | (with_reducible exact HR639_0.out) | (with_reducible refine Kd.C_alloc ?_ _) | (with_reducible refine Kd.C_drewN ?_ _) | (with_reducible refine Kd.C_drew ?_) | (with_reducible exact Kd.C_below HR639_0.out HB.out) | exact HR639_0.out | exact (Kd.C_below HR639_0.out HB.out))) | (with_reducible refine Kd.C_alloc ?_ _) | (with_reducible refine Kd.C_drewN ?_ _) | (with_reducible refine Kd.C_drew ?_)))
                                        (case side2 => exact HC639_0.out)
                                        rintro e w' ⟨rfl, ⟨nd, rfl⟩⟩
                                        refine ⟨_, rfl, ?_⟩
                                        refine hK.out _ _ ⟨hHeld.1, hHeld.2.1, hHeld.2.2.1, hHeld.2.2.2⟩ (fun hHeld => ?_)
                                        clear hK K
                                        refine norm_ (a' := ?_) ?_ ?_
                                        rotate_left
                                        · show Act.put _ (some 102) _ = _
                                          simp only [Act.put, List.setIfInBounds_toArray, List.set_cons_zero, List.set_cons_succ, i64_w, i32_w]
                                          rfl
                                        refine one_ (i := 27) (N := some 104) #[true, true, true, true, true, true, true, true, true, true, true, true, true, true, true, true, true, true, true, true, true, true, true, true, true, true, true, true, false, false, false, false, false] rfl rfl (one_of HT_.out (by kernel_rfl)) (by decide) (fun K hK => ?_)
                                        refine goes_ Tryd.func40 (by kernel_rfl) rfl #[.slice A632_0 (rd_L5 y629 x55_2).length c632_0] (by rfl) rfl rfl (by (try simp only [List.map_toArray, List.map_cons, List.map_nil]); first | done | rfl | (simp only [List.length_drop, List.length_take]; rfl)) ?_
                                        with_reducible refine (woggleref01_Bits.calls kj32 _ _ (rd_L5 y629 x55_2) t641 _ ?side1 ?side2 A46.out).mono ?_
                                        (case side1 => repeat (first | (with_reducible exact Kd.C_drewN (Kd.C_drewN HR632_0.out _) _) | (with_reducible exact Kd.C_drewN HR632_0.out _) | (with_reducible exact HR632_0.out) | exact (Kd.C_below HR632_0.out (by repeat (first | (with_reducible first | exact HB.out | apply below_alloc | apply pw_below_drewN | apply below_drew1) | exact HB.out))) | (with_reducible refine Kd.C_alloc ?_ _) | (with_reducible refine Kd.C_drewN ?_ _) | (with_reducible refine Kd.C_drew ?_)))
                                        (case side2 => exact HC632_0.out)
                                        rintro e w' ⟨rfl, ⟨nd, rfl⟩⟩
                                        refine ⟨_, rfl, ?_⟩
                                        refine hK.out _ _ ⟨hHeld.1, hHeld.2.1, hHeld.2.2.1, hHeld.2.2.2⟩ (fun hHeld => ?_)
                                        clear hK K
                                        refine norm_ (a' := ?_) ?_ ?_
                                        rotate_left
                                        · show Act.put _ (some 104) _ = _
                                          simp only [Act.put, List.setIfInBounds_toArray, List.set_cons_zero, List.set_cons_succ, i64_w, i32_w]
                                          rfl
                                        refine pure_ (i := 28) (N := some 105) (v := ?_) (a' := ?_) #[true, true, true, true, true, true, true, true, true, true, true, true, true, true, true, true, true, true, true, true, true, true, true, true, true, true, true, true, true, false, false, false, false] rfl rfl (any_of HT_.out (by kernel_rfl)) (fun _ _ _ h => h) (Or.inl ⟨by rfl, ?_⟩) ?_ ?_
                                        rotate_left
                                        · intro w'
                                          go_simp
                                          with_reducible rfl
                                        rotate_left
                                        · simp only [Act.put, List.setIfInBounds_toArray, List.set_cons_zero, List.set_cons_succ, i64_w, i32_w]
                                          rfl
                                        refine one_ (i := 29) (N := some 106) #[true, true, true, true, true, true, true, true, true, true, true, true, true, true, true, true, true, true, true, true, true, true, true, true, true, true, true, true, true, true, false, false, false] rfl rfl (one_of HT_.out (by kernel_rfl)) (by decide) (fun K hK => ?_)
                                        refine goes_ Tryd.func27 (by kernel_rfl) rfl #[.int .i64 (Go.bits .and .i64 t640 t641)] (by rfl) rfl rfl (by (try simp only [List.map_toArray, List.map_cons, List.map_nil]); first | done | rfl | (simp only [List.length_drop, List.length_take]; rfl)) ?_
                                        with_reducible refine (woggleref06_Size.calls kj32 (Go.bits .and .i64 t640 t641) t642 _ A47.out).mono ?_
                                        rintro e w54 ⟨rfl, hb⟩
                                        have HS0_ := (hb.cell (World.block_lt_of_cell? _ _ (hHeld.1))).trans (hHeld.1)
                                        have HS1_ := (hb.cell (World.block_lt_of_cell? _ _ (hHeld.2.1))).trans (hHeld.2.1)
                                        have HS2_ := (hb.cell (World.block_lt_of_cell? _ _ (hHeld.2.2.1))).trans (hHeld.2.2.1)
                                        have HS3_ := (hb.cell (World.block_lt_of_cell? _ _ (hHeld.2.2.2))).trans (hHeld.2.2.2)
                                        refine ⟨_, rfl, ?_⟩
                                        have n0_ := Aside0.mk (Kd.R_below (by (with_reducible repeat (first | apply Kd.R_alloc | apply Kd.R_drewN | apply Kd.R_drew)); exact HO_6.out) hb)
                                        have n1_ := Aside0.mk (Kd.N_below (by (with_reducible repeat (first | apply Kd.N_alloc | apply Kd.N_drewN | apply Kd.N_drew)); exact HO_7.out) hb)
                                        have n2_ := Aside0.mk (Kd.N_below (by (with_reducible repeat (first | apply Kd.N_alloc | apply Kd.N_drewN | apply Kd.N_drew)); exact HO_53.out) hb)
                                        have n3_ := Aside0.mk (Kd.V_below (by (with_reducible repeat (first | apply Kd.V_alloc | apply Kd.V_drewN | apply Kd.V_drew)); exact HL635_0.out) hb)
                                        have n4_ := Aside0.mk (Kd.V_below (by (with_reducible repeat (first | apply Kd.V_alloc | apply Kd.V_drewN | apply Kd.V_drew)); exact HL637_0.out) hb)
                                        have n5_ := Aside0.mk (Kd.V_below (by (with_reducible repeat (first | apply Kd.V_alloc | apply Kd.V_drewN | apply Kd.V_drew)); exact HL638_0.out) hb)
                                        have n6_ := Aside0.mk (Kd.V_below (by (with_reducible repeat (first | apply Kd.V_alloc | apply Kd.V_drewN | apply Kd.V_drew)); exact HL639_0.out) hb)
                                        have n7_ := Aside0.mk (Kd.C_below (by first | (with_reducible exact Kd.C_drewN (Kd.C_drewN (Kd.C_drewN HR632_0.out _) _) _) | (with_reducible exact Kd.C_drewN (Kd.C_drewN HR632_0.out _) _) | (with_reducible exact Kd.C_drewN HR632_0.out _) | repeat (first | (with_reducible exact HR632_0.out) | (with_reducible refine Kd.C_alloc ?_ _) | (with_reducible refine Kd.C_drewN ?_ _) | (with_reducible refine Kd.C_drew ?_) | (with_reducible exact Kd.C_below HR632_0.out HB.out) | exact HR632_0.out | exact (Kd.C_below HR632_0.out HB.out))) hb)
                                        have n8_ := Aside0.mk (Kd.C_below (by first | (with_reducible exact Kd.C_drewN (Kd.C_drewN (Kd.C_drewN HR635_0.out _) _) _) | (with_reducible exact Kd.C_drewN (Kd.C_drewN HR635_0.out _) _) | (with_reducible exact Kd.C_drewN HR635_0.out _) | repeat (first | (with_reducible exact HR635_0.out) | (with_reducible refine Kd.C_alloc ?_ _) | (with_reducible refine Kd.C_drewN ?_ _) | (with_reducible refine Kd.C_drew ?_) | (with_reducible exact Kd.C_below HR635_0.out HB.out) | exact HR635_0.out | exact (Kd.C_below HR635_0.out HB.out))) hb)
                                        have n9_ := Aside0.mk (Kd.C_below (by first | (with_reducible exact Kd.C_drewN (Kd.C_drewN (Kd.C_drewN HR637_0.out _) _) _) | (with_reducible exact Kd.C_drewN (Kd.C_drewN HR637_0.out _) _) | (with_reducible exact Kd.C_drewN HR637_0.out _) | repeat (first | (with_reducible exact HR637_0.out) | (with_reducible refine Kd.C_alloc ?_ _) | (with_reducible refine Kd.C_drewN ?_ _) | (with_reducible refine Kd.C_drew ?_) | (with_reducible exact Kd.C_below HR637_0.out HB.out) | exact HR637_0.out | exact (Kd.C_below HR637_0.out HB.out))) hb)
                                        have n10_ := Aside0.mk (Kd.C_below (by first | (with_reducible exact Kd.C_drewN (Kd.C_drewN (Kd.C_drewN HR638_0.out _) _) _) | (with_reducible exact Kd.C_drewN (Kd.C_drewN HR638_0.out _) _) | (with_reducible exact Kd.C_drewN HR638_0.out _) | repeat (first | (with_reducible exact HR638_0.out) | (with_reducible refine Kd.C_alloc ?_ _) | (with_reducible refine Kd.C_drewN ?_ _) | (with_reducible refine Kd.C_drew ?_) | (with_reducible exact Kd.C_below HR638_0.out HB.out) | exact HR638_0.out | exact (Kd.C_below HR638_0.out HB.out))) hb)
                                        have n11_ := Aside0.mk (Kd.C_below (by first | (with_reducible exact Kd.C_drewN (Kd.C_drewN (Kd.C_drewN HR639_0.out _) _) _) | (with_reducible exact Kd.C_drewN (Kd.C_drewN HR639_0.out _) _) | (with_reducible exact Kd.C_drewN HR639_0.out _) | repeat (first | (with_reducible exact HR639_0.out) | (with_reducible refine Kd.C_alloc ?_ _) | (with_reducible refine Kd.C_drewN ?_ _) | (with_reducible refine Kd.C_drew ?_) | (with_reducible exact Kd.C_below HR639_0.out HB.out) | exact HR639_0.out | exact (Kd.C_below HR639_0.out HB.out))) hb)
                                        have n12_ := Aside0.mk (below_step (by repeat (first | (with_reducible first | exact HB.out | apply below_alloc | apply pw_below_drewN | apply below_drew1) | exact HB.out)) hb)
                                        clear HO_6
                                        clear HO_7
                                        clear HO_53
                                        clear HL635_0
                                        clear HL637_0
                                        clear HL638_0
                                        clear HL639_0
                                        clear HR632_0
                                        clear HR635_0
                                        clear HR637_0
                                        clear HR638_0
                                        clear HR639_0
                                        clear HB
                                        have HO_6 := n0_
                                        have HO_7 := n1_
                                        have HO_53 := n2_
                                        have HL635_0 := n3_
                                        have HL637_0 := n4_
                                        have HL638_0 := n5_
                                        have HL639_0 := n6_
                                        have HR632_0 := n7_
                                        have HR635_0 := n8_
                                        have HR637_0 := n9_
                                        have HR638_0 := n10_
                                        have HR639_0 := n11_
                                        have HB := n12_
                                        clear n0_ n1_ n2_ n3_ n4_ n5_ n6_ n7_ n8_ n9_ n10_ n11_ n12_
                                        (try clear hb)
                                        (try clear hb2)
                                        (try clear hk)
                                        (try clear hi)
                                        refine hK.out _ _ ⟨HS0_, HS1_, HS2_, HS3_⟩ (fun hHeld => ?_)
                                        clear hK K
                                        refine norm_ (a' := ?_) ?_ ?_
                                        rotate_left
                                        · show Act.put _ (some 106) _ = _
                                          simp only [Act.put, List.setIfInBounds_toArray, List.set_cons_zero, List.set_cons_succ, i64_w, i32_w]
                                          rfl
                                        refine pure_ (i := 30) (N := some 107) (v := ?_) (a' := ?_) #[true, true, true, true, true, true, true, true, true, true, true, true, true, true, true, true, true, true, true, true, true, true, true, true, true, true, true, true, true, true, true, false, false] rfl rfl (any_of HT_.out (by kernel_rfl)) (fun _ _ _ h => h) (Or.inl ⟨by rfl, ?_⟩) ?_ ?_
                                        rotate_left
                                        · intro w'
                                          go_simp
                                          with_reducible rfl
                                        rotate_left
                                        · simp only [Act.put, List.setIfInBounds_toArray, List.set_cons_zero, List.set_cons_succ, i64_w, i32_w]
                                          rfl
                                        refine pure_ (i := 31) (N := some 108) (v := ?_) (a' := ?_) #[true, true, true, true, true, true, true, true, true, true, true, true, true, true, true, true, true, true, true, true, true, true, true, true, true, true, true, true, true, true, true, true, false] rfl rfl (any_of HT_.out (by kernel_rfl)) (fun _ _ _ h => h) (Or.inl ⟨by rfl, ?_⟩) ?_ ?_
                                        rotate_left
                                        · intro w'
                                          go_simp
                                          with_reducible rfl
                                        rotate_left
                                        · simp only [Act.put, List.setIfInBounds_toArray, List.set_cons_zero, List.set_cons_succ, i64_w, i32_w]
                                          rfl
                                        refine pure_ (i := 32) (N := some 109) (v := ?_) (a' := ?_) #[true, true, true, true, true, true, true, true, true, true, true, true, true, true, true, true, true, true, true, true, true, true, true, true, true, true, true, true, true, true, true, true, true] rfl rfl (any_of HT_.out (by kernel_rfl)) (fun _ _ _ h => h) (Or.inl ⟨by rfl, ?_⟩) ?_ ?_
                                        rotate_left
                                        · intro w'
                                          go_simp
                                          with_reducible rfl
                                        rotate_left
                                        · simp only [Act.put, List.setIfInBounds_toArray, List.set_cons_zero, List.set_cons_succ, i64_w, i32_w]
                                          rfl
                                        refine done_ (done_of HT_.out (by kernel_rfl)) ?_
                                        try go_wp2
                                        go_roundg kj32
                                        case measure => have := HJ5.out; have := HK2.out; have := HK3.out; have := HJ32.out; omega
                                        case rel => exact ⟨(wrap64 (x15_3 + 1)), (by first | rfl | (simp; done) | (simp [*]; done)), H', ⟨by have := HJ5.out; have := HK2.out; have := HK3.out; have := HJ32.out; omega⟩, ⟨by (with_reducible repeat (first | apply Kd.R_alloc | apply Kd.R_drewN | apply Kd.R_drew)); exact HO_6.out⟩, ⟨by (with_reducible repeat (first | apply Kd.N_alloc | apply Kd.N_drewN | apply Kd.N_drew)); exact HO_7.out⟩, ⟨by (with_reducible repeat (first | apply Kd.N_alloc | apply Kd.N_drewN | apply Kd.N_drew)); exact HO_53.out⟩, ⟨by repeat (first | (with_reducible exact HR632_0.out) | (with_reducible refine Kd.C_alloc ?_ _) | (with_reducible refine Kd.C_drewN ?_ _) | (with_reducible refine Kd.C_drew ?_) | (with_reducible exact Kd.C_below HR632_0.out HB.out) | exact HR632_0.out | exact (Kd.C_below HR632_0.out HB.out))⟩, ⟨by repeat (first | (with_reducible first | exact HB.out | apply below_alloc | apply pw_below_drewN | apply below_drew1) | exact HB.out)⟩⟩
                                  · replace c41 := Bool.eq_false_iff.mpr c41
                                    subst c41
                                    have H1 : (some false) = some r := by rw [if_neg (show ¬ (false = true) by decide)] at H; exact H
                                    clear H
                                    have H := H1
                                    clear H1
                                    exact (no_true_ H HRR.out).elim
                                · rw [if_neg c39] at H
                                  exact absurd H (by simp)
                              · rw [if_neg c38] at H
                                exact absurd H (by simp)
                            · replace c37 := Bool.eq_false_iff.mpr c37
                              subst c37
                              have H1 : (wogglelaw07_BeaconTwins.l0 kj32 t612 t613 t616 y629 (y629.length : Int) (wrap64 (x55_2 + 1))) = some r := by rw [if_neg (show ¬ (false = true) by decide)] at H; exact H
                              clear H
                              have H := H1
                              clear H1
                              have H' := Aside0.mk H
                              clear H
                              go_wp2
                              go_roundg kj32
                              case measure => have := HJ5.out; have := HK2.out; have := HK3.out; have := HJ32.out; omega
                              case rel => exact ⟨(wrap64 (x55_2 + 1)), (by first | rfl | (simp; done) | (simp [*]; done)), H', ⟨by have := HJ5.out; have := HK2.out; have := HK3.out; have := HJ32.out; omega⟩, ⟨by (with_reducible repeat (first | apply Kd.R_alloc | apply Kd.R_drewN | apply Kd.R_drew)); exact HO_6.out⟩, ⟨by (with_reducible repeat (first | apply Kd.N_alloc | apply Kd.N_drewN | apply Kd.N_drew)); exact HO_7.out⟩, ⟨by (with_reducible repeat (first | apply Kd.N_alloc | apply Kd.N_drewN | apply Kd.N_drew)); exact HO_53.out⟩, ⟨by repeat (first | (with_reducible first | exact HB.out | apply below_alloc | apply pw_below_drewN | apply below_drew1) | exact HB.out)⟩⟩
                  · rw [if_neg c31] at H
                    exact (no_true_ H HRR.out).elim
                · rw [if_neg c29] at H
                  exact absurd H (by simp)
              · rw [if_neg c28] at H
                exact absurd H (by simp)
            · rw [if_neg c27] at H
              have c27b0 : decide (x55_2 < (y629.length : Int)) = false := decide_eq_false c27
              clear c27
              obtain rfl := Option.some.inj H
              go_wp2
              go_ret
              exact ⟨by first | rfl | (simp [errW_none, errW_some] <;> rfl) | (simp [*, errW_none, errW_some] <;> rfl), by repeat (first | (with_reducible first | exact HB.out | apply below_alloc | apply pw_below_drewN | apply below_drew1) | exact HB.out)⟩

/-- THE ONE PURE STATEMENT of wogglelaw07_BeaconTwins: yours. -/
def wogglelaw07_BeaconTwins.Pure : Prop := ∀ (l0 : List (S77)) (a1 : Int), (l0.length ≤ maxLen ∧ ∀ x0_ ∈ l0, ((Lit.int .u8 x0_.f0).wf = true ∧ (Lit.int .u8 x0_.f1).wf = true)) → (Lit.int .u16 a1).wf = true → ∃ k, wogglelaw07_BeaconTwins.f k l0 a1 = some true

end Go.Proofs.YtbeimdngghedjaaDoor.P
