-- written by a program of this session
import Derived.Test.YtbeimdngghedjaaDoorPK
import Derived.Test.YtbeimdngghedjaaDoorPK2
import Derived.Test.YtbeimdngghedjaaDoorPF16
import Derived.Test.YtbeimdngghedjaaDoorPF16d
import Derived.Test.YtbeimdngghedjaaDoorPF23
import Derived.Test.YtbeimdngghedjaaDoorPF31
import Derived.Test.YtbeimdngghedjaaDoorBI
import Derived.Test.YtbeimdngghedjaaDoorGD
import Derived.Test.YtbeimdngghedjaaDoorBZ
namespace Go.Proofs.YtbeimdngghedjaaDoor.P
open Go.RowKit Go.Proofs.YtbeimdngghedjaaDoorW.PrintWords Go.Proofs.YtbeimdngghedjaaDoorW.PrintLast Go.Proofs.YtbeimdngghedjaaDoorW.PrintMore
attribute [local go_sem] max2_int min2_int max_two min_two max_three min_three max_four min_four   -- for this text's walks alone
set_option linter.unusedVariables false
set_option linter.unusedSimpArgs false

/-! ### wogglelaw07_BeaconBound: function 9 -/
mutual
def wogglelaw07_BeaconBound.j0 : Nat → Int → List Int → Bool → List (List Int) → Bool → Option (Bool)
  | 0, _, _, _, _, _ => none
  | k + 1, x5, x7, x8, x10, x53 => if x53 = true then (some false) else (wogglelaw07_BeaconBound.l0 k x5 x7 x8 x10 0 1 0)
def wogglelaw07_BeaconBound.l0 : Nat → Int → List Int → Bool → List (List Int) → Int → Int → Int → Option (Bool)
  | 0, _, _, _, _, _, _, _ => none
  | k + 1, x5, x7, x8, x10, x12, x13, x14 => if x14 < x5 then (wogglelaw07_BeaconBound.l1 k x5 x7 x8 x10 x12 x13 x14 0) else (wogglelaw07_BeaconBound.l2 k x5 x7 x8 x12 x13 0)
def wogglelaw07_BeaconBound.l1 : Nat → Int → List Int → Bool → List (List Int) → Int → Int → Int → Int → Option (Bool)
  | 0, _, _, _, _, _, _, _, _ => none
  | k + 1, x5, x7, x8, x10, x12, x13, x14, x15 => if 0 ≤ x14 then (if x14 < (x10.length : Int) then (if x15 < ((rd_L5 x10 x14).length : Int) then (if 0 ≤ x15 then (wogglelaw07_BeaconBound.l1 k x5 x7 x8 x10 (mx x12 (rd (rd_L5 x10 x14) x15)) x13 x14 (wrap64 (x15 + 1))) else (none)) else (wogglelaw07_BeaconBound.l0 k x5 x7 x8 x10 x12 x13 (wrap64 (x14 + 1)))) else (none)) else (none)
def wogglelaw07_BeaconBound.l2 : Nat → Int → List Int → Bool → Int → Int → Int → Option (Bool)
  | 0, _, _, _, _, _, _ => none
  | k + 1, x5, x7, x8, x12, x13, x16 => if x16 < (x7.length : Int) then (wogglelaw07_BeaconBound.l2 k x5 x7 x8 x12 (mn (wrap64 (x13 * x12)) 1000) (wrap64 (x16 + 1))) else (if x8 = true then (some (decide (x5 ≤ (wrap64 ((x7.length : Int) + x13))))) else (some true))
end
def wogglelaw07_BeaconBound.f (k : Nat) (l0 : List (S77)) (a1 : Int) : Option (Bool) := (wogglelaw07_made.f k l0 10).bind fun bt476 => ((wogglelaw07_marks.f k bt476.1 a1).bind fun t480 => ((beacon_Resolves.f k bt476.1 bt476.2 t480).bind fun bt483 => ((beacon_Distances.f bt476.1 bt476.2).bind fun bt485 => (if bt483.2 = 0 then (if bt485.2 = 0 then (if (bt485.1.length : Int) = bt476.1 then ((wogglelaw07_lives.f k).bind fun t489 => (wogglelaw07_BeaconBound.j0 k bt476.1 t480 bt483.1 bt485.1 (!t489))) else (wogglelaw07_BeaconBound.j0 k bt476.1 t480 bt483.1 bt485.1 true)) else (wogglelaw07_BeaconBound.j0 k bt476.1 t480 bt483.1 bt485.1 true)) else (wogglelaw07_BeaconBound.j0 k bt476.1 t480 bt483.1 bt485.1 true)))))
theorem wogglelaw07_BeaconBound.mono_l : ∀ k, (∀ y0 y1 y2 y3 y4, LeO (wogglelaw07_BeaconBound.j0 k y0 y1 y2 y3 y4) (wogglelaw07_BeaconBound.j0 (k + 1) y0 y1 y2 y3 y4)) ∧ (∀ y0 y1 y2 y3 y4 y5 y6, LeO (wogglelaw07_BeaconBound.l0 k y0 y1 y2 y3 y4 y5 y6) (wogglelaw07_BeaconBound.l0 (k + 1) y0 y1 y2 y3 y4 y5 y6)) ∧ (∀ y0 y1 y2 y3 y4 y5 y6 y7, LeO (wogglelaw07_BeaconBound.l1 k y0 y1 y2 y3 y4 y5 y6 y7) (wogglelaw07_BeaconBound.l1 (k + 1) y0 y1 y2 y3 y4 y5 y6 y7)) ∧ (∀ y0 y1 y2 y3 y4 y5, LeO (wogglelaw07_BeaconBound.l2 k y0 y1 y2 y3 y4 y5) (wogglelaw07_BeaconBound.l2 (k + 1) y0 y1 y2 y3 y4 y5))
  | 0 => ⟨fun _ _ _ _ _ r h => by simp [wogglelaw07_BeaconBound.j0] at h, fun _ _ _ _ _ _ _ r h => by simp [wogglelaw07_BeaconBound.l0] at h, fun _ _ _ _ _ _ _ _ r h => by simp [wogglelaw07_BeaconBound.l1] at h, fun _ _ _ _ _ _ r h => by simp [wogglelaw07_BeaconBound.l2] at h⟩
  | k + 1 => by
    obtain ⟨ih0, ih1, ih2, ih3⟩ := wogglelaw07_BeaconBound.mono_l k
    refine ⟨?_, ?_, ?_, ?_⟩
    · intro y0 y1 y2 y3 y4
      unfold wogglelaw07_BeaconBound.j0
      repeat' first
      | (with_reducible exact ih0 _ _ _ _ _)
      | (with_reducible exact ih1 _ _ _ _ _ _ _)
      | (with_reducible exact ih2 _ _ _ _ _ _ _ _)
      | (with_reducible exact ih3 _ _ _ _ _ _)
      | (with_reducible exact beacon_Resolves.mono _ _ _ _)
      | (with_reducible exact wogglelaw07_lives.mono _)
      | (with_reducible exact wogglelaw07_made.mono _ _ _)
      | (with_reducible exact wogglelaw07_marks.mono _ _ _)
      | (with_reducible exact LeO.refl _)
      | (with_reducible exact LeO.none _)
      | (with_reducible refine LeO.ite ?_ ?_)
      | (with_reducible refine LeO.bind ?_ (fun _ => ?_))
      | exact ih0 _ _ _ _ _
      | exact ih1 _ _ _ _ _ _ _
      | exact ih2 _ _ _ _ _ _ _ _
      | exact ih3 _ _ _ _ _ _
      | exact beacon_Resolves.mono _ _ _ _
      | exact wogglelaw07_lives.mono _
      | exact wogglelaw07_made.mono _ _ _
      | exact wogglelaw07_marks.mono _ _ _
      | exact LeO.none _
      | refine LeO.ite ?_ ?_
      | refine LeO.bind ?_ (fun _ => ?_)
    · intro y0 y1 y2 y3 y4 y5 y6
      unfold wogglelaw07_BeaconBound.l0
      repeat' first
      | (with_reducible exact ih0 _ _ _ _ _)
      | (with_reducible exact ih1 _ _ _ _ _ _ _)
      | (with_reducible exact ih2 _ _ _ _ _ _ _ _)
      | (with_reducible exact ih3 _ _ _ _ _ _)
      | (with_reducible exact beacon_Resolves.mono _ _ _ _)
      | (with_reducible exact wogglelaw07_lives.mono _)
      | (with_reducible exact wogglelaw07_made.mono _ _ _)
      | (with_reducible exact wogglelaw07_marks.mono _ _ _)
      | (with_reducible exact LeO.refl _)
      | (with_reducible exact LeO.none _)
      | (with_reducible refine LeO.ite ?_ ?_)
      | (with_reducible refine LeO.bind ?_ (fun _ => ?_))
      | exact ih0 _ _ _ _ _
      | exact ih1 _ _ _ _ _ _ _
      | exact ih2 _ _ _ _ _ _ _ _
      | exact ih3 _ _ _ _ _ _
      | exact beacon_Resolves.mono _ _ _ _
      | exact wogglelaw07_lives.mono _
      | exact wogglelaw07_made.mono _ _ _
      | exact wogglelaw07_marks.mono _ _ _
      | exact LeO.none _
      | refine LeO.ite ?_ ?_
      | refine LeO.bind ?_ (fun _ => ?_)
    · intro y0 y1 y2 y3 y4 y5 y6 y7
      unfold wogglelaw07_BeaconBound.l1
      repeat' first
      | (with_reducible exact ih0 _ _ _ _ _)
      | (with_reducible exact ih1 _ _ _ _ _ _ _)
      | (with_reducible exact ih2 _ _ _ _ _ _ _ _)
      | (with_reducible exact ih3 _ _ _ _ _ _)
      | (with_reducible exact beacon_Resolves.mono _ _ _ _)
      | (with_reducible exact wogglelaw07_lives.mono _)
      | (with_reducible exact wogglelaw07_made.mono _ _ _)
      | (with_reducible exact wogglelaw07_marks.mono _ _ _)
      | (with_reducible exact LeO.refl _)
      | (with_reducible exact LeO.none _)
      | (with_reducible refine LeO.ite ?_ ?_)
      | (with_reducible refine LeO.bind ?_ (fun _ => ?_))
      | exact ih0 _ _ _ _ _
      | exact ih1 _ _ _ _ _ _ _
      | exact ih2 _ _ _ _ _ _ _ _
      | exact ih3 _ _ _ _ _ _
      | exact beacon_Resolves.mono _ _ _ _
      | exact wogglelaw07_lives.mono _
      | exact wogglelaw07_made.mono _ _ _
      | exact wogglelaw07_marks.mono _ _ _
      | exact LeO.none _
      | refine LeO.ite ?_ ?_
      | refine LeO.bind ?_ (fun _ => ?_)
    · intro y0 y1 y2 y3 y4 y5
      unfold wogglelaw07_BeaconBound.l2
      repeat' first
      | (with_reducible exact ih0 _ _ _ _ _)
      | (with_reducible exact ih1 _ _ _ _ _ _ _)
      | (with_reducible exact ih2 _ _ _ _ _ _ _ _)
      | (with_reducible exact ih3 _ _ _ _ _ _)
      | (with_reducible exact beacon_Resolves.mono _ _ _ _)
      | (with_reducible exact wogglelaw07_lives.mono _)
      | (with_reducible exact wogglelaw07_made.mono _ _ _)
      | (with_reducible exact wogglelaw07_marks.mono _ _ _)
      | (with_reducible exact LeO.refl _)
      | (with_reducible exact LeO.none _)
      | (with_reducible refine LeO.ite ?_ ?_)
      | (with_reducible refine LeO.bind ?_ (fun _ => ?_))
      | exact ih0 _ _ _ _ _
      | exact ih1 _ _ _ _ _ _ _
      | exact ih2 _ _ _ _ _ _ _ _
      | exact ih3 _ _ _ _ _ _
      | exact beacon_Resolves.mono _ _ _ _
      | exact wogglelaw07_lives.mono _
      | exact wogglelaw07_made.mono _ _ _
      | exact wogglelaw07_marks.mono _ _ _
      | exact LeO.none _
      | refine LeO.ite ?_ ?_
      | refine LeO.bind ?_ (fun _ => ?_)
theorem wogglelaw07_BeaconBound.mono : ∀ a0 a1 k, LeO (wogglelaw07_BeaconBound.f k a0 a1) (wogglelaw07_BeaconBound.f (k + 1) a0 a1) := by
  intro a0 a1 k
  obtain ⟨ih0, ih1, ih2, ih3⟩ := wogglelaw07_BeaconBound.mono_l k
  unfold wogglelaw07_BeaconBound.f
  repeat' first
      | (with_reducible exact ih0 _ _ _ _ _)
      | (with_reducible exact ih1 _ _ _ _ _ _ _)
      | (with_reducible exact ih2 _ _ _ _ _ _ _ _)
      | (with_reducible exact ih3 _ _ _ _ _ _)
      | (with_reducible exact beacon_Resolves.mono _ _ _ _)
      | (with_reducible exact wogglelaw07_lives.mono _)
      | (with_reducible exact wogglelaw07_made.mono _ _ _)
      | (with_reducible exact wogglelaw07_marks.mono _ _ _)
      | (with_reducible exact LeO.refl _)
      | (with_reducible exact LeO.none _)
      | (with_reducible refine LeO.ite ?_ ?_)
      | (with_reducible refine LeO.bind ?_ (fun _ => ?_))
      | exact ih0 _ _ _ _ _
      | exact ih1 _ _ _ _ _ _ _
      | exact ih2 _ _ _ _ _ _ _ _
      | exact ih3 _ _ _ _ _ _
      | exact beacon_Resolves.mono _ _ _ _
      | exact wogglelaw07_lives.mono _
      | exact wogglelaw07_made.mono _ _ _
      | exact wogglelaw07_marks.mono _ _ _
      | exact LeO.none _
      | refine LeO.ite ?_ ?_
      | refine LeO.bind ?_ (fun _ => ?_)
set_option maxHeartbeats 8000000 in
set_option maxRecDepth 100000 in
theorem wogglelaw07_BeaconBound.calls (k : Nat) (A0 : Option Addr) (c0 : Nat) (l0 : List (S77)) (a1 : Int) (r : Bool) (w : World) (hr0 : Kd.C k77 w A0 l0.length l0) (hc0 : l0.length ≤ c0) (hdoor : Door w) (h : wogglelaw07_BeaconBound.f k l0 a1 = some r) :
    Calls Tryd.prog 9 #[.slice A0 l0.length c0, .int .u16 a1] w fun e w' => e = .returned (.bool r) ∧ Below w.heap.size w w' := by
  have HDOOR := Aside0.mk hdoor
  clear hdoor
  have HR0 := Aside0.mk hr0
  have HC0 := Aside0.mk hc0
  clear hr0 hc0
  have HB := Aside0.mk (Below.refl w.heap.size w)
  have H : ((wogglelaw07_made.f k l0 10).bind fun bt476 => ((wogglelaw07_marks.f k bt476.1 a1).bind fun t480 => ((beacon_Resolves.f k bt476.1 bt476.2 t480).bind fun bt483 => ((beacon_Distances.f bt476.1 bt476.2).bind fun bt485 => (if bt483.2 = 0 then (if bt485.2 = 0 then (if (bt485.1.length : Int) = bt476.1 then ((wogglelaw07_lives.f k).bind fun t489 => (wogglelaw07_BeaconBound.j0 k bt476.1 t480 bt483.1 bt485.1 (!t489))) else (wogglelaw07_BeaconBound.j0 k bt476.1 t480 bt483.1 bt485.1 true)) else (wogglelaw07_BeaconBound.j0 k bt476.1 t480 bt483.1 bt485.1 true)) else (wogglelaw07_BeaconBound.j0 k bt476.1 t480 bt483.1 bt485.1 true)))))) = some r := h
  clear h
  replace H := Option.bind_eq_some_iff.mp H
  obtain ⟨⟨t476, t477⟩, A30, H⟩ := H
  replace H : ((wogglelaw07_marks.f k t476 a1).bind fun t480 => ((beacon_Resolves.f k t476 t477 t480).bind fun bt483 => ((beacon_Distances.f t476 t477).bind fun bt485 => (if bt483.2 = 0 then (if bt485.2 = 0 then (if (bt485.1.length : Int) = t476 then ((wogglelaw07_lives.f k).bind fun t489 => (wogglelaw07_BeaconBound.j0 k t476 t480 bt483.1 bt485.1 (!t489))) else (wogglelaw07_BeaconBound.j0 k t476 t480 bt483.1 bt485.1 true)) else (wogglelaw07_BeaconBound.j0 k t476 t480 bt483.1 bt485.1 true)) else (wogglelaw07_BeaconBound.j0 k t476 t480 bt483.1 bt485.1 true))))) = some r := H
  have A3 := Aside0.mk A30
  clear A30
  replace H := Option.bind_eq_some_iff.mp H
  obtain ⟨t480, A40, H⟩ := H
  replace H : ((beacon_Resolves.f k t476 t477 t480).bind fun bt483 => ((beacon_Distances.f t476 t477).bind fun bt485 => (if bt483.2 = 0 then (if bt485.2 = 0 then (if (bt485.1.length : Int) = t476 then ((wogglelaw07_lives.f k).bind fun t489 => (wogglelaw07_BeaconBound.j0 k t476 t480 bt483.1 bt485.1 (!t489))) else (wogglelaw07_BeaconBound.j0 k t476 t480 bt483.1 bt485.1 true)) else (wogglelaw07_BeaconBound.j0 k t476 t480 bt483.1 bt485.1 true)) else (wogglelaw07_BeaconBound.j0 k t476 t480 bt483.1 bt485.1 true)))) = some r := H
  have A4 := Aside0.mk A40
  clear A40
  replace H := Option.bind_eq_some_iff.mp H
  obtain ⟨⟨t483, t484⟩, A50, H⟩ := H
  replace H : ((beacon_Distances.f t476 t477).bind fun bt485 => (if t484 = 0 then (if bt485.2 = 0 then (if (bt485.1.length : Int) = t476 then ((wogglelaw07_lives.f k).bind fun t489 => (wogglelaw07_BeaconBound.j0 k t476 t480 t483 bt485.1 (!t489))) else (wogglelaw07_BeaconBound.j0 k t476 t480 t483 bt485.1 true)) else (wogglelaw07_BeaconBound.j0 k t476 t480 t483 bt485.1 true)) else (wogglelaw07_BeaconBound.j0 k t476 t480 t483 bt485.1 true))) = some r := H
  have A5 := Aside0.mk A50
  clear A50
  replace H := Option.bind_eq_some_iff.mp H
  obtain ⟨⟨t485, t486⟩, A60, H⟩ := H
  replace H : (if t484 = 0 then (if t486 = 0 then (if (t485.length : Int) = t476 then ((wogglelaw07_lives.f k).bind fun t489 => (wogglelaw07_BeaconBound.j0 k t476 t480 t483 t485 (!t489))) else (wogglelaw07_BeaconBound.j0 k t476 t480 t483 t485 true)) else (wogglelaw07_BeaconBound.j0 k t476 t480 t483 t485 true)) else (wogglelaw07_BeaconBound.j0 k t476 t480 t483 t485 true)) = some r := H
  have A6 := Aside0.mk A60
  clear A60
  have HC7 := Aside0.mk H
  clear H
  go_enter Tryd.func9, Tryd.ntmps9
  go_upto_region 5 with (first | ((with_reducible refine gate_callee (f := 23) rfl ?_); refine goesL_ (some 19) rfl rfl Tryd.func23 (by kernel_rfl) rfl #[.slice A0 l0.length c0, .int .i64 10] rfl (by (try simp only [List.map_toArray, List.map_cons, List.map_nil]); first | done | rfl | (simp only [List.length_drop, List.length_take]; rfl)) ?_; (with_reducible refine (wogglelaw07_made.calls k _ _ l0 10 t476 t477 _ ?side1 ?side2 A3.out).mono ?_); (case side1 => repeat (first | exact HR0.out | (with_reducible refine Kd.C_alloc ?_ _) | (with_reducible refine Kd.C_drewN ?_ _) | (with_reducible refine Kd.C_drew ?_))); (case side2 => exact HC0.out); rintro e w8 ⟨v478, rfl, ho0, hb⟩; refine ⟨_, rfl, ?_⟩; have n0_ := Aside0.mk (Kd.R_lower ho0 (below_size (by repeat (first | (with_reducible first | exact HB.out | apply below_alloc | apply pw_below_drewN | apply below_drew1) | exact HB.out)))); have n1_ := Aside0.mk (below_step (by repeat (first | (with_reducible first | exact HB.out | apply below_alloc | apply pw_below_drewN | apply below_drew1) | exact HB.out)) hb); clear HB; have HO479 := n0_; have HB := n1_; clear n0_ n1_; (try clear hb); (try clear hb2); (try clear hk); (try clear hi); (try clear ho0)) | ((with_reducible refine gate_callee (f := 31) rfl ?_); refine goesL_ (some 24) rfl rfl Tryd.func31 (by kernel_rfl) rfl #[.int .i64 t476, .int .u16 a1] rfl (by (try simp only [List.map_toArray, List.map_cons, List.map_nil]); first | done | rfl | (simp only [List.length_drop, List.length_take]; rfl)) ?_; (with_reducible refine (wogglelaw07_marks.calls k t476 a1 t480 _ A4.out).mono ?_); rintro e w9 ⟨v481, rfl, ho0, hb⟩; refine ⟨_, rfl, ?_⟩; have n0_ := Aside0.mk (Kd.R_below (by (with_reducible repeat (first | apply Kd.R_alloc | apply Kd.R_drewN | apply Kd.R_drew)); exact HO479.out) hb); have n1_ := Aside0.mk (Kd.R_lower ho0 (below_size (by repeat (first | (with_reducible first | exact HB.out | apply below_alloc | apply pw_below_drewN | apply below_drew1) | exact HB.out)))); have n2_ := Aside0.mk (below_step (by repeat (first | (with_reducible first | exact HB.out | apply below_alloc | apply pw_below_drewN | apply below_drew1) | exact HB.out)) hb); clear HO479; clear HB; have HO479 := n0_; have HO482 := n1_; have HB := n2_; clear n0_ n1_ n2_; (try clear hb); (try clear hb2); (try clear hk); (try clear hi); (try clear ho0); obtain ⟨Ao10, co10, eo10⟩ := Kd.R_slice HO479.out; subst eo10; obtain ⟨Ao11, co11, eo11⟩ := Kd.R_slice HO482.out; subst eo11) | ((with_reducible refine gate_callee (f := 29) rfl ?_); refine goesL_ (some 29) rfl rfl Tryd.func29 (by kernel_rfl) rfl #[.int .i64 t476, .slice Ao10 t477.length co10, .slice Ao11 t480.length co11] rfl (by (try simp only [List.map_toArray, List.map_cons, List.map_nil]); first | done | rfl | (simp only [List.length_drop, List.length_take]; rfl)) ?_; (with_reducible refine (beacon_Resolves.calls k t476 _ _ t477 _ _ t480 t483 t484 _ ?side1 ?side2 ?side3 ?side4 ?sideD A5.out).mono ?_); (case sideD => repeat (first | exact (Door.below HDOOR.out HB.out) | exact HDOOR.out | (with_reducible refine Door.alloc ?_ _) | (with_reducible refine Door.drewN ?_ _) | (with_reducible refine Door.drew ?_))); (case side1 => repeat (first | exact (Kd.R_reads' HO479.out).2.2 | (with_reducible refine Kd.C_alloc ?_ _) | (with_reducible refine Kd.C_drewN ?_ _) | (with_reducible refine Kd.C_drew ?_))); (case side2 => exact (Kd.R_reads' HO479.out).2.1); (case side3 => repeat (first | exact (Kd.R_reads' HO482.out).2.2 | (with_reducible refine Kd.C_alloc ?_ _) | (with_reducible refine Kd.C_drewN ?_ _) | (with_reducible refine Kd.C_drew ?_))); (case side4 => exact (Kd.R_reads' HO482.out).2.1); rintro e w12 ⟨rfl, hb⟩; refine ⟨_, rfl, ?_⟩; have n0_ := Aside0.mk (Kd.R_below (by (with_reducible repeat (first | apply Kd.R_alloc | apply Kd.R_drewN | apply Kd.R_drew)); exact HO479.out) hb); have n1_ := Aside0.mk (Kd.R_below (by (with_reducible repeat (first | apply Kd.R_alloc | apply Kd.R_drewN | apply Kd.R_drew)); exact HO482.out) hb); have n2_ := Aside0.mk (below_step (by repeat (first | (with_reducible first | exact HB.out | apply below_alloc | apply pw_below_drewN | apply below_drew1) | exact HB.out)) hb); clear HO479; clear HO482; clear HB; have HO479 := n0_; have HO482 := n1_; have HB := n2_; clear n0_ n1_ n2_; (try clear hb); (try clear hb2); (try clear hk); (try clear hi)) | ((with_reducible refine gate_callee (f := 32) rfl ?_); refine goesL_ (some 35) rfl rfl Tryd.func32 (by kernel_rfl) rfl #[.int .i64 t476, .slice Ao10 t477.length co10] rfl (by (try simp only [List.map_toArray, List.map_cons, List.map_nil]); first | done | rfl | (simp only [List.length_drop, List.length_take]; rfl)) ?_; (with_reducible refine (beacon_Distances.calls t476 _ _ t477 t485 t486 _ ?side1 ?side2 A6.out).mono ?_); (case side1 => repeat (first | exact (Kd.R_reads' HO479.out).2.2 | (with_reducible refine Kd.C_alloc ?_ _) | (with_reducible refine Kd.C_drewN ?_ _) | (with_reducible refine Kd.C_drew ?_))); (case side2 => exact (Kd.R_reads' HO479.out).2.1); rintro e w13 ⟨v487, rfl, ho0, hb⟩; refine ⟨_, rfl, ?_⟩; have n0_ := Aside0.mk (Kd.R_below (by (with_reducible repeat (first | apply Kd.R_alloc | apply Kd.R_drewN | apply Kd.R_drew)); exact HO479.out) hb); have n1_ := Aside0.mk (Kd.R_below (by (with_reducible repeat (first | apply Kd.R_alloc | apply Kd.R_drewN | apply Kd.R_drew)); exact HO482.out) hb); have n2_ := Aside0.mk (Kd.S_lower (Kd.S_new' ho0 (Kd.R_lt (by (with_reducible repeat (first | apply Kd.R_alloc | apply Kd.R_drewN | apply Kd.R_drew)); exact HO482.out))) (below_size (by repeat (first | (with_reducible first | exact HB.out | apply below_alloc | apply pw_below_drewN | apply below_drew1) | exact HB.out)))); have n3_ := Aside0.mk (below_step (by repeat (first | (with_reducible first | exact HB.out | apply below_alloc | apply pw_below_drewN | apply below_drew1) | exact HB.out)) hb); clear HO479; clear HO482; clear HB; have HO479 := n0_; have HO482 := n1_; have HO488 := n2_; have HB := n3_; clear n0_ n1_ n2_ n3_; (try clear hb); (try clear hb2); (try clear hk); (try clear hi); (try clear ho0)))
  (try simp only [Act.put, List.setIfInBounds_toArray, List.set_cons_zero, List.set_cons_succ])
  go_cut [53] (fun v53 wc => ∃ (kq : Nat) (x53_6 : Bool), v53 = .bool x53_6 ∧ Aside0 (wogglelaw07_BeaconBound.j0 kq t476 t480 t483 t485 x53_6 = some r) ∧ Aside0 (kq ≤ k) ∧ Aside0 (Kd.R (Kd.int .i64) 3 wc w.heap.size (fun _ => True) (.slice Ao11 t480.length co11) t480) ∧ Aside0 (Kd.S (Kd.slice 3 (Kd.int .i64)) 28 wc w.heap.size (fun k_ => some k_ ≠ ((.slice Ao11 t480.length co11) : Value).ownBlock) v487 t485) ∧ Aside0 (Below w.heap.size w wc))
  case first =>
    have H := HC7.out
    clear HC7
    by_cases c14 : t484 = 0
    · rw [if_pos c14] at H
      have c14b0 : (t484 == 0) = true := beq_iff_eq.mpr c14
      have c14b1 : (t484 != 0) = false := bne_eq_false_iff_eq.mpr c14
      clear c14
      (first | rw [c14b0] | (simp only [i64_w, i32_w]; rw [c14b0]) | skip)
      by_cases c15 : t486 = 0
      · rw [if_pos c15] at H
        have c15b0 : (t486 == 0) = true := beq_iff_eq.mpr c15
        have c15b1 : (t486 != 0) = false := bne_eq_false_iff_eq.mpr c15
        clear c15
        by_cases c16 : (t485.length : Int) = t476
        · rw [if_pos c16] at H
          have c16b0 : ((t485.length : Int) == t476) = true := beq_iff_eq.mpr c16
          have c16b1 : ((t485.length : Int) != t476) = false := bne_eq_false_iff_eq.mpr c16
          clear c16
          replace H := Option.bind_eq_some_iff.mp H
          obtain ⟨t489, A170, H⟩ := H
          replace H : (wogglelaw07_BeaconBound.j0 k t476 t480 t483 t485 (!t489)) = some r := H
          have A17 := Aside0.mk A170
          clear A170
          have H' := Aside0.mk H
          clear H
          obtain ⟨Ao18, co18, eo18⟩ := Kd.S_slice HO488.out
          subst eo18
          go_wp2_with (first | (go_at_call 16; (with_reducible refine (wogglelaw07_lives.calls k  t489 _ ?sideD A17.out).mono ?_); (case sideD => repeat (first | exact (Door.below HDOOR.out HB.out) | exact HDOOR.out | (with_reducible refine Door.alloc ?_ _) | (with_reducible refine Door.drewN ?_ _) | (with_reducible refine Door.drew ?_))); rintro e w19 ⟨rfl, hb⟩; have n0_ := Aside0.mk (Kd.R_below (by (with_reducible repeat (first | apply Kd.R_alloc | apply Kd.R_drewN | apply Kd.R_drew)); exact HO479.out) hb); have n1_ := Aside0.mk (Kd.R_below (by (with_reducible repeat (first | apply Kd.R_alloc | apply Kd.R_drewN | apply Kd.R_drew)); exact HO482.out) hb); have n2_ := Aside0.mk (Kd.S_below (by (with_reducible repeat (first | apply Kd.S_alloc | apply Kd.S_drewN | apply Kd.S_drew)); exact HO488.out) hb); have n3_ := Aside0.mk (below_step (by repeat (first | (with_reducible first | exact HB.out | apply below_alloc | apply pw_below_drewN | apply below_drew1) | exact HB.out)) hb); clear HO479; clear HO482; clear HO488; clear HB; have HO479 := n0_; have HO482 := n1_; have HO488 := n2_; have HB := n3_; clear n0_ n1_ n2_ n3_; (try clear hb); (try clear hb2); (try clear hk); (try clear hi)))
          go_meet
          case rel => exact ⟨_, (!t489), (by first | rfl | (simp; done) | (simp [*]; done)), H', ⟨by first | omega | exact Nat.le_refl _⟩, ⟨by (with_reducible repeat (first | apply Kd.R_alloc | apply Kd.R_drewN | apply Kd.R_drew)); exact HO482.out⟩, ⟨by (with_reducible repeat (first | apply Kd.S_alloc | apply Kd.S_drewN | apply Kd.S_drew)); exact Kd.S_mono HO488.out (fun _ hk => hk.2)⟩, ⟨by repeat (first | (with_reducible first | exact HB.out | apply below_alloc | apply pw_below_drewN | apply below_drew1) | exact HB.out)⟩⟩
        · rw [if_neg c16] at H
          have c16b0 : ((t485.length : Int) == t476) = false := beq_eq_false_iff_ne.mpr c16
          have c16b1 : ((t485.length : Int) != t476) = true := bne_iff_ne.mpr c16
          have H' := Aside0.mk H
          clear H
          obtain ⟨Ao20, co20, eo20⟩ := Kd.S_slice HO488.out
          subst eo20
          go_wp2
          go_meet
          case rel => exact ⟨_, (true), (by first | rfl | (simp; done) | (simp [*]; done)), H', ⟨by first | omega | exact Nat.le_refl _⟩, ⟨by (with_reducible repeat (first | apply Kd.R_alloc | apply Kd.R_drewN | apply Kd.R_drew)); exact HO482.out⟩, ⟨by (with_reducible repeat (first | apply Kd.S_alloc | apply Kd.S_drewN | apply Kd.S_drew)); exact Kd.S_mono HO488.out (fun _ hk => hk.2)⟩, ⟨by repeat (first | (with_reducible first | exact HB.out | apply below_alloc | apply pw_below_drewN | apply below_drew1) | exact HB.out)⟩⟩
      · rw [if_neg c15] at H
        have c15b0 : (t486 == 0) = false := beq_eq_false_iff_ne.mpr c15
        have c15b1 : (t486 != 0) = true := bne_iff_ne.mpr c15
        have H' := Aside0.mk H
        clear H
        go_wp2
        go_meet
        case rel => exact ⟨_, (true), (by first | rfl | (simp; done) | (simp [*]; done)), H', ⟨by first | omega | exact Nat.le_refl _⟩, ⟨by (with_reducible repeat (first | apply Kd.R_alloc | apply Kd.R_drewN | apply Kd.R_drew)); exact HO482.out⟩, ⟨by (with_reducible repeat (first | apply Kd.S_alloc | apply Kd.S_drewN | apply Kd.S_drew)); exact Kd.S_mono HO488.out (fun _ hk => hk.2)⟩, ⟨by repeat (first | (with_reducible first | exact HB.out | apply below_alloc | apply pw_below_drewN | apply below_drew1) | exact HB.out)⟩⟩
    · rw [if_neg c14] at H
      have c14b0 : (t484 == 0) = false := beq_eq_false_iff_ne.mpr c14
      have c14b1 : (t484 != 0) = true := bne_iff_ne.mpr c14
      (first | rw [c14b0] | (simp only [i64_w, i32_w]; rw [c14b0]) | skip)
      have H' := Aside0.mk H
      clear H
      go_wp2
      go_meet
      case rel => exact ⟨_, (true), (by first | rfl | (simp; done) | (simp [*]; done)), H', ⟨by first | omega | exact Nat.le_refl _⟩, ⟨by (with_reducible repeat (first | apply Kd.R_alloc | apply Kd.R_drewN | apply Kd.R_drew)); exact HO482.out⟩, ⟨by (with_reducible repeat (first | apply Kd.S_alloc | apply Kd.S_drewN | apply Kd.S_drew)); exact Kd.S_mono HO488.out (fun _ hk => hk.2)⟩, ⟨by repeat (first | (with_reducible first | exact HB.out | apply below_alloc | apply pw_below_drewN | apply below_drew1) | exact HB.out)⟩⟩
  case rest =>
    clear HC7
    try clear c1
    try clear c2
    try clear p2
    try clear c3
    try clear c9
    try clear c14
    try clear c14b0
    try clear c14b1
    try clear c15
    try clear c15b0
    try clear c15b1
    try clear c16
    try clear c16b0
    try clear c16b1
    obtain ⟨kq, x53_6, rfl, HA, HJ6, HO_7, HO_10, HB⟩ := hcut
    cases kq with
    | zero => exact absurd HA.out (by simp [wogglelaw07_BeaconBound.j0])
    | succ kj6 =>
      have H := HA.out
      clear HA
      simp only [wogglelaw07_BeaconBound.j0] at H
      by_cases c21 : x53_6 = true
      · subst c21
        have H1 : (some false) = some r := by rw [if_pos rfl] at H; exact H
        clear H
        have H := H1
        clear H1
        obtain rfl := Option.some.inj H
        go_wp2
        go_ret
        exact ⟨by first | rfl | (simp [errW_none, errW_some] <;> rfl) | (simp [*, errW_none, errW_some] <;> rfl), by repeat (first | (with_reducible first | exact HB.out | apply below_alloc | apply pw_below_drewN | apply below_drew1) | exact HB.out)⟩
      · replace c21 := Bool.eq_false_iff.mpr c21
        subst c21
        have H1 : (wogglelaw07_BeaconBound.l0 kj6 t476 t480 t483 t485 0 1 0) = some r := by rw [if_neg (show ¬ (false = true) by decide)] at H; exact H
        clear H
        have H := H1
        clear H1
        have H' := Aside0.mk H
        clear H
        go_wp2
        go_loopg [12, 14] kj6 (fun kq v12 v14 w' => ∃ (x12_2 : Int) (x14_2 : Int), v12 = .int .i64 x12_2 ∧ v14 = .int .i64 x14_2 ∧ Aside0 (wogglelaw07_BeaconBound.l0 kq t476 t480 t483 t485 x12_2 1 x14_2 = some r) ∧ Aside0 (kq ≤ kj6) ∧ Aside0 (Kd.R (Kd.int .i64) 3 w' w.heap.size (fun _ => True) (.slice Ao11 t480.length co11) t480) ∧ Aside0 (Kd.S (Kd.slice 3 (Kd.int .i64)) 28 w' w.heap.size (fun k_ => some k_ ≠ ((.slice Ao11 t480.length co11) : Value).ownBlock) v487 t485) ∧ Aside0 (Below w.heap.size w w'))
        case atStart => exact ⟨(0), (0), (by first | rfl | (simp; done) | (simp [*]; done)), (by first | rfl | (simp; done) | (simp [*]; done)), H', ⟨Nat.le_refl _⟩, ⟨by (with_reducible repeat (first | apply Kd.R_alloc | apply Kd.R_drewN | apply Kd.R_drew)); exact HO_7.out⟩, ⟨by (with_reducible repeat (first | apply Kd.S_alloc | apply Kd.S_drewN | apply Kd.S_drew)); exact HO_10.out⟩, ⟨by repeat (first | (with_reducible first | exact HB.out | apply below_alloc | apply pw_below_drewN | apply below_drew1) | exact HB.out)⟩⟩
        case round =>
          clear H'
          try clear c1
          try clear c2
          try clear p2
          try clear c3
          try clear c9
          try clear c14
          try clear c14b0
          try clear c14b1
          try clear c15
          try clear c15b0
          try clear c15b1
          try clear c16
          try clear c16b0
          try clear c16b1
          try clear c21
          try clear p2
          obtain ⟨x12_2, x14_2, rfl, rfl, HA, HK2, HO_7, HO_10, HB⟩ := hrel
          cases gk with
          | zero => exact absurd HA.out (by simp [wogglelaw07_BeaconBound.l0])
          | succ k2 =>
            have H := HA.out
            clear HA
            simp only [wogglelaw07_BeaconBound.l0] at H
            by_cases c22 : x14_2 < t476
            · rw [if_pos c22] at H
              have c22b0 : decide (x14_2 < t476) = true := decide_eq_true c22
              clear c22
              have H' := Aside0.mk H
              clear H
              go_wp2
              go_loopg [12, 15] k2 (fun kq v12 v15 w' => ∃ (x12_3 : Int) (x15_3 : Int), v12 = .int .i64 x12_3 ∧ v15 = .int .i64 x15_3 ∧ Aside0 (wogglelaw07_BeaconBound.l1 kq t476 t480 t483 t485 x12_3 1 x14_2 x15_3 = some r) ∧ Aside0 (kq ≤ k2) ∧ Aside0 (Kd.R (Kd.int .i64) 3 w' w.heap.size (fun _ => True) (.slice Ao11 t480.length co11) t480) ∧ Aside0 (Kd.S (Kd.slice 3 (Kd.int .i64)) 28 w' w.heap.size (fun k_ => some k_ ≠ ((.slice Ao11 t480.length co11) : Value).ownBlock) v487 t485) ∧ Aside0 (Below w.heap.size w w'))
              case atStart => exact ⟨(x12_2), (0), (by first | rfl | (simp; done) | (simp [*]; done)), (by first | rfl | (simp; done) | (simp [*]; done)), H', ⟨Nat.le_refl _⟩, ⟨by (with_reducible repeat (first | apply Kd.R_alloc | apply Kd.R_drewN | apply Kd.R_drew)); exact HO_7.out⟩, ⟨by (with_reducible repeat (first | apply Kd.S_alloc | apply Kd.S_drewN | apply Kd.S_drew)); exact HO_10.out⟩, ⟨by repeat (first | (with_reducible first | exact HB.out | apply below_alloc | apply pw_below_drewN | apply below_drew1) | exact HB.out)⟩⟩
              case round =>
                clear H'
                try clear c1
                try clear c2
                try clear p2
                try clear c3
                try clear c9
                try clear c14
                try clear c14b0
                try clear c14b1
                try clear c15
                try clear c15b0
                try clear c15b1
                try clear c16
                try clear c16b0
                try clear c16b1
                try clear c21
                try clear c22
                try clear c22b0
                try clear p2
                obtain ⟨x12_3, x15_3, rfl, rfl, HA, HK3, HO_7, HO_10, HB⟩ := hrel
                cases gk with
                | zero => exact absurd HA.out (by simp [wogglelaw07_BeaconBound.l1])
                | succ k3 =>
                  have H := HA.out
                  clear HA
                  simp only [wogglelaw07_BeaconBound.l1] at H
                  by_cases c23 : 0 ≤ x14_2
                  · rw [if_pos c23] at H
                    have c23b0 : decide (0 ≤ x14_2) = true := decide_eq_true c23
                    clear c23
                    by_cases c24 : x14_2 < (t485.length : Int)
                    · rw [if_pos c24] at H
                      have c24b0 : decide (x14_2 < (t485.length : Int)) = true := decide_eq_true c24
                      clear c24
                      by_cases c25 : x15_3 < ((rd_L5 t485 x14_2).length : Int)
                      · rw [if_pos c25] at H
                        have c25b0 : decide (x15_3 < ((rd_L5 t485 x14_2).length : Int)) = true := decide_eq_true c25
                        clear c25
                        by_cases c26 : 0 ≤ x15_3
                        · rw [if_pos c26] at H
                          have c26b0 : decide (0 ≤ x15_3) = true := decide_eq_true c26
                          clear c26
                          obtain ⟨ji27, hji27⟩ : ∃ j_ : Int, (mx x12_3 (rd (rd_L5 t485 x14_2) x15_3)) = j_ := ⟨_, rfl⟩
                          replace H : (wogglelaw07_BeaconBound.l1 k3 t476 t480 t483 t485 ji27 1 x14_2 (wrap64 (x15_3 + 1))) = some r := by first | (rw [hji27] at H; exact H) | (simp only [hji27] at H ⊢; exact H)
                          have hji27_ : (if x12_3 < (rd (rd_L5 t485 x14_2) x15_3) then (rd (rd_L5 t485 x14_2) x15_3) else x12_3) = ji27 := hji27
                          have H' := Aside0.mk H
                          clear H
                          obtain ⟨Ao28, co28, eo28⟩ := Kd.S_slice HO_10.out
                          subst eo28
                          have p490 : 0 ≤ (x14_2 : Int) := of_decide_eq_true (by first | (with_reducible assumption) | assumption)
                          have q490 : x14_2 < (t485.length : Int) := of_decide_eq_true (by first | (with_reducible assumption) | assumption)
                          obtain ⟨ad490, A490_0, c490_0, e490, hx490_0, hl490_0, hi490_0⟩ := at_L5 (Kd.S_reads' HO_10.out).2.2 x14_2 p490 q490
                          cases e490
                          obtain ⟨ce490, hce490, hMe490, hcc490⟩ := Kd.S_get HO_10.out [] x14_2 p490 (by first | exact q490 | exact of_decide_eq_true (by first | (with_reducible assumption) | assumption) | (have e_ := (Kd.S_reads' HO_10.out).1; omega))
                          obtain ⟨ve490_0, rfl, ge490_0⟩ := hMe490
                          have hv490_0 := hcc490 0 _ rfl
                          rw [Nat.add_zero, show ((Kd.slice 3 (Kd.int .i64))).sz = 1 from rfl, Nat.mul_one] at hv490_0
                          replace hv490_0 := Option.some.inj (hv490_0.symm.trans hx490_0)
                          rw [hv490_0] at ge490_0
                          have HL490_0 := Aside0.mk (show Kd.R (Kd.int .i64) 3 _ _ _ _ (rd_L5 t485 x14_2) from ge490_0)
                          clear hv490_0 ge490_0
                          clear hcc490 hce490
                          have HR490_0 := Aside0.mk hi490_0
                          have HC490_0 := Aside0.mk hl490_0
                          clear hi490_0 hl490_0
                          replace p490 := eq_true p490
                          replace q490 := eq_true q490
                          have p491 : 0 ≤ (x14_2 : Int) := of_decide_eq_true (by first | (with_reducible assumption) | assumption)
                          have q491 : x14_2 < (t485.length : Int) := of_decide_eq_true (by first | (with_reducible assumption) | assumption)
                          obtain ⟨ad491, A491_0, c491_0, e491, hx491_0, hl491_0, hi491_0⟩ := at_L5 (Kd.S_reads' HO_10.out).2.2 x14_2 p491 q491
                          obtain rfl : ad490 = ad491 := (by injection e491)
                          obtain ⟨ce491, hce491, hMe491, hcc491⟩ := Kd.S_get HO_10.out [] x14_2 p491 (by first | exact q491 | exact of_decide_eq_true (by first | (with_reducible assumption) | assumption) | (have e_ := (Kd.S_reads' HO_10.out).1; omega))
                          obtain ⟨ve491_0, rfl, ge491_0⟩ := hMe491
                          have hv491_0 := hcc491 0 _ rfl
                          rw [Nat.add_zero, show ((Kd.slice 3 (Kd.int .i64))).sz = 1 from rfl, Nat.mul_one] at hv491_0
                          replace hv491_0 := Option.some.inj (hv491_0.symm.trans hx491_0)
                          rw [hv491_0] at ge491_0
                          have HL491_0 := Aside0.mk (show Kd.R (Kd.int .i64) 3 _ _ _ _ (rd_L5 t485 x14_2) from ge491_0)
                          clear hv491_0 ge491_0
                          clear hcc491 hce491
                          have HR491_0 := Aside0.mk hi491_0
                          have HC491_0 := Aside0.mk hl491_0
                          clear hi491_0 hl491_0
                          replace p491 := eq_true p491
                          replace q491 := eq_true q491
                          have ea_ := Option.some.inj (hx490_0.symm.trans hx491_0)
                          injection ea_ with ea_ en_ ec_
                          subst ea_
                          subst ec_
                          clear en_
                          have p492 : 0 ≤ (x15_3 : Int) := of_decide_eq_true (by first | (with_reducible assumption) | assumption)
                          have q492 : x15_3 < ((rd_L5 t485 x14_2).length : Int) := of_decide_eq_true (by first | (with_reducible assumption) | assumption)
                          obtain ⟨ad492, e492, hx492_0⟩ := Kd.at_int (by repeat (first | (with_reducible exact HR491_0.out) | (with_reducible refine Kd.C_alloc ?_ _) | (with_reducible refine Kd.C_drewN ?_ _) | (with_reducible refine Kd.C_drew ?_) | exact HR491_0.out | exact (Kd.C_below HR491_0.out HB.out))) x15_3 p492 q492
                          cases e492
                          replace p492 := eq_true p492
                          replace q492 := eq_true q492
                          go_wp2
                          go_roundg k3
                          case measure => have := HJ6.out; have := HK2.out; have := HK3.out; omega
                          case rel => exact ⟨(ji27), (wrap64 (x15_3 + 1)), (by first | rfl | (simp; done) | (simp only [← hji27] <;> (first | rfl | simp)) | (simp [*]; done)), (by first | rfl | (simp; done) | (simp [*]; done)), H', ⟨by have := HJ6.out; have := HK2.out; have := HK3.out; omega⟩, ⟨by (with_reducible repeat (first | apply Kd.R_alloc | apply Kd.R_drewN | apply Kd.R_drew)); exact HO_7.out⟩, ⟨by (with_reducible repeat (first | apply Kd.S_alloc | apply Kd.S_drewN | apply Kd.S_drew)); exact HO_10.out⟩, ⟨by repeat (first | (with_reducible first | exact HB.out | apply below_alloc | apply pw_below_drewN | apply below_drew1) | exact HB.out)⟩⟩
                        · rw [if_neg c26] at H
                          exact absurd H (by simp)
                      · rw [if_neg c25] at H
                        have c25b0 : decide (x15_3 < ((rd_L5 t485 x14_2).length : Int)) = false := decide_eq_false c25
                        clear c25
                        have H' := Aside0.mk H
                        clear H
                        obtain ⟨Ao29, co29, eo29⟩ := Kd.S_slice HO_10.out
                        subst eo29
                        have p490 : 0 ≤ (x14_2 : Int) := of_decide_eq_true (by first | (with_reducible assumption) | assumption)
                        have q490 : x14_2 < (t485.length : Int) := of_decide_eq_true (by first | (with_reducible assumption) | assumption)
                        obtain ⟨ad490, A490_0, c490_0, e490, hx490_0, hl490_0, hi490_0⟩ := at_L5 (Kd.S_reads' HO_10.out).2.2 x14_2 p490 q490
                        cases e490
                        obtain ⟨ce490, hce490, hMe490, hcc490⟩ := Kd.S_get HO_10.out [] x14_2 p490 (by first | exact q490 | exact of_decide_eq_true (by first | (with_reducible assumption) | assumption) | (have e_ := (Kd.S_reads' HO_10.out).1; omega))
                        obtain ⟨ve490_0, rfl, ge490_0⟩ := hMe490
                        have hv490_0 := hcc490 0 _ rfl
                        rw [Nat.add_zero, show ((Kd.slice 3 (Kd.int .i64))).sz = 1 from rfl, Nat.mul_one] at hv490_0
                        replace hv490_0 := Option.some.inj (hv490_0.symm.trans hx490_0)
                        rw [hv490_0] at ge490_0
                        have HL490_0 := Aside0.mk (show Kd.R (Kd.int .i64) 3 _ _ _ _ (rd_L5 t485 x14_2) from ge490_0)
                        clear hv490_0 ge490_0
                        clear hcc490 hce490
                        have HR490_0 := Aside0.mk hi490_0
                        have HC490_0 := Aside0.mk hl490_0
                        clear hi490_0 hl490_0
                        replace p490 := eq_true p490
                        replace q490 := eq_true q490
                        go_wp2
                        go_roundg k3
                        case measure => have := HJ6.out; have := HK2.out; have := HK3.out; omega
                        case rel => exact ⟨(x12_3), (wrap64 (x14_2 + 1)), (by first | rfl | (simp; done) | (simp [*]; done)), (by first | rfl | (simp; done) | (simp [*]; done)), H', ⟨by have := HJ6.out; have := HK2.out; have := HK3.out; omega⟩, ⟨by (with_reducible repeat (first | apply Kd.R_alloc | apply Kd.R_drewN | apply Kd.R_drew)); exact HO_7.out⟩, ⟨by (with_reducible repeat (first | apply Kd.S_alloc | apply Kd.S_drewN | apply Kd.S_drew)); exact HO_10.out⟩, ⟨by repeat (first | (with_reducible first | exact HB.out | apply below_alloc | apply pw_below_drewN | apply below_drew1) | exact HB.out)⟩⟩
                    · rw [if_neg c24] at H
                      exact absurd H (by simp)
                  · rw [if_neg c23] at H
                    exact absurd H (by simp)
            · rw [if_neg c22] at H
              have c22b0 : decide (x14_2 < t476) = false := decide_eq_false c22
              clear c22
              have H' := Aside0.mk H
              clear H
              go_wp2
              go_loopg [13, 16] k2 (fun kq v13 v16 w' => ∃ (x13_3 : Int) (x16_3 : Int), v13 = .int .i64 x13_3 ∧ v16 = .int .i64 x16_3 ∧ Aside0 (wogglelaw07_BeaconBound.l2 kq t476 t480 t483 x12_2 x13_3 x16_3 = some r) ∧ Aside0 (kq ≤ k2) ∧ Aside0 (Kd.R (Kd.int .i64) 3 w' w.heap.size (fun _ => True) (.slice Ao11 t480.length co11) t480) ∧ Aside0 (Below w.heap.size w w'))
              case atStart => exact ⟨(1), (0), (by first | rfl | (simp; done) | (simp [*]; done)), (by first | rfl | (simp; done) | (simp [*]; done)), H', ⟨Nat.le_refl _⟩, ⟨by (with_reducible repeat (first | apply Kd.R_alloc | apply Kd.R_drewN | apply Kd.R_drew)); exact HO_7.out⟩, ⟨by repeat (first | (with_reducible first | exact HB.out | apply below_alloc | apply pw_below_drewN | apply below_drew1) | exact HB.out)⟩⟩
              case round =>
                clear H'
                try clear c1
                try clear c2
                try clear p2
                try clear c3
                try clear c4
                try clear p4
                try clear q4
                try clear hx4
                try clear p6
                try clear c9
                try clear c14
                try clear c14b0
                try clear c14b1
                try clear c15
                try clear c15b0
                try clear c15b1
                try clear c16
                try clear c16b0
                try clear c16b1
                try clear c21
                try clear c22
                try clear c22b0
                try clear c23
                try clear c23b0
                try clear c24
                try clear c24b0
                try clear c25
                try clear c25b0
                try clear c26
                try clear c26b0
                try clear c29
                try clear hx490_0
                try clear hx491_0
                try clear hx492_0
                try clear p2
                try clear p490
                try clear p491
                try clear p492
                try clear q490
                try clear q491
                try clear q492
                obtain ⟨x13_3, x16_3, rfl, rfl, HA, HK3, HO_7, HB⟩ := hrel
                cases gk with
                | zero => exact absurd HA.out (by simp [wogglelaw07_BeaconBound.l2])
                | succ k3 =>
                  have H := HA.out
                  clear HA
                  simp only [wogglelaw07_BeaconBound.l2] at H
                  by_cases c30 : x16_3 < (t480.length : Int)
                  · rw [if_pos c30] at H
                    have c30b0 : decide (x16_3 < (t480.length : Int)) = true := decide_eq_true c30
                    clear c30
                    obtain ⟨ji31, hji31⟩ : ∃ j_ : Int, (mn (wrap64 (x13_3 * x12_2)) 1000) = j_ := ⟨_, rfl⟩
                    replace H : (wogglelaw07_BeaconBound.l2 k3 t476 t480 t483 x12_2 ji31 (wrap64 (x16_3 + 1))) = some r := by first | (rw [hji31] at H; exact H) | (simp only [hji31] at H ⊢; exact H)
                    have hji31_ : (if 1000 < (wrap64 (x13_3 * x12_2)) then 1000 else (wrap64 (x13_3 * x12_2))) = ji31 := hji31
                    have H' := Aside0.mk H
                    clear H
                    go_wp2
                    go_roundg k3
                    case measure => have := HJ6.out; have := HK2.out; have := HK3.out; omega
                    case rel => exact ⟨(ji31), (wrap64 (x16_3 + 1)), (by first | rfl | (simp; done) | (simp only [← hji31] <;> (first | rfl | simp)) | (simp [*]; done)), (by first | rfl | (simp; done) | (simp [*]; done)), H', ⟨by have := HJ6.out; have := HK2.out; have := HK3.out; omega⟩, ⟨by (with_reducible repeat (first | apply Kd.R_alloc | apply Kd.R_drewN | apply Kd.R_drew)); exact HO_7.out⟩, ⟨by repeat (first | (with_reducible first | exact HB.out | apply below_alloc | apply pw_below_drewN | apply below_drew1) | exact HB.out)⟩⟩
                  · rw [if_neg c30] at H
                    have c30b0 : decide (x16_3 < (t480.length : Int)) = false := decide_eq_false c30
                    clear c30
                    by_cases c32 : t483 = true
                    · subst c32
                      have H1 : (some (decide (t476 ≤ (wrap64 ((t480.length : Int) + x13_3))))) = some r := by rw [if_pos rfl] at H; exact H
                      clear H
                      have H := H1
                      clear H1
                      obtain rfl := Option.some.inj H
                      go_wp2
                      go_ret
                      exact ⟨by first | rfl | (simp [errW_none, errW_some] <;> rfl) | (simp [*, errW_none, errW_some] <;> rfl), by repeat (first | (with_reducible first | exact HB.out | apply below_alloc | apply pw_below_drewN | apply below_drew1) | exact HB.out)⟩
                    · replace c32 := Bool.eq_false_iff.mpr c32
                      subst c32
                      have H1 : (some true) = some r := by rw [if_neg (show ¬ (false = true) by decide)] at H; exact H
                      clear H
                      have H := H1
                      clear H1
                      obtain rfl := Option.some.inj H
                      go_wp2
                      go_ret
                      exact ⟨by first | rfl | (simp [errW_none, errW_some] <;> rfl) | (simp [*, errW_none, errW_some] <;> rfl), by repeat (first | (with_reducible first | exact HB.out | apply below_alloc | apply pw_below_drewN | apply below_drew1) | exact HB.out)⟩

/-- THE ONE PURE STATEMENT of wogglelaw07_BeaconBound: yours. -/
def wogglelaw07_BeaconBound.Pure : Prop := ∀ (l0 : List (S77)) (a1 : Int), (l0.length ≤ maxLen ∧ ∀ x0_ ∈ l0, ((Lit.int .u8 x0_.f0).wf = true ∧ (Lit.int .u8 x0_.f1).wf = true)) → (Lit.int .u16 a1).wf = true → ∃ k, wogglelaw07_BeaconBound.f k l0 a1 = some true

end Go.Proofs.YtbeimdngghedjaaDoor.P
