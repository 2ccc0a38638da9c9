-- written by a program of this session
import Derived.Test.YtbeimdngghedjaaDoorPK
import Derived.Test.YtbeimdngghedjaaDoorPK2
import Derived.Test.YtbeimdngghedjaaDoorPF16
import Derived.Test.YtbeimdngghedjaaDoorPF16d
import Derived.Test.YtbeimdngghedjaaDoorPF23
import Derived.Test.YtbeimdngghedjaaDoorPF28
import Derived.Test.YtbeimdngghedjaaDoorPF31
import Derived.Test.YtbeimdngghedjaaDoorPF40
import Derived.Test.YtbeimdngghedjaaDoorBI
import Derived.Test.YtbeimdngghedjaaDoorBZ
namespace Go.Proofs.YtbeimdngghedjaaDoor.P
open Go.RowKit Go.Proofs.YtbeimdngghedjaaDoorW.PrintWords Go.Proofs.YtbeimdngghedjaaDoorW.PrintLast Go.Proofs.YtbeimdngghedjaaDoorW.PrintMore
attribute [local go_sem] max2_int min2_int max_two min_two max_three min_three max_four min_four   -- for this text's walks alone
set_option linter.unusedVariables false
set_option linter.unusedSimpArgs false

/-! ### wogglelaw07_BeaconLocated: function 12 -/
mutual
def wogglelaw07_BeaconLocated.j0 : Nat → Int → List (S47) → List Int → List (List Int) → Bool → Bool → Option (Bool)
  | 0, _, _, _, _, _, _ => none
  | k + 1, x5, x6, x7, x8, x10, x52 => if x52 = true then (some false) else (wogglelaw07_BeaconLocated.l0 k x5 x6 x7 x8 x10 0)
def wogglelaw07_BeaconLocated.l0 : Nat → Int → List (S47) → List Int → List (List Int) → Bool → Int → Option (Bool)
  | 0, _, _, _, _, _, _ => none
  | k + 1, x5, x6, x7, x8, x10, x12 => if x12 < x5 then (if 0 ≤ x12 then (if x12 < (x8.length : Int) then ((beacon_Locate.f k x5 x6 x7 (rd_L5 x8 x12)).bind fun bt560 => (if bt560.2 = 0 then ((woggleref01_Rising.f k x5 bt560.1).bind fun t564 => (if t564 = true then ((woggleref01_Bits.f k bt560.1).bind fun t565 => (if (Go.bits .and .i64 (shr .i64 t565 x12) 1) = 0 then (some false) else (if x10 = true then (if (bt560.1.length : Int) = 1 then (wogglelaw07_BeaconLocated.l0 k x5 x6 x7 x8 x10 (wrap64 (x12 + 1))) else (some false)) else (wogglelaw07_BeaconLocated.l0 k x5 x6 x7 x8 x10 (wrap64 (x12 + 1)))))) else (some false))) else (some false))) else (none)) else (none)) else (some true)
end
def wogglelaw07_BeaconLocated.f (k : Nat) (l0 : List (S77)) (a1 : Int) : Option (Bool) := (wogglelaw07_made.f k l0 10).bind fun bt545 => ((wogglelaw07_marks.f k bt545.1 a1).bind fun t549 => ((beacon_Codes.f k bt545.1 bt545.2 t549).bind fun bt552 => ((beacon_Resolves.f k bt545.1 bt545.2 t549).bind fun bt556 => (if bt552.2 = 0 then (if bt556.2 = 0 then (if (bt552.1.length : Int) = bt545.1 then ((wogglelaw07_lives.f k).bind fun t558 => (wogglelaw07_BeaconLocated.j0 k bt545.1 bt545.2 t549 bt552.1 bt556.1 (!t558))) else (wogglelaw07_BeaconLocated.j0 k bt545.1 bt545.2 t549 bt552.1 bt556.1 true)) else (wogglelaw07_BeaconLocated.j0 k bt545.1 bt545.2 t549 bt552.1 bt556.1 true)) else (wogglelaw07_BeaconLocated.j0 k bt545.1 bt545.2 t549 bt552.1 bt556.1 true)))))
theorem wogglelaw07_BeaconLocated.mono_l : ∀ k, (∀ y0 y1 y2 y3 y4 y5, LeO (wogglelaw07_BeaconLocated.j0 k y0 y1 y2 y3 y4 y5) (wogglelaw07_BeaconLocated.j0 (k + 1) y0 y1 y2 y3 y4 y5)) ∧ (∀ y0 y1 y2 y3 y4 y5, LeO (wogglelaw07_BeaconLocated.l0 k y0 y1 y2 y3 y4 y5) (wogglelaw07_BeaconLocated.l0 (k + 1) y0 y1 y2 y3 y4 y5))
  | 0 => ⟨fun _ _ _ _ _ _ r h => by simp [wogglelaw07_BeaconLocated.j0] at h, fun _ _ _ _ _ _ r h => by simp [wogglelaw07_BeaconLocated.l0] at h⟩
  | k + 1 => by
    obtain ⟨ih0, ih1⟩ := wogglelaw07_BeaconLocated.mono_l k
    refine ⟨?_, ?_⟩
    · intro y0 y1 y2 y3 y4 y5
      unfold wogglelaw07_BeaconLocated.j0
      repeat' first
      | (with_reducible exact ih0 _ _ _ _ _ _)
      | (with_reducible exact ih1 _ _ _ _ _ _)
      | (with_reducible exact beacon_Codes.mono _ _ _ _)
      | (with_reducible exact beacon_Locate.mono _ _ _ _ _)
      | (with_reducible exact beacon_Resolves.mono _ _ _ _)
      | (with_reducible exact wogglelaw07_lives.mono _)
      | (with_reducible exact wogglelaw07_made.mono _ _ _)
      | (with_reducible exact wogglelaw07_marks.mono _ _ _)
      | (with_reducible exact woggleref01_Bits.mono _ _)
      | (with_reducible exact woggleref01_Rising.mono _ _ _)
      | (with_reducible exact LeO.refl _)
      | (with_reducible exact LeO.none _)
      | (with_reducible refine LeO.ite ?_ ?_)
      | (with_reducible refine LeO.bind ?_ (fun _ => ?_))
      | exact ih0 _ _ _ _ _ _
      | exact ih1 _ _ _ _ _ _
      | exact beacon_Codes.mono _ _ _ _
      | exact beacon_Locate.mono _ _ _ _ _
      | exact beacon_Resolves.mono _ _ _ _
      | exact wogglelaw07_lives.mono _
      | exact wogglelaw07_made.mono _ _ _
      | exact wogglelaw07_marks.mono _ _ _
      | exact woggleref01_Bits.mono _ _
      | exact woggleref01_Rising.mono _ _ _
      | exact LeO.none _
      | refine LeO.ite ?_ ?_
      | refine LeO.bind ?_ (fun _ => ?_)
    · intro y0 y1 y2 y3 y4 y5
      unfold wogglelaw07_BeaconLocated.l0
      repeat' first
      | (with_reducible exact ih0 _ _ _ _ _ _)
      | (with_reducible exact ih1 _ _ _ _ _ _)
      | (with_reducible exact beacon_Codes.mono _ _ _ _)
      | (with_reducible exact beacon_Locate.mono _ _ _ _ _)
      | (with_reducible exact beacon_Resolves.mono _ _ _ _)
      | (with_reducible exact wogglelaw07_lives.mono _)
      | (with_reducible exact wogglelaw07_made.mono _ _ _)
      | (with_reducible exact wogglelaw07_marks.mono _ _ _)
      | (with_reducible exact woggleref01_Bits.mono _ _)
      | (with_reducible exact woggleref01_Rising.mono _ _ _)
      | (with_reducible exact LeO.refl _)
      | (with_reducible exact LeO.none _)
      | (with_reducible refine LeO.ite ?_ ?_)
      | (with_reducible refine LeO.bind ?_ (fun _ => ?_))
      | exact ih0 _ _ _ _ _ _
      | exact ih1 _ _ _ _ _ _
      | exact beacon_Codes.mono _ _ _ _
      | exact beacon_Locate.mono _ _ _ _ _
      | exact beacon_Resolves.mono _ _ _ _
      | exact wogglelaw07_lives.mono _
      | exact wogglelaw07_made.mono _ _ _
      | exact wogglelaw07_marks.mono _ _ _
      | exact woggleref01_Bits.mono _ _
      | exact woggleref01_Rising.mono _ _ _
      | exact LeO.none _
      | refine LeO.ite ?_ ?_
      | refine LeO.bind ?_ (fun _ => ?_)
theorem wogglelaw07_BeaconLocated.mono : ∀ a0 a1 k, LeO (wogglelaw07_BeaconLocated.f k a0 a1) (wogglelaw07_BeaconLocated.f (k + 1) a0 a1) := by
  intro a0 a1 k
  obtain ⟨ih0, ih1⟩ := wogglelaw07_BeaconLocated.mono_l k
  unfold wogglelaw07_BeaconLocated.f
  repeat' first
      | (with_reducible exact ih0 _ _ _ _ _ _)
      | (with_reducible exact ih1 _ _ _ _ _ _)
      | (with_reducible exact beacon_Codes.mono _ _ _ _)
      | (with_reducible exact beacon_Locate.mono _ _ _ _ _)
      | (with_reducible exact beacon_Resolves.mono _ _ _ _)
      | (with_reducible exact wogglelaw07_lives.mono _)
      | (with_reducible exact wogglelaw07_made.mono _ _ _)
      | (with_reducible exact wogglelaw07_marks.mono _ _ _)
      | (with_reducible exact woggleref01_Bits.mono _ _)
      | (with_reducible exact woggleref01_Rising.mono _ _ _)
      | (with_reducible exact LeO.refl _)
      | (with_reducible exact LeO.none _)
      | (with_reducible refine LeO.ite ?_ ?_)
      | (with_reducible refine LeO.bind ?_ (fun _ => ?_))
      | exact ih0 _ _ _ _ _ _
      | exact ih1 _ _ _ _ _ _
      | exact beacon_Codes.mono _ _ _ _
      | exact beacon_Locate.mono _ _ _ _ _
      | exact beacon_Resolves.mono _ _ _ _
      | exact wogglelaw07_lives.mono _
      | exact wogglelaw07_made.mono _ _ _
      | exact wogglelaw07_marks.mono _ _ _
      | exact woggleref01_Bits.mono _ _
      | exact woggleref01_Rising.mono _ _ _
      | exact LeO.none _
      | refine LeO.ite ?_ ?_
      | refine LeO.bind ?_ (fun _ => ?_)
set_option maxHeartbeats 8000000 in
set_option maxRecDepth 100000 in
theorem wogglelaw07_BeaconLocated.calls (k : Nat) (A0 : Option Addr) (c0 : Nat) (l0 : List (S77)) (a1 : Int) (r : Bool) (w : World) (hr0 : Kd.C k77 w A0 l0.length l0) (hc0 : l0.length ≤ c0) (hdoor : Door w) (h : wogglelaw07_BeaconLocated.f k l0 a1 = some r) :
    Calls Tryd.prog 12 #[.slice A0 l0.length c0, .int .u16 a1] w fun e w' => e = .returned (.bool r) ∧ Below w.heap.size w w' := by
  have HDOOR := Aside0.mk hdoor
  clear hdoor
  have HR0 := Aside0.mk hr0
  have HC0 := Aside0.mk hc0
  clear hr0 hc0
  have HB := Aside0.mk (Below.refl w.heap.size w)
  have H : ((wogglelaw07_made.f k l0 10).bind fun bt545 => ((wogglelaw07_marks.f k bt545.1 a1).bind fun t549 => ((beacon_Codes.f k bt545.1 bt545.2 t549).bind fun bt552 => ((beacon_Resolves.f k bt545.1 bt545.2 t549).bind fun bt556 => (if bt552.2 = 0 then (if bt556.2 = 0 then (if (bt552.1.length : Int) = bt545.1 then ((wogglelaw07_lives.f k).bind fun t558 => (wogglelaw07_BeaconLocated.j0 k bt545.1 bt545.2 t549 bt552.1 bt556.1 (!t558))) else (wogglelaw07_BeaconLocated.j0 k bt545.1 bt545.2 t549 bt552.1 bt556.1 true)) else (wogglelaw07_BeaconLocated.j0 k bt545.1 bt545.2 t549 bt552.1 bt556.1 true)) else (wogglelaw07_BeaconLocated.j0 k bt545.1 bt545.2 t549 bt552.1 bt556.1 true)))))) = some r := h
  clear h
  replace H := Option.bind_eq_some_iff.mp H
  obtain ⟨⟨t545, t546⟩, A30, H⟩ := H
  replace H : ((wogglelaw07_marks.f k t545 a1).bind fun t549 => ((beacon_Codes.f k t545 t546 t549).bind fun bt552 => ((beacon_Resolves.f k t545 t546 t549).bind fun bt556 => (if bt552.2 = 0 then (if bt556.2 = 0 then (if (bt552.1.length : Int) = t545 then ((wogglelaw07_lives.f k).bind fun t558 => (wogglelaw07_BeaconLocated.j0 k t545 t546 t549 bt552.1 bt556.1 (!t558))) else (wogglelaw07_BeaconLocated.j0 k t545 t546 t549 bt552.1 bt556.1 true)) else (wogglelaw07_BeaconLocated.j0 k t545 t546 t549 bt552.1 bt556.1 true)) else (wogglelaw07_BeaconLocated.j0 k t545 t546 t549 bt552.1 bt556.1 true))))) = some r := H
  have A3 := Aside0.mk A30
  clear A30
  replace H := Option.bind_eq_some_iff.mp H
  obtain ⟨t549, A40, H⟩ := H
  replace H : ((beacon_Codes.f k t545 t546 t549).bind fun bt552 => ((beacon_Resolves.f k t545 t546 t549).bind fun bt556 => (if bt552.2 = 0 then (if bt556.2 = 0 then (if (bt552.1.length : Int) = t545 then ((wogglelaw07_lives.f k).bind fun t558 => (wogglelaw07_BeaconLocated.j0 k t545 t546 t549 bt552.1 bt556.1 (!t558))) else (wogglelaw07_BeaconLocated.j0 k t545 t546 t549 bt552.1 bt556.1 true)) else (wogglelaw07_BeaconLocated.j0 k t545 t546 t549 bt552.1 bt556.1 true)) else (wogglelaw07_BeaconLocated.j0 k t545 t546 t549 bt552.1 bt556.1 true)))) = some r := H
  have A4 := Aside0.mk A40
  clear A40
  replace H := Option.bind_eq_some_iff.mp H
  obtain ⟨⟨t552, t553⟩, A50, H⟩ := H
  replace H : ((beacon_Resolves.f k t545 t546 t549).bind fun bt556 => (if t553 = 0 then (if bt556.2 = 0 then (if (t552.length : Int) = t545 then ((wogglelaw07_lives.f k).bind fun t558 => (wogglelaw07_BeaconLocated.j0 k t545 t546 t549 t552 bt556.1 (!t558))) else (wogglelaw07_BeaconLocated.j0 k t545 t546 t549 t552 bt556.1 true)) else (wogglelaw07_BeaconLocated.j0 k t545 t546 t549 t552 bt556.1 true)) else (wogglelaw07_BeaconLocated.j0 k t545 t546 t549 t552 bt556.1 true))) = some r := H
  have A5 := Aside0.mk A50
  clear A50
  replace H := Option.bind_eq_some_iff.mp H
  obtain ⟨⟨t556, t557⟩, A60, H⟩ := H
  replace H : (if t553 = 0 then (if t557 = 0 then (if (t552.length : Int) = t545 then ((wogglelaw07_lives.f k).bind fun t558 => (wogglelaw07_BeaconLocated.j0 k t545 t546 t549 t552 t556 (!t558))) else (wogglelaw07_BeaconLocated.j0 k t545 t546 t549 t552 t556 true)) else (wogglelaw07_BeaconLocated.j0 k t545 t546 t549 t552 t556 true)) else (wogglelaw07_BeaconLocated.j0 k t545 t546 t549 t552 t556 true)) = some r := H
  have A6 := Aside0.mk A60
  clear A60
  have HC7 := Aside0.mk H
  clear H
  go_enter Tryd.func12, Tryd.ntmps12
  go_upto_region 5 with (first | ((with_reducible refine gate_callee (f := 23) rfl ?_); refine goesL_ (some 17) rfl rfl Tryd.func23 (by kernel_rfl) rfl #[.slice A0 l0.length c0, .int .i64 10] rfl (by (try simp only [List.map_toArray, List.map_cons, List.map_nil]); first | done | rfl | (simp only [List.length_drop, List.length_take]; rfl)) ?_; (with_reducible refine (wogglelaw07_made.calls k _ _ l0 10 t545 t546 _ ?side1 ?side2 A3.out).mono ?_); (case side1 => repeat (first | exact HR0.out | (with_reducible refine Kd.C_alloc ?_ _) | (with_reducible refine Kd.C_drewN ?_ _) | (with_reducible refine Kd.C_drew ?_))); (case side2 => exact HC0.out); rintro e w8 ⟨v547, rfl, ho0, hb⟩; refine ⟨_, rfl, ?_⟩; have n0_ := Aside0.mk (Kd.R_lower ho0 (below_size (by repeat (first | (with_reducible first | exact HB.out | apply below_alloc | apply pw_below_drewN | apply below_drew1) | exact HB.out)))); have n1_ := Aside0.mk (below_step (by repeat (first | (with_reducible first | exact HB.out | apply below_alloc | apply pw_below_drewN | apply below_drew1) | exact HB.out)) hb); clear HB; have HO548 := n0_; have HB := n1_; clear n0_ n1_; (try clear hb); (try clear hb2); (try clear hk); (try clear hi); (try clear ho0)) | ((with_reducible refine gate_callee (f := 31) rfl ?_); refine goesL_ (some 22) rfl rfl Tryd.func31 (by kernel_rfl) rfl #[.int .i64 t545, .int .u16 a1] rfl (by (try simp only [List.map_toArray, List.map_cons, List.map_nil]); first | done | rfl | (simp only [List.length_drop, List.length_take]; rfl)) ?_; (with_reducible refine (wogglelaw07_marks.calls k t545 a1 t549 _ A4.out).mono ?_); rintro e w9 ⟨v550, rfl, ho0, hb⟩; refine ⟨_, rfl, ?_⟩; have n0_ := Aside0.mk (Kd.R_below (by (with_reducible repeat (first | apply Kd.R_alloc | apply Kd.R_drewN | apply Kd.R_drew)); exact HO548.out) hb); have n1_ := Aside0.mk (Kd.R_lower ho0 (below_size (by repeat (first | (with_reducible first | exact HB.out | apply below_alloc | apply pw_below_drewN | apply below_drew1) | exact HB.out)))); have n2_ := Aside0.mk (below_step (by repeat (first | (with_reducible first | exact HB.out | apply below_alloc | apply pw_below_drewN | apply below_drew1) | exact HB.out)) hb); clear HO548; clear HB; have HO548 := n0_; have HO551 := n1_; have HB := n2_; clear n0_ n1_ n2_; (try clear hb); (try clear hb2); (try clear hk); (try clear hi); (try clear ho0); obtain ⟨Ao10, co10, eo10⟩ := Kd.R_slice HO548.out; subst eo10; obtain ⟨Ao11, co11, eo11⟩ := Kd.R_slice HO551.out; subst eo11) | ((with_reducible refine gate_callee (f := 36) rfl ?_); refine goesL_ (some 27) rfl rfl Tryd.func36 (by kernel_rfl) rfl #[.int .i64 t545, .slice Ao10 t546.length co10, .slice Ao11 t549.length co11] rfl (by (try simp only [List.map_toArray, List.map_cons, List.map_nil]); first | done | rfl | (simp only [List.length_drop, List.length_take]; rfl)) ?_; (with_reducible refine (beacon_Codes.calls k t545 _ _ t546 _ _ t549 t552 t553 _ ?side1 ?side2 ?side3 ?side4 A5.out).mono ?_); (case side1 => repeat (first | exact (Kd.R_reads' HO548.out).2.2 | (with_reducible refine Kd.C_alloc ?_ _) | (with_reducible refine Kd.C_drewN ?_ _) | (with_reducible refine Kd.C_drew ?_))); (case side2 => exact (Kd.R_reads' HO548.out).2.1); (case side3 => repeat (first | exact (Kd.R_reads' HO551.out).2.2 | (with_reducible refine Kd.C_alloc ?_ _) | (with_reducible refine Kd.C_drewN ?_ _) | (with_reducible refine Kd.C_drew ?_))); (case side4 => exact (Kd.R_reads' HO551.out).2.1); rintro e w12 ⟨v554, rfl, ho0, hb⟩; refine ⟨_, rfl, ?_⟩; have n0_ := Aside0.mk (Kd.R_below (by (with_reducible repeat (first | apply Kd.R_alloc | apply Kd.R_drewN | apply Kd.R_drew)); exact HO548.out) hb); have n1_ := Aside0.mk (Kd.R_below (by (with_reducible repeat (first | apply Kd.R_alloc | apply Kd.R_drewN | apply Kd.R_drew)); exact HO551.out) hb); have n2_ := Aside0.mk (Kd.S_lower (Kd.S_new' ho0 (Kd.R_lt (by (with_reducible repeat (first | apply Kd.R_alloc | apply Kd.R_drewN | apply Kd.R_drew)); exact HO551.out))) (below_size (by repeat (first | (with_reducible first | exact HB.out | apply below_alloc | apply pw_below_drewN | apply below_drew1) | exact HB.out)))); have n3_ := Aside0.mk (below_step (by repeat (first | (with_reducible first | exact HB.out | apply below_alloc | apply pw_below_drewN | apply below_drew1) | exact HB.out)) hb); clear HO548; clear HO551; clear HB; have HO548 := n0_; have HO551 := n1_; have HO555 := n2_; have HB := n3_; clear n0_ n1_ n2_ n3_; (try clear hb); (try clear hb2); (try clear hk); (try clear hi); (try clear ho0)) | ((with_reducible refine gate_callee (f := 29) rfl ?_); refine goesL_ (some 34) rfl rfl Tryd.func29 (by kernel_rfl) rfl #[.int .i64 t545, .slice Ao10 t546.length co10, .slice Ao11 t549.length co11] rfl (by (try simp only [List.map_toArray, List.map_cons, List.map_nil]); first | done | rfl | (simp only [List.length_drop, List.length_take]; rfl)) ?_; (with_reducible refine (beacon_Resolves.calls k t545 _ _ t546 _ _ t549 t556 t557 _ ?side1 ?side2 ?side3 ?side4 ?sideD A6.out).mono ?_); (case sideD => repeat (first | exact (Door.below HDOOR.out HB.out) | exact HDOOR.out | (with_reducible refine Door.alloc ?_ _) | (with_reducible refine Door.drewN ?_ _) | (with_reducible refine Door.drew ?_))); (case side1 => repeat (first | exact (Kd.R_reads' HO548.out).2.2 | (with_reducible refine Kd.C_alloc ?_ _) | (with_reducible refine Kd.C_drewN ?_ _) | (with_reducible refine Kd.C_drew ?_))); (case side2 => exact (Kd.R_reads' HO548.out).2.1); (case side3 => repeat (first | exact (Kd.R_reads' HO551.out).2.2 | (with_reducible refine Kd.C_alloc ?_ _) | (with_reducible refine Kd.C_drewN ?_ _) | (with_reducible refine Kd.C_drew ?_))); (case side4 => exact (Kd.R_reads' HO551.out).2.1); rintro e w13 ⟨rfl, hb⟩; refine ⟨_, rfl, ?_⟩; have n0_ := Aside0.mk (Kd.R_below (by (with_reducible repeat (first | apply Kd.R_alloc | apply Kd.R_drewN | apply Kd.R_drew)); exact HO548.out) hb); have n1_ := Aside0.mk (Kd.R_below (by (with_reducible repeat (first | apply Kd.R_alloc | apply Kd.R_drewN | apply Kd.R_drew)); exact HO551.out) hb); have n2_ := Aside0.mk (Kd.S_below (by (with_reducible repeat (first | apply Kd.S_alloc | apply Kd.S_drewN | apply Kd.S_drew)); exact HO555.out) hb); have n3_ := Aside0.mk (below_step (by repeat (first | (with_reducible first | exact HB.out | apply below_alloc | apply pw_below_drewN | apply below_drew1) | exact HB.out)) hb); clear HO548; clear HO551; clear HO555; clear HB; have HO548 := n0_; have HO551 := n1_; have HO555 := n2_; have HB := n3_; clear n0_ n1_ n2_ n3_; (try clear hb); (try clear hb2); (try clear hk); (try clear hi)))
  (try simp only [Act.put, List.setIfInBounds_toArray, List.set_cons_zero, List.set_cons_succ])
  go_cut [52] (fun v52 wc => ∃ (kq : Nat) (x52_6 : Bool), v52 = .bool x52_6 ∧ Aside0 (wogglelaw07_BeaconLocated.j0 kq t545 t546 t549 t552 t556 x52_6 = some r) ∧ Aside0 (kq ≤ k) ∧ Aside0 (Kd.R k47 47 wc w.heap.size (fun _ => True) (.slice Ao10 t546.length co10) t546) ∧ Aside0 (Kd.R (Kd.int .i64) 3 wc w.heap.size (fun _ => True) (.slice Ao11 t549.length co11) t549) ∧ Aside0 (Kd.S (Kd.slice 3 (Kd.int .i64)) 28 wc w.heap.size (fun k_ => some k_ ≠ ((.slice Ao11 t549.length co11) : Value).ownBlock) v554 t552) ∧ Aside0 (Below w.heap.size w wc))
  case first =>
    have H := HC7.out
    clear HC7
    by_cases c14 : t553 = 0
    · rw [if_pos c14] at H
      have c14b0 : (t553 == 0) = true := beq_iff_eq.mpr c14
      have c14b1 : (t553 != 0) = false := bne_eq_false_iff_eq.mpr c14
      clear c14
      (first | rw [c14b0] | (simp only [i64_w, i32_w]; rw [c14b0]) | skip)
      by_cases c15 : t557 = 0
      · rw [if_pos c15] at H
        have c15b0 : (t557 == 0) = true := beq_iff_eq.mpr c15
        have c15b1 : (t557 != 0) = false := bne_eq_false_iff_eq.mpr c15
        clear c15
        by_cases c16 : (t552.length : Int) = t545
        · rw [if_pos c16] at H
          have c16b0 : ((t552.length : Int) == t545) = true := beq_iff_eq.mpr c16
          have c16b1 : ((t552.length : Int) != t545) = false := bne_eq_false_iff_eq.mpr c16
          clear c16
          replace H := Option.bind_eq_some_iff.mp H
          obtain ⟨t558, A170, H⟩ := H
          replace H : (wogglelaw07_BeaconLocated.j0 k t545 t546 t549 t552 t556 (!t558)) = some r := H
          have A17 := Aside0.mk A170
          clear A170
          have H' := Aside0.mk H
          clear H
          obtain ⟨Ao18, co18, eo18⟩ := Kd.S_slice HO555.out
          subst eo18
          go_wp2_with (first | (go_at_call 16; (with_reducible refine (wogglelaw07_lives.calls k  t558 _ ?sideD A17.out).mono ?_); (case sideD => repeat (first | exact (Door.below HDOOR.out HB.out) | exact HDOOR.out | (with_reducible refine Door.alloc ?_ _) | (with_reducible refine Door.drewN ?_ _) | (with_reducible refine Door.drew ?_))); rintro e w19 ⟨rfl, hb⟩; have n0_ := Aside0.mk (Kd.R_below (by (with_reducible repeat (first | apply Kd.R_alloc | apply Kd.R_drewN | apply Kd.R_drew)); exact HO548.out) hb); have n1_ := Aside0.mk (Kd.R_below (by (with_reducible repeat (first | apply Kd.R_alloc | apply Kd.R_drewN | apply Kd.R_drew)); exact HO551.out) hb); have n2_ := Aside0.mk (Kd.S_below (by (with_reducible repeat (first | apply Kd.S_alloc | apply Kd.S_drewN | apply Kd.S_drew)); exact HO555.out) hb); have n3_ := Aside0.mk (below_step (by repeat (first | (with_reducible first | exact HB.out | apply below_alloc | apply pw_below_drewN | apply below_drew1) | exact HB.out)) hb); clear HO548; clear HO551; clear HO555; clear HB; have HO548 := n0_; have HO551 := n1_; have HO555 := n2_; have HB := n3_; clear n0_ n1_ n2_ n3_; (try clear hb); (try clear hb2); (try clear hk); (try clear hi)))
          go_meet
          case rel => exact ⟨_, (!t558), (by first | rfl | (simp; done) | (simp [*]; done)), H', ⟨by first | omega | exact Nat.le_refl _⟩, ⟨by (with_reducible repeat (first | apply Kd.R_alloc | apply Kd.R_drewN | apply Kd.R_drew)); exact HO548.out⟩, ⟨by (with_reducible repeat (first | apply Kd.R_alloc | apply Kd.R_drewN | apply Kd.R_drew)); exact HO551.out⟩, ⟨by (with_reducible repeat (first | apply Kd.S_alloc | apply Kd.S_drewN | apply Kd.S_drew)); exact Kd.S_mono HO555.out (fun _ hk => hk.2)⟩, ⟨by repeat (first | (with_reducible first | exact HB.out | apply below_alloc | apply pw_below_drewN | apply below_drew1) | exact HB.out)⟩⟩
        · rw [if_neg c16] at H
          have c16b0 : ((t552.length : Int) == t545) = false := beq_eq_false_iff_ne.mpr c16
          have c16b1 : ((t552.length : Int) != t545) = true := bne_iff_ne.mpr c16
          have H' := Aside0.mk H
          clear H
          obtain ⟨Ao20, co20, eo20⟩ := Kd.S_slice HO555.out
          subst eo20
          go_wp2
          go_meet
          case rel => exact ⟨_, (true), (by first | rfl | (simp; done) | (simp [*]; done)), H', ⟨by first | omega | exact Nat.le_refl _⟩, ⟨by (with_reducible repeat (first | apply Kd.R_alloc | apply Kd.R_drewN | apply Kd.R_drew)); exact HO548.out⟩, ⟨by (with_reducible repeat (first | apply Kd.R_alloc | apply Kd.R_drewN | apply Kd.R_drew)); exact HO551.out⟩, ⟨by (with_reducible repeat (first | apply Kd.S_alloc | apply Kd.S_drewN | apply Kd.S_drew)); exact Kd.S_mono HO555.out (fun _ hk => hk.2)⟩, ⟨by repeat (first | (with_reducible first | exact HB.out | apply below_alloc | apply pw_below_drewN | apply below_drew1) | exact HB.out)⟩⟩
      · rw [if_neg c15] at H
        have c15b0 : (t557 == 0) = false := beq_eq_false_iff_ne.mpr c15
        have c15b1 : (t557 != 0) = true := bne_iff_ne.mpr c15
        have H' := Aside0.mk H
        clear H
        go_wp2
        go_meet
        case rel => exact ⟨_, (true), (by first | rfl | (simp; done) | (simp [*]; done)), H', ⟨by first | omega | exact Nat.le_refl _⟩, ⟨by (with_reducible repeat (first | apply Kd.R_alloc | apply Kd.R_drewN | apply Kd.R_drew)); exact HO548.out⟩, ⟨by (with_reducible repeat (first | apply Kd.R_alloc | apply Kd.R_drewN | apply Kd.R_drew)); exact HO551.out⟩, ⟨by (with_reducible repeat (first | apply Kd.S_alloc | apply Kd.S_drewN | apply Kd.S_drew)); exact Kd.S_mono HO555.out (fun _ hk => hk.2)⟩, ⟨by repeat (first | (with_reducible first | exact HB.out | apply below_alloc | apply pw_below_drewN | apply below_drew1) | exact HB.out)⟩⟩
    · rw [if_neg c14] at H
      have c14b0 : (t553 == 0) = false := beq_eq_false_iff_ne.mpr c14
      have c14b1 : (t553 != 0) = true := bne_iff_ne.mpr c14
      (first | rw [c14b0] | (simp only [i64_w, i32_w]; rw [c14b0]) | skip)
      have H' := Aside0.mk H
      clear H
      go_wp2
      go_meet
      case rel => exact ⟨_, (true), (by first | rfl | (simp; done) | (simp [*]; done)), H', ⟨by first | omega | exact Nat.le_refl _⟩, ⟨by (with_reducible repeat (first | apply Kd.R_alloc | apply Kd.R_drewN | apply Kd.R_drew)); exact HO548.out⟩, ⟨by (with_reducible repeat (first | apply Kd.R_alloc | apply Kd.R_drewN | apply Kd.R_drew)); exact HO551.out⟩, ⟨by (with_reducible repeat (first | apply Kd.S_alloc | apply Kd.S_drewN | apply Kd.S_drew)); exact Kd.S_mono HO555.out (fun _ hk => hk.2)⟩, ⟨by repeat (first | (with_reducible first | exact HB.out | apply below_alloc | apply pw_below_drewN | apply below_drew1) | exact HB.out)⟩⟩
  case rest =>
    clear HC7
    try clear c1
    try clear c2
    try clear p2
    try clear c3
    try clear c12
    try clear c14
    try clear c14b0
    try clear c14b1
    try clear c15
    try clear c15b0
    try clear c15b1
    try clear c16
    try clear c16b0
    try clear c16b1
    obtain ⟨kq, x52_6, rfl, HA, HJ6, HO_6, HO_7, HO_8, HB⟩ := hcut
    cases kq with
    | zero => exact absurd HA.out (by simp [wogglelaw07_BeaconLocated.j0])
    | succ kj6 =>
      have H := HA.out
      clear HA
      simp only [wogglelaw07_BeaconLocated.j0] at H
      by_cases c21 : x52_6 = true
      · subst c21
        have H1 : (some false) = some r := by rw [if_pos rfl] at H; exact H
        clear H
        have H := H1
        clear H1
        obtain rfl := Option.some.inj H
        go_wp2
        go_ret
        exact ⟨by first | rfl | (simp [errW_none, errW_some] <;> rfl) | (simp [*, errW_none, errW_some] <;> rfl), by repeat (first | (with_reducible first | exact HB.out | apply below_alloc | apply pw_below_drewN | apply below_drew1) | exact HB.out)⟩
      · replace c21 := Bool.eq_false_iff.mpr c21
        subst c21
        have H1 : (wogglelaw07_BeaconLocated.l0 kj6 t545 t546 t549 t552 t556 0) = some r := by rw [if_neg (show ¬ (false = true) by decide)] at H; exact H
        clear H
        have H := H1
        clear H1
        have H' := Aside0.mk H
        clear H
        go_wp2
        go_loopg [12] kj6 (fun kq v12 w' => ∃ (x12_2 : Int), v12 = .int .i64 x12_2 ∧ Aside0 (wogglelaw07_BeaconLocated.l0 kq t545 t546 t549 t552 t556 x12_2 = some r) ∧ Aside0 (kq ≤ kj6) ∧ Aside0 (Kd.R k47 47 w' w.heap.size (fun _ => True) (.slice Ao10 t546.length co10) t546) ∧ Aside0 (Kd.R (Kd.int .i64) 3 w' w.heap.size (fun _ => True) (.slice Ao11 t549.length co11) t549) ∧ Aside0 (Kd.S (Kd.slice 3 (Kd.int .i64)) 28 w' w.heap.size (fun k_ => some k_ ≠ ((.slice Ao11 t549.length co11) : Value).ownBlock) v554 t552) ∧ Aside0 (Below w.heap.size w w'))
        case atStart => exact ⟨(0), (by first | rfl | (simp; done) | (simp [*]; done)), H', ⟨Nat.le_refl _⟩, ⟨by (with_reducible repeat (first | apply Kd.R_alloc | apply Kd.R_drewN | apply Kd.R_drew)); exact HO_6.out⟩, ⟨by (with_reducible repeat (first | apply Kd.R_alloc | apply Kd.R_drewN | apply Kd.R_drew)); exact HO_7.out⟩, ⟨by (with_reducible repeat (first | apply Kd.S_alloc | apply Kd.S_drewN | apply Kd.S_drew)); exact HO_8.out⟩, ⟨by repeat (first | (with_reducible first | exact HB.out | apply below_alloc | apply pw_below_drewN | apply below_drew1) | exact HB.out)⟩⟩
        case round =>
          clear H'
          try clear c1
          try clear c2
          try clear p2
          try clear c3
          try clear c12
          try clear c14
          try clear c14b0
          try clear c14b1
          try clear c15
          try clear c15b0
          try clear c15b1
          try clear c16
          try clear c16b0
          try clear c16b1
          try clear c21
          try clear p2
          obtain ⟨x12_2, rfl, HA, HK2, HO_6, HO_7, HO_8, HB⟩ := hrel
          cases gk with
          | zero => exact absurd HA.out (by simp [wogglelaw07_BeaconLocated.l0])
          | succ k2 =>
            have H := HA.out
            clear HA
            simp only [wogglelaw07_BeaconLocated.l0] at H
            by_cases c22 : x12_2 < t545
            · rw [if_pos c22] at H
              have c22b0 : decide (x12_2 < t545) = true := decide_eq_true c22
              clear c22
              by_cases c23 : 0 ≤ x12_2
              · rw [if_pos c23] at H
                have c23b0 : decide (0 ≤ x12_2) = true := decide_eq_true c23
                clear c23
                by_cases c24 : x12_2 < (t552.length : Int)
                · rw [if_pos c24] at H
                  have c24b0 : decide (x12_2 < (t552.length : Int)) = true := decide_eq_true c24
                  clear c24
                  replace H := Option.bind_eq_some_iff.mp H
                  obtain ⟨⟨t560, t561⟩, A250, H⟩ := H
                  replace H : (if t561 = 0 then ((woggleref01_Rising.f k2 t545 t560).bind fun t564 => (if t564 = true then ((woggleref01_Bits.f k2 t560).bind fun t565 => (if (Go.bits .and .i64 (shr .i64 t565 x12_2) 1) = 0 then (some false) else (if t556 = true then (if (t560.length : Int) = 1 then (wogglelaw07_BeaconLocated.l0 k2 t545 t546 t549 t552 t556 (wrap64 (x12_2 + 1))) else (some false)) else (wogglelaw07_BeaconLocated.l0 k2 t545 t546 t549 t552 t556 (wrap64 (x12_2 + 1)))))) else (some false))) else (some false)) = some r := H
                  have A25 := Aside0.mk A250
                  clear A250
                  by_cases c26 : t561 = 0
                  · rw [if_pos c26] at H
                    have c26b0 : (t561 == 0) = true := beq_iff_eq.mpr c26
                    have c26b1 : (t561 != 0) = false := bne_eq_false_iff_eq.mpr c26
                    clear c26
                    replace H := Option.bind_eq_some_iff.mp H
                    obtain ⟨t564, A270, H⟩ := H
                    replace H : (if t564 = true then ((woggleref01_Bits.f k2 t560).bind fun t565 => (if (Go.bits .and .i64 (shr .i64 t565 x12_2) 1) = 0 then (some false) else (if t556 = true then (if (t560.length : Int) = 1 then (wogglelaw07_BeaconLocated.l0 k2 t545 t546 t549 t552 t556 (wrap64 (x12_2 + 1))) else (some false)) else (wogglelaw07_BeaconLocated.l0 k2 t545 t546 t549 t552 t556 (wrap64 (x12_2 + 1)))))) else (some false)) = some r := H
                    have A27 := Aside0.mk A270
                    clear A270
                    by_cases c28 : t564 = true
                    · subst c28
                      have H1 : ((woggleref01_Bits.f k2 t560).bind fun t565 => (if (Go.bits .and .i64 (shr .i64 t565 x12_2) 1) = 0 then (some false) else (if t556 = true then (if (t560.length : Int) = 1 then (wogglelaw07_BeaconLocated.l0 k2 t545 t546 t549 t552 t556 (wrap64 (x12_2 + 1))) else (some false)) else (wogglelaw07_BeaconLocated.l0 k2 t545 t546 t549 t552 t556 (wrap64 (x12_2 + 1)))))) = some r := by rw [if_pos rfl] at H; exact H
                      clear H
                      have H := H1
                      clear H1
                      replace H := Option.bind_eq_some_iff.mp H
                      obtain ⟨t565, A290, H⟩ := H
                      replace H : (if (Go.bits .and .i64 (shr .i64 t565 x12_2) 1) = 0 then (some false) else (if t556 = true then (if (t560.length : Int) = 1 then (wogglelaw07_BeaconLocated.l0 k2 t545 t546 t549 t552 t556 (wrap64 (x12_2 + 1))) else (some false)) else (wogglelaw07_BeaconLocated.l0 k2 t545 t546 t549 t552 t556 (wrap64 (x12_2 + 1))))) = some r := H
                      have A29 := Aside0.mk A290
                      clear A290
                      have c30b0 := eq_true (of_decide_eq_true (by first | (with_reducible assumption) | assumption) : 0 ≤ x12_2)
                      obtain ⟨ji31, hji31⟩ : ∃ j_ : Int, (shr .i64 t565 x12_2) = j_ := ⟨_, rfl⟩
                      replace H : (if (Go.bits .and .i64 (ji31) 1) = 0 then (some false) else (if t556 = true then (if (t560.length : Int) = 1 then (wogglelaw07_BeaconLocated.l0 k2 t545 t546 t549 t552 t556 (wrap64 (x12_2 + 1))) else (some false)) else (wogglelaw07_BeaconLocated.l0 k2 t545 t546 t549 t552 t556 (wrap64 (x12_2 + 1))))) = some r := by first | (rw [hji31] at H; exact H) | (simp only [hji31] at H ⊢; exact H)
                      (try rw [hji31] at A25)
                      (try rw [hji31] at A27)
                      (try rw [hji31] at A29)
                      have hji31_ : (t565 / 2 ^ min x12_2.toNat 64) = ji31 := hji31
                      have hji31z : x12_2 ≤ 64 → (t565 / 2 ^ x12_2.toNat) = ji31 := shr_small hji31
                      by_cases c32 : (Go.bits .and .i64 (ji31) 1) = 0
                      · rw [if_pos c32] at H
                        have c32b0 : ((Go.bits .and .i64 (ji31) 1) == 0) = true := beq_iff_eq.mpr c32
                        have c32b1 : ((Go.bits .and .i64 (ji31) 1) != 0) = false := bne_eq_false_iff_eq.mpr c32
                        clear c32
                        obtain rfl := Option.some.inj H
                        obtain ⟨Ao33, co33, eo33⟩ := Kd.S_slice HO_8.out
                        subst eo33
                        have p559 : 0 ≤ (x12_2 : Int) := of_decide_eq_true (by first | (with_reducible assumption) | assumption)
                        have q559 : x12_2 < (t552.length : Int) := of_decide_eq_true (by first | (with_reducible assumption) | assumption)
                        obtain ⟨ad559, A559_0, c559_0, e559, hx559_0, hl559_0, hi559_0⟩ := at_L5 (Kd.S_reads' HO_8.out).2.2 x12_2 p559 q559
                        cases e559
                        obtain ⟨ce559, hce559, hMe559, hcc559⟩ := Kd.S_get HO_8.out [] x12_2 p559 (by first | exact q559 | exact of_decide_eq_true (by first | (with_reducible assumption) | assumption) | (have e_ := (Kd.S_reads' HO_8.out).1; omega))
                        obtain ⟨ve559_0, rfl, ge559_0⟩ := hMe559
                        have hv559_0 := hcc559 0 _ rfl
                        rw [Nat.add_zero, show ((Kd.slice 3 (Kd.int .i64))).sz = 1 from rfl, Nat.mul_one] at hv559_0
                        replace hv559_0 := Option.some.inj (hv559_0.symm.trans hx559_0)
                        rw [hv559_0] at ge559_0
                        have HL559_0 := Aside0.mk (show Kd.R (Kd.int .i64) 3 _ _ _ _ (rd_L5 t552 x12_2) from ge559_0)
                        clear hv559_0 ge559_0
                        clear hcc559 hce559
                        have HR559_0 := Aside0.mk hi559_0
                        have HC559_0 := Aside0.mk hl559_0
                        clear hi559_0 hl559_0
                        replace p559 := eq_true p559
                        replace q559 := eq_true q559
                        go_wp2_with (first | ((with_reducible refine gate_callee (f := 34) rfl ?_); refine goesL_ (some 66) rfl rfl Tryd.func34 (by kernel_rfl) rfl #[.int .i64 t545, .slice Ao10 t546.length co10, .slice Ao11 t549.length co11, .slice A559_0 (rd_L5 t552 x12_2).length c559_0] rfl (by (try simp only [List.map_toArray, List.map_cons, List.map_nil]); first | done | rfl | (simp only [List.length_drop, List.length_take]; rfl)) ?_; (with_reducible refine (beacon_Locate.calls k2 t545 _ _ t546 _ _ t549 _ _ (rd_L5 t552 x12_2) t560 t561 _ ?side1 ?side2 ?side3 ?side4 ?side5 ?side6 A25.out).mono ?_); (case side1 => repeat (first | exact (Kd.R_reads' HO_6.out).2.2 | (with_reducible refine Kd.C_alloc ?_ _) | (with_reducible refine Kd.C_drewN ?_ _) | (with_reducible refine Kd.C_drew ?_))); (case side2 => exact (Kd.R_reads' HO_6.out).2.1); (case side3 => repeat (first | exact (Kd.R_reads' HO_7.out).2.2 | (with_reducible refine Kd.C_alloc ?_ _) | (with_reducible refine Kd.C_drewN ?_ _) | (with_reducible refine Kd.C_drew ?_))); (case side4 => exact (Kd.R_reads' HO_7.out).2.1); (case side5 => repeat (first | exact (by repeat (first | (with_reducible exact HR559_0.out) | (with_reducible refine Kd.C_alloc ?_ _) | (with_reducible refine Kd.C_drewN ?_ _) | (with_reducible refine Kd.C_drew ?_) | exact HR559_0.out | exact (Kd.C_below HR559_0.out HB.out))) | (with_reducible refine Kd.C_alloc ?_ _) | (with_reducible refine Kd.C_drewN ?_ _) | (with_reducible refine Kd.C_drew ?_))); (case side6 => exact HC559_0.out); rintro e w34 ⟨v562, rfl, ho0, hb⟩; refine ⟨_, rfl, ?_⟩; have n0_ := Aside0.mk (Kd.R_below (by (with_reducible repeat (first | apply Kd.R_alloc | apply Kd.R_drewN | apply Kd.R_drew)); exact HO_6.out) hb); have n1_ := Aside0.mk (Kd.R_elder' (by (with_reducible repeat (first | apply Kd.R_alloc | apply Kd.R_drewN | apply Kd.R_drew)); exact HO_7.out) (Kd.R_base ho0) hb); have n2_ := Aside0.mk (Kd.S_elder' (by (with_reducible repeat (first | apply Kd.S_alloc | apply Kd.S_drewN | apply Kd.S_drew)); exact HO_8.out) (Kd.R_base ho0) hb); have n3_ := Aside0.mk (Kd.R_elder' (by (with_reducible repeat (first | apply Kd.R_alloc | apply Kd.R_drewN | apply Kd.R_drew)); exact HL559_0.out) (Kd.R_base ho0) hb); have n4_ := Aside0.mk (Kd.R_lower (Kd.R_new' (Kd.R_new' ho0 (Kd.R_lt (by (with_reducible repeat (first | apply Kd.R_alloc | apply Kd.R_drewN | apply Kd.R_drew)); exact HO_7.out))) (Kd.R_lt (by (with_reducible repeat (first | apply Kd.R_alloc | apply Kd.R_drewN | apply Kd.R_drew)); exact HL559_0.out))) (below_size (by repeat (first | (with_reducible first | exact HB.out | apply below_alloc | apply pw_below_drewN | apply below_drew1) | exact HB.out)))); have n5_ := Aside0.mk (Kd.C_below (by repeat (first | (with_reducible exact HR559_0.out) | (with_reducible refine Kd.C_alloc ?_ _) | (with_reducible refine Kd.C_drewN ?_ _) | (with_reducible refine Kd.C_drew ?_) | exact HR559_0.out | exact (Kd.C_below HR559_0.out HB.out))) hb); have n6_ := Aside0.mk (below_step (by repeat (first | (with_reducible first | exact HB.out | apply below_alloc | apply pw_below_drewN | apply below_drew1) | exact HB.out)) hb); clear HO_6; clear HO_7; clear HO_8; clear HL559_0; clear HR559_0; clear HB; have HO_6 := n0_; have HO_7 := n1_; have HO_8 := n2_; have HL559_0 := n3_; have HO563 := n4_; have HR559_0 := n5_; have HB := n6_; clear n0_ n1_ n2_ n3_ n4_ n5_ n6_; (try clear hb); (try clear hb2); (try clear hk); (try clear hi); (try clear ho0); obtain ⟨Ao35, co35, eo35⟩ := Kd.R_slice HO563.out; subst eo35) | (go_at_call 28; (with_reducible refine (woggleref01_Rising.calls k2 t545 _ _ t560 true _ ?side1 ?side2 A27.out).mono ?_); (case side1 => repeat (first | exact (Kd.R_reads' HO563.out).2.2 | (with_reducible refine Kd.C_alloc ?_ _) | (with_reducible refine Kd.C_drewN ?_ _) | (with_reducible refine Kd.C_drew ?_))); (case side2 => exact (Kd.R_reads' HO563.out).2.1); rintro e w' ⟨rfl, ⟨nd, rfl⟩⟩) | (go_at_call 40; (with_reducible refine (woggleref01_Bits.calls k2 _ _ t560 t565 _ ?side1 ?side2 A29.out).mono ?_); (case side1 => repeat (first | exact (Kd.R_reads' HO563.out).2.2 | (with_reducible refine Kd.C_alloc ?_ _) | (with_reducible refine Kd.C_drewN ?_ _) | (with_reducible refine Kd.C_drew ?_))); (case side2 => exact (Kd.R_reads' HO563.out).2.1); rintro e w' ⟨rfl, ⟨nd, rfl⟩⟩))
                        go_ret
                        exact ⟨by first | rfl | (simp [errW_none, errW_some] <;> rfl) | (simp only [← hji31]; first | rfl | (simp [errW_none, errW_some] <;> rfl)) | (simp [*, errW_none, errW_some] <;> rfl), by repeat (first | (with_reducible first | exact HB.out | apply below_alloc | apply pw_below_drewN | apply below_drew1) | exact HB.out)⟩
                      · rw [if_neg c32] at H
                        have c32b0 : ((Go.bits .and .i64 (ji31) 1) == 0) = false := beq_eq_false_iff_ne.mpr c32
                        have c32b1 : ((Go.bits .and .i64 (ji31) 1) != 0) = true := bne_iff_ne.mpr c32
                        by_cases c36 : t556 = true
                        · subst c36
                          have H1 : (if (t560.length : Int) = 1 then (wogglelaw07_BeaconLocated.l0 k2 t545 t546 t549 t552 true (wrap64 (x12_2 + 1))) else (some false)) = some r := by rw [if_pos rfl] at H; exact H
                          clear H
                          have H := H1
                          clear H1
                          by_cases c37 : (t560.length : Int) = 1
                          · rw [if_pos c37] at H
                            have c37b0 : ((t560.length : Int) == 1) = true := beq_iff_eq.mpr c37
                            have c37b1 : ((t560.length : Int) != 1) = false := bne_eq_false_iff_eq.mpr c37
                            clear c37
                            have H' := Aside0.mk H
                            clear H
                            obtain ⟨Ao38, co38, eo38⟩ := Kd.S_slice HO_8.out
                            subst eo38
                            have p559 : 0 ≤ (x12_2 : Int) := of_decide_eq_true (by first | (with_reducible assumption) | assumption)
                            have q559 : x12_2 < (t552.length : Int) := of_decide_eq_true (by first | (with_reducible assumption) | assumption)
                            obtain ⟨ad559, A559_0, c559_0, e559, hx559_0, hl559_0, hi559_0⟩ := at_L5 (Kd.S_reads' HO_8.out).2.2 x12_2 p559 q559
                            cases e559
                            obtain ⟨ce559, hce559, hMe559, hcc559⟩ := Kd.S_get HO_8.out [] x12_2 p559 (by first | exact q559 | exact of_decide_eq_true (by first | (with_reducible assumption) | assumption) | (have e_ := (Kd.S_reads' HO_8.out).1; omega))
                            obtain ⟨ve559_0, rfl, ge559_0⟩ := hMe559
                            have hv559_0 := hcc559 0 _ rfl
                            rw [Nat.add_zero, show ((Kd.slice 3 (Kd.int .i64))).sz = 1 from rfl, Nat.mul_one] at hv559_0
                            replace hv559_0 := Option.some.inj (hv559_0.symm.trans hx559_0)
                            rw [hv559_0] at ge559_0
                            have HL559_0 := Aside0.mk (show Kd.R (Kd.int .i64) 3 _ _ _ _ (rd_L5 t552 x12_2) from ge559_0)
                            clear hv559_0 ge559_0
                            clear hcc559 hce559
                            have HR559_0 := Aside0.mk hi559_0
                            have HC559_0 := Aside0.mk hl559_0
                            clear hi559_0 hl559_0
                            replace p559 := eq_true p559
                            replace q559 := eq_true q559
                            go_wp2_with (first | ((with_reducible refine gate_callee (f := 34) rfl ?_); refine goesL_ (some 66) rfl rfl Tryd.func34 (by kernel_rfl) rfl #[.int .i64 t545, .slice Ao10 t546.length co10, .slice Ao11 t549.length co11, .slice A559_0 (rd_L5 t552 x12_2).length c559_0] rfl (by (try simp only [List.map_toArray, List.map_cons, List.map_nil]); first | done | rfl | (simp only [List.length_drop, List.length_take]; rfl)) ?_; (with_reducible refine (beacon_Locate.calls k2 t545 _ _ t546 _ _ t549 _ _ (rd_L5 t552 x12_2) t560 t561 _ ?side1 ?side2 ?side3 ?side4 ?side5 ?side6 A25.out).mono ?_); (case side1 => repeat (first | exact (Kd.R_reads' HO_6.out).2.2 | (with_reducible refine Kd.C_alloc ?_ _) | (with_reducible refine Kd.C_drewN ?_ _) | (with_reducible refine Kd.C_drew ?_))); (case side2 => exact (Kd.R_reads' HO_6.out).2.1); (case side3 => repeat (first | exact (Kd.R_reads' HO_7.out).2.2 | (with_reducible refine Kd.C_alloc ?_ _) | (with_reducible refine Kd.C_drewN ?_ _) | (with_reducible refine Kd.C_drew ?_))); (case side4 => exact (Kd.R_reads' HO_7.out).2.1); (case side5 => repeat (first | exact (by repeat (first | (with_reducible exact HR559_0.out) | (with_reducible refine Kd.C_alloc ?_ _) | (with_reducible refine Kd.C_drewN ?_ _) | (with_reducible refine Kd.C_drew ?_) | exact HR559_0.out | exact (Kd.C_below HR559_0.out HB.out))) | (with_reducible refine Kd.C_alloc ?_ _) | (with_reducible refine Kd.C_drewN ?_ _) | (with_reducible refine Kd.C_drew ?_))); (case side6 => exact HC559_0.out); rintro e w39 ⟨v562, rfl, ho0, hb⟩; refine ⟨_, rfl, ?_⟩; have n0_ := Aside0.mk (Kd.R_below (by (with_reducible repeat (first | apply Kd.R_alloc | apply Kd.R_drewN | apply Kd.R_drew)); exact HO_6.out) hb); have n1_ := Aside0.mk (Kd.R_elder' (by (with_reducible repeat (first | apply Kd.R_alloc | apply Kd.R_drewN | apply Kd.R_drew)); exact HO_7.out) (Kd.R_base ho0) hb); have n2_ := Aside0.mk (Kd.S_elder' (by (with_reducible repeat (first | apply Kd.S_alloc | apply Kd.S_drewN | apply Kd.S_drew)); exact HO_8.out) (Kd.R_base ho0) hb); have n3_ := Aside0.mk (Kd.R_elder' (by (with_reducible repeat (first | apply Kd.R_alloc | apply Kd.R_drewN | apply Kd.R_drew)); exact HL559_0.out) (Kd.R_base ho0) hb); have n4_ := Aside0.mk (Kd.R_lower (Kd.R_new' (Kd.R_new' ho0 (Kd.R_lt (by (with_reducible repeat (first | apply Kd.R_alloc | apply Kd.R_drewN | apply Kd.R_drew)); exact HO_7.out))) (Kd.R_lt (by (with_reducible repeat (first | apply Kd.R_alloc | apply Kd.R_drewN | apply Kd.R_drew)); exact HL559_0.out))) (below_size (by repeat (first | (with_reducible first | exact HB.out | apply below_alloc | apply pw_below_drewN | apply below_drew1) | exact HB.out)))); have n5_ := Aside0.mk (Kd.C_below (by repeat (first | (with_reducible exact HR559_0.out) | (with_reducible refine Kd.C_alloc ?_ _) | (with_reducible refine Kd.C_drewN ?_ _) | (with_reducible refine Kd.C_drew ?_) | exact HR559_0.out | exact (Kd.C_below HR559_0.out HB.out))) hb); have n6_ := Aside0.mk (below_step (by repeat (first | (with_reducible first | exact HB.out | apply below_alloc | apply pw_below_drewN | apply below_drew1) | exact HB.out)) hb); clear HO_6; clear HO_7; clear HO_8; clear HL559_0; clear HR559_0; clear HB; have HO_6 := n0_; have HO_7 := n1_; have HO_8 := n2_; have HL559_0 := n3_; have HO563 := n4_; have HR559_0 := n5_; have HB := n6_; clear n0_ n1_ n2_ n3_ n4_ n5_ n6_; (try clear hb); (try clear hb2); (try clear hk); (try clear hi); (try clear ho0); obtain ⟨Ao40, co40, eo40⟩ := Kd.R_slice HO563.out; subst eo40) | (go_at_call 28; (with_reducible refine (woggleref01_Rising.calls k2 t545 _ _ t560 true _ ?side1 ?side2 A27.out).mono ?_); (case side1 => repeat (first | exact (Kd.R_reads' HO563.out).2.2 | (with_reducible refine Kd.C_alloc ?_ _) | (with_reducible refine Kd.C_drewN ?_ _) | (with_reducible refine Kd.C_drew ?_))); (case side2 => exact (Kd.R_reads' HO563.out).2.1); rintro e w' ⟨rfl, ⟨nd, rfl⟩⟩) | (go_at_call 40; (with_reducible refine (woggleref01_Bits.calls k2 _ _ t560 t565 _ ?side1 ?side2 A29.out).mono ?_); (case side1 => repeat (first | exact (Kd.R_reads' HO563.out).2.2 | (with_reducible refine Kd.C_alloc ?_ _) | (with_reducible refine Kd.C_drewN ?_ _) | (with_reducible refine Kd.C_drew ?_))); (case side2 => exact (Kd.R_reads' HO563.out).2.1); rintro e w' ⟨rfl, ⟨nd, rfl⟩⟩))
                            go_roundg k2
                            case measure => have := HJ6.out; have := HK2.out; omega
                            case rel => exact ⟨(wrap64 (x12_2 + 1)), (by first | rfl | (simp; done) | (simp [*]; done)), H', ⟨by have := HJ6.out; have := HK2.out; omega⟩, ⟨by (with_reducible repeat (first | apply Kd.R_alloc | apply Kd.R_drewN | apply Kd.R_drew)); exact HO_6.out⟩, ⟨by (with_reducible repeat (first | apply Kd.R_alloc | apply Kd.R_drewN | apply Kd.R_drew)); exact Kd.R_mono HO_7.out (fun _ hk => trivial)⟩, ⟨by (with_reducible repeat (first | apply Kd.S_alloc | apply Kd.S_drewN | apply Kd.S_drew)); exact Kd.S_mono HO_8.out (fun _ hk => hk.1)⟩, ⟨by repeat (first | (with_reducible first | exact HB.out | apply below_alloc | apply pw_below_drewN | apply below_drew1) | exact HB.out)⟩⟩
                          · rw [if_neg c37] at H
                            have c37b0 : ((t560.length : Int) == 1) = false := beq_eq_false_iff_ne.mpr c37
                            have c37b1 : ((t560.length : Int) != 1) = true := bne_iff_ne.mpr c37
                            obtain rfl := Option.some.inj H
                            obtain ⟨Ao41, co41, eo41⟩ := Kd.S_slice HO_8.out
                            subst eo41
                            have p559 : 0 ≤ (x12_2 : Int) := of_decide_eq_true (by first | (with_reducible assumption) | assumption)
                            have q559 : x12_2 < (t552.length : Int) := of_decide_eq_true (by first | (with_reducible assumption) | assumption)
                            obtain ⟨ad559, A559_0, c559_0, e559, hx559_0, hl559_0, hi559_0⟩ := at_L5 (Kd.S_reads' HO_8.out).2.2 x12_2 p559 q559
                            cases e559
                            obtain ⟨ce559, hce559, hMe559, hcc559⟩ := Kd.S_get HO_8.out [] x12_2 p559 (by first | exact q559 | exact of_decide_eq_true (by first | (with_reducible assumption) | assumption) | (have e_ := (Kd.S_reads' HO_8.out).1; omega))
                            obtain ⟨ve559_0, rfl, ge559_0⟩ := hMe559
                            have hv559_0 := hcc559 0 _ rfl
                            rw [Nat.add_zero, show ((Kd.slice 3 (Kd.int .i64))).sz = 1 from rfl, Nat.mul_one] at hv559_0
                            replace hv559_0 := Option.some.inj (hv559_0.symm.trans hx559_0)
                            rw [hv559_0] at ge559_0
                            have HL559_0 := Aside0.mk (show Kd.R (Kd.int .i64) 3 _ _ _ _ (rd_L5 t552 x12_2) from ge559_0)
                            clear hv559_0 ge559_0
                            clear hcc559 hce559
                            have HR559_0 := Aside0.mk hi559_0
                            have HC559_0 := Aside0.mk hl559_0
                            clear hi559_0 hl559_0
                            replace p559 := eq_true p559
                            replace q559 := eq_true q559
                            go_wp2_with (first | ((with_reducible refine gate_callee (f := 34) rfl ?_); refine goesL_ (some 66) rfl rfl Tryd.func34 (by kernel_rfl) rfl #[.int .i64 t545, .slice Ao10 t546.length co10, .slice Ao11 t549.length co11, .slice A559_0 (rd_L5 t552 x12_2).length c559_0] rfl (by (try simp only [List.map_toArray, List.map_cons, List.map_nil]); first | done | rfl | (simp only [List.length_drop, List.length_take]; rfl)) ?_; (with_reducible refine (beacon_Locate.calls k2 t545 _ _ t546 _ _ t549 _ _ (rd_L5 t552 x12_2) t560 t561 _ ?side1 ?side2 ?side3 ?side4 ?side5 ?side6 A25.out).mono ?_); (case side1 => repeat (first | exact (Kd.R_reads' HO_6.out).2.2 | (with_reducible refine Kd.C_alloc ?_ _) | (with_reducible refine Kd.C_drewN ?_ _) | (with_reducible refine Kd.C_drew ?_))); (case side2 => exact (Kd.R_reads' HO_6.out).2.1); (case side3 => repeat (first | exact (Kd.R_reads' HO_7.out).2.2 | (with_reducible refine Kd.C_alloc ?_ _) | (with_reducible refine Kd.C_drewN ?_ _) | (with_reducible refine Kd.C_drew ?_))); (case side4 => exact (Kd.R_reads' HO_7.out).2.1); (case side5 => repeat (first | exact (by repeat (first | (with_reducible exact HR559_0.out) | (with_reducible refine Kd.C_alloc ?_ _) | (with_reducible refine Kd.C_drewN ?_ _) | (with_reducible refine Kd.C_drew ?_) | exact HR559_0.out | exact (Kd.C_below HR559_0.out HB.out))) | (with_reducible refine Kd.C_alloc ?_ _) | (with_reducible refine Kd.C_drewN ?_ _) | (with_reducible refine Kd.C_drew ?_))); (case side6 => exact HC559_0.out); rintro e w42 ⟨v562, rfl, ho0, hb⟩; refine ⟨_, rfl, ?_⟩; have n0_ := Aside0.mk (Kd.R_below (by (with_reducible repeat (first | apply Kd.R_alloc | apply Kd.R_drewN | apply Kd.R_drew)); exact HO_6.out) hb); have n1_ := Aside0.mk (Kd.R_elder' (by (with_reducible repeat (first | apply Kd.R_alloc | apply Kd.R_drewN | apply Kd.R_drew)); exact HO_7.out) (Kd.R_base ho0) hb); have n2_ := Aside0.mk (Kd.S_elder' (by (with_reducible repeat (first | apply Kd.S_alloc | apply Kd.S_drewN | apply Kd.S_drew)); exact HO_8.out) (Kd.R_base ho0) hb); have n3_ := Aside0.mk (Kd.R_elder' (by (with_reducible repeat (first | apply Kd.R_alloc | apply Kd.R_drewN | apply Kd.R_drew)); exact HL559_0.out) (Kd.R_base ho0) hb); have n4_ := Aside0.mk (Kd.R_lower (Kd.R_new' (Kd.R_new' ho0 (Kd.R_lt (by (with_reducible repeat (first | apply Kd.R_alloc | apply Kd.R_drewN | apply Kd.R_drew)); exact HO_7.out))) (Kd.R_lt (by (with_reducible repeat (first | apply Kd.R_alloc | apply Kd.R_drewN | apply Kd.R_drew)); exact HL559_0.out))) (below_size (by repeat (first | (with_reducible first | exact HB.out | apply below_alloc | apply pw_below_drewN | apply below_drew1) | exact HB.out)))); have n5_ := Aside0.mk (Kd.C_below (by repeat (first | (with_reducible exact HR559_0.out) | (with_reducible refine Kd.C_alloc ?_ _) | (with_reducible refine Kd.C_drewN ?_ _) | (with_reducible refine Kd.C_drew ?_) | exact HR559_0.out | exact (Kd.C_below HR559_0.out HB.out))) hb); have n6_ := Aside0.mk (below_step (by repeat (first | (with_reducible first | exact HB.out | apply below_alloc | apply pw_below_drewN | apply below_drew1) | exact HB.out)) hb); clear HO_6; clear HO_7; clear HO_8; clear HL559_0; clear HR559_0; clear HB; have HO_6 := n0_; have HO_7 := n1_; have HO_8 := n2_; have HL559_0 := n3_; have HO563 := n4_; have HR559_0 := n5_; have HB := n6_; clear n0_ n1_ n2_ n3_ n4_ n5_ n6_; (try clear hb); (try clear hb2); (try clear hk); (try clear hi); (try clear ho0); obtain ⟨Ao43, co43, eo43⟩ := Kd.R_slice HO563.out; subst eo43) | (go_at_call 28; (with_reducible refine (woggleref01_Rising.calls k2 t545 _ _ t560 true _ ?side1 ?side2 A27.out).mono ?_); (case side1 => repeat (first | exact (Kd.R_reads' HO563.out).2.2 | (with_reducible refine Kd.C_alloc ?_ _) | (with_reducible refine Kd.C_drewN ?_ _) | (with_reducible refine Kd.C_drew ?_))); (case side2 => exact (Kd.R_reads' HO563.out).2.1); rintro e w' ⟨rfl, ⟨nd, rfl⟩⟩) | (go_at_call 40; (with_reducible refine (woggleref01_Bits.calls k2 _ _ t560 t565 _ ?side1 ?side2 A29.out).mono ?_); (case side1 => repeat (first | exact (Kd.R_reads' HO563.out).2.2 | (with_reducible refine Kd.C_alloc ?_ _) | (with_reducible refine Kd.C_drewN ?_ _) | (with_reducible refine Kd.C_drew ?_))); (case side2 => exact (Kd.R_reads' HO563.out).2.1); rintro e w' ⟨rfl, ⟨nd, rfl⟩⟩))
                            go_ret
                            exact ⟨by first | rfl | (simp [errW_none, errW_some] <;> rfl) | (simp only [← hji31]; first | rfl | (simp [errW_none, errW_some] <;> rfl)) | (simp [*, errW_none, errW_some] <;> rfl), by repeat (first | (with_reducible first | exact HB.out | apply below_alloc | apply pw_below_drewN | apply below_drew1) | exact HB.out)⟩
                        · replace c36 := Bool.eq_false_iff.mpr c36
                          subst c36
                          have H1 : (wogglelaw07_BeaconLocated.l0 k2 t545 t546 t549 t552 false (wrap64 (x12_2 + 1))) = some r := by rw [if_neg (show ¬ (false = true) by decide)] at H; exact H
                          clear H
                          have H := H1
                          clear H1
                          have H' := Aside0.mk H
                          clear H
                          obtain ⟨Ao44, co44, eo44⟩ := Kd.S_slice HO_8.out
                          subst eo44
                          have p559 : 0 ≤ (x12_2 : Int) := of_decide_eq_true (by first | (with_reducible assumption) | assumption)
                          have q559 : x12_2 < (t552.length : Int) := of_decide_eq_true (by first | (with_reducible assumption) | assumption)
                          obtain ⟨ad559, A559_0, c559_0, e559, hx559_0, hl559_0, hi559_0⟩ := at_L5 (Kd.S_reads' HO_8.out).2.2 x12_2 p559 q559
                          cases e559
                          obtain ⟨ce559, hce559, hMe559, hcc559⟩ := Kd.S_get HO_8.out [] x12_2 p559 (by first | exact q559 | exact of_decide_eq_true (by first | (with_reducible assumption) | assumption) | (have e_ := (Kd.S_reads' HO_8.out).1; omega))
                          obtain ⟨ve559_0, rfl, ge559_0⟩ := hMe559
                          have hv559_0 := hcc559 0 _ rfl
                          rw [Nat.add_zero, show ((Kd.slice 3 (Kd.int .i64))).sz = 1 from rfl, Nat.mul_one] at hv559_0
                          replace hv559_0 := Option.some.inj (hv559_0.symm.trans hx559_0)
                          rw [hv559_0] at ge559_0
                          have HL559_0 := Aside0.mk (show Kd.R (Kd.int .i64) 3 _ _ _ _ (rd_L5 t552 x12_2) from ge559_0)
                          clear hv559_0 ge559_0
                          clear hcc559 hce559
                          have HR559_0 := Aside0.mk hi559_0
                          have HC559_0 := Aside0.mk hl559_0
                          clear hi559_0 hl559_0
                          replace p559 := eq_true p559
                          replace q559 := eq_true q559
                          go_wp2_with (first | ((with_reducible refine gate_callee (f := 34) rfl ?_); refine goesL_ (some 66) rfl rfl Tryd.func34 (by kernel_rfl) rfl #[.int .i64 t545, .slice Ao10 t546.length co10, .slice Ao11 t549.length co11, .slice A559_0 (rd_L5 t552 x12_2).length c559_0] rfl (by (try simp only [List.map_toArray, List.map_cons, List.map_nil]); first | done | rfl | (simp only [List.length_drop, List.length_take]; rfl)) ?_; (with_reducible refine (beacon_Locate.calls k2 t545 _ _ t546 _ _ t549 _ _ (rd_L5 t552 x12_2) t560 t561 _ ?side1 ?side2 ?side3 ?side4 ?side5 ?side6 A25.out).mono ?_); (case side1 => repeat (first | exact (Kd.R_reads' HO_6.out).2.2 | (with_reducible refine Kd.C_alloc ?_ _) | (with_reducible refine Kd.C_drewN ?_ _) | (with_reducible refine Kd.C_drew ?_))); (case side2 => exact (Kd.R_reads' HO_6.out).2.1); (case side3 => repeat (first | exact (Kd.R_reads' HO_7.out).2.2 | (with_reducible refine Kd.C_alloc ?_ _) | (with_reducible refine Kd.C_drewN ?_ _) | (with_reducible refine Kd.C_drew ?_))); (case side4 => exact (Kd.R_reads' HO_7.out).2.1); (case side5 => repeat (first | exact (by repeat (first | (with_reducible exact HR559_0.out) | (with_reducible refine Kd.C_alloc ?_ _) | (with_reducible refine Kd.C_drewN ?_ _) | (with_reducible refine Kd.C_drew ?_) | exact HR559_0.out | exact (Kd.C_below HR559_0.out HB.out))) | (with_reducible refine Kd.C_alloc ?_ _) | (with_reducible refine Kd.C_drewN ?_ _) | (with_reducible refine Kd.C_drew ?_))); (case side6 => exact HC559_0.out); rintro e w45 ⟨v562, rfl, ho0, hb⟩; refine ⟨_, rfl, ?_⟩; have n0_ := Aside0.mk (Kd.R_below (by (with_reducible repeat (first | apply Kd.R_alloc | apply Kd.R_drewN | apply Kd.R_drew)); exact HO_6.out) hb); have n1_ := Aside0.mk (Kd.R_elder' (by (with_reducible repeat (first | apply Kd.R_alloc | apply Kd.R_drewN | apply Kd.R_drew)); exact HO_7.out) (Kd.R_base ho0) hb); have n2_ := Aside0.mk (Kd.S_elder' (by (with_reducible repeat (first | apply Kd.S_alloc | apply Kd.S_drewN | apply Kd.S_drew)); exact HO_8.out) (Kd.R_base ho0) hb); have n3_ := Aside0.mk (Kd.R_elder' (by (with_reducible repeat (first | apply Kd.R_alloc | apply Kd.R_drewN | apply Kd.R_drew)); exact HL559_0.out) (Kd.R_base ho0) hb); have n4_ := Aside0.mk (Kd.R_lower (Kd.R_new' (Kd.R_new' ho0 (Kd.R_lt (by (with_reducible repeat (first | apply Kd.R_alloc | apply Kd.R_drewN | apply Kd.R_drew)); exact HO_7.out))) (Kd.R_lt (by (with_reducible repeat (first | apply Kd.R_alloc | apply Kd.R_drewN | apply Kd.R_drew)); exact HL559_0.out))) (below_size (by repeat (first | (with_reducible first | exact HB.out | apply below_alloc | apply pw_below_drewN | apply below_drew1) | exact HB.out)))); have n5_ := Aside0.mk (Kd.C_below (by repeat (first | (with_reducible exact HR559_0.out) | (with_reducible refine Kd.C_alloc ?_ _) | (with_reducible refine Kd.C_drewN ?_ _) | (with_reducible refine Kd.C_drew ?_) | exact HR559_0.out | exact (Kd.C_below HR559_0.out HB.out))) hb); have n6_ := Aside0.mk (below_step (by repeat (first | (with_reducible first | exact HB.out | apply below_alloc | apply pw_below_drewN | apply below_drew1) | exact HB.out)) hb); clear HO_6; clear HO_7; clear HO_8; clear HL559_0; clear HR559_0; clear HB; have HO_6 := n0_; have HO_7 := n1_; have HO_8 := n2_; have HL559_0 := n3_; have HO563 := n4_; have HR559_0 := n5_; have HB := n6_; clear n0_ n1_ n2_ n3_ n4_ n5_ n6_; (try clear hb); (try clear hb2); (try clear hk); (try clear hi); (try clear ho0); obtain ⟨Ao46, co46, eo46⟩ := Kd.R_slice HO563.out; subst eo46) | (go_at_call 28; (with_reducible refine (woggleref01_Rising.calls k2 t545 _ _ t560 true _ ?side1 ?side2 A27.out).mono ?_); (case side1 => repeat (first | exact (Kd.R_reads' HO563.out).2.2 | (with_reducible refine Kd.C_alloc ?_ _) | (with_reducible refine Kd.C_drewN ?_ _) | (with_reducible refine Kd.C_drew ?_))); (case side2 => exact (Kd.R_reads' HO563.out).2.1); rintro e w' ⟨rfl, ⟨nd, rfl⟩⟩) | (go_at_call 40; (with_reducible refine (woggleref01_Bits.calls k2 _ _ t560 t565 _ ?side1 ?side2 A29.out).mono ?_); (case side1 => repeat (first | exact (Kd.R_reads' HO563.out).2.2 | (with_reducible refine Kd.C_alloc ?_ _) | (with_reducible refine Kd.C_drewN ?_ _) | (with_reducible refine Kd.C_drew ?_))); (case side2 => exact (Kd.R_reads' HO563.out).2.1); rintro e w' ⟨rfl, ⟨nd, rfl⟩⟩))
                          go_roundg k2
                          case measure => have := HJ6.out; have := HK2.out; omega
                          case rel => exact ⟨(wrap64 (x12_2 + 1)), (by first | rfl | (simp; done) | (simp [*]; done)), H', ⟨by have := HJ6.out; have := HK2.out; omega⟩, ⟨by (with_reducible repeat (first | apply Kd.R_alloc | apply Kd.R_drewN | apply Kd.R_drew)); exact HO_6.out⟩, ⟨by (with_reducible repeat (first | apply Kd.R_alloc | apply Kd.R_drewN | apply Kd.R_drew)); exact Kd.R_mono HO_7.out (fun _ hk => trivial)⟩, ⟨by (with_reducible repeat (first | apply Kd.S_alloc | apply Kd.S_drewN | apply Kd.S_drew)); exact Kd.S_mono HO_8.out (fun _ hk => hk.1)⟩, ⟨by repeat (first | (with_reducible first | exact HB.out | apply below_alloc | apply pw_below_drewN | apply below_drew1) | exact HB.out)⟩⟩
                    · replace c28 := Bool.eq_false_iff.mpr c28
                      subst c28
                      have H1 : (some false) = some r := by rw [if_neg (show ¬ (false = true) by decide)] at H; exact H
                      clear H
                      have H := H1
                      clear H1
                      obtain rfl := Option.some.inj H
                      obtain ⟨Ao47, co47, eo47⟩ := Kd.S_slice HO_8.out
                      subst eo47
                      have p559 : 0 ≤ (x12_2 : Int) := of_decide_eq_true (by first | (with_reducible assumption) | assumption)
                      have q559 : x12_2 < (t552.length : Int) := of_decide_eq_true (by first | (with_reducible assumption) | assumption)
                      obtain ⟨ad559, A559_0, c559_0, e559, hx559_0, hl559_0, hi559_0⟩ := at_L5 (Kd.S_reads' HO_8.out).2.2 x12_2 p559 q559
                      cases e559
                      obtain ⟨ce559, hce559, hMe559, hcc559⟩ := Kd.S_get HO_8.out [] x12_2 p559 (by first | exact q559 | exact of_decide_eq_true (by first | (with_reducible assumption) | assumption) | (have e_ := (Kd.S_reads' HO_8.out).1; omega))
                      obtain ⟨ve559_0, rfl, ge559_0⟩ := hMe559
                      have hv559_0 := hcc559 0 _ rfl
                      rw [Nat.add_zero, show ((Kd.slice 3 (Kd.int .i64))).sz = 1 from rfl, Nat.mul_one] at hv559_0
                      replace hv559_0 := Option.some.inj (hv559_0.symm.trans hx559_0)
                      rw [hv559_0] at ge559_0
                      have HL559_0 := Aside0.mk (show Kd.R (Kd.int .i64) 3 _ _ _ _ (rd_L5 t552 x12_2) from ge559_0)
                      clear hv559_0 ge559_0
                      clear hcc559 hce559
                      have HR559_0 := Aside0.mk hi559_0
                      have HC559_0 := Aside0.mk hl559_0
                      clear hi559_0 hl559_0
                      replace p559 := eq_true p559
                      replace q559 := eq_true q559
                      go_wp2_with (first | ((with_reducible refine gate_callee (f := 34) rfl ?_); refine goesL_ (some 66) rfl rfl Tryd.func34 (by kernel_rfl) rfl #[.int .i64 t545, .slice Ao10 t546.length co10, .slice Ao11 t549.length co11, .slice A559_0 (rd_L5 t552 x12_2).length c559_0] rfl (by (try simp only [List.map_toArray, List.map_cons, List.map_nil]); first | done | rfl | (simp only [List.length_drop, List.length_take]; rfl)) ?_; (with_reducible refine (beacon_Locate.calls k2 t545 _ _ t546 _ _ t549 _ _ (rd_L5 t552 x12_2) t560 t561 _ ?side1 ?side2 ?side3 ?side4 ?side5 ?side6 A25.out).mono ?_); (case side1 => repeat (first | exact (Kd.R_reads' HO_6.out).2.2 | (with_reducible refine Kd.C_alloc ?_ _) | (with_reducible refine Kd.C_drewN ?_ _) | (with_reducible refine Kd.C_drew ?_))); (case side2 => exact (Kd.R_reads' HO_6.out).2.1); (case side3 => repeat (first | exact (Kd.R_reads' HO_7.out).2.2 | (with_reducible refine Kd.C_alloc ?_ _) | (with_reducible refine Kd.C_drewN ?_ _) | (with_reducible refine Kd.C_drew ?_))); (case side4 => exact (Kd.R_reads' HO_7.out).2.1); (case side5 => repeat (first | exact (by repeat (first | (with_reducible exact HR559_0.out) | (with_reducible refine Kd.C_alloc ?_ _) | (with_reducible refine Kd.C_drewN ?_ _) | (with_reducible refine Kd.C_drew ?_) | exact HR559_0.out | exact (Kd.C_below HR559_0.out HB.out))) | (with_reducible refine Kd.C_alloc ?_ _) | (with_reducible refine Kd.C_drewN ?_ _) | (with_reducible refine Kd.C_drew ?_))); (case side6 => exact HC559_0.out); rintro e w48 ⟨v562, rfl, ho0, hb⟩; refine ⟨_, rfl, ?_⟩; have n0_ := Aside0.mk (Kd.R_below (by (with_reducible repeat (first | apply Kd.R_alloc | apply Kd.R_drewN | apply Kd.R_drew)); exact HO_6.out) hb); have n1_ := Aside0.mk (Kd.R_elder' (by (with_reducible repeat (first | apply Kd.R_alloc | apply Kd.R_drewN | apply Kd.R_drew)); exact HO_7.out) (Kd.R_base ho0) hb); have n2_ := Aside0.mk (Kd.S_elder' (by (with_reducible repeat (first | apply Kd.S_alloc | apply Kd.S_drewN | apply Kd.S_drew)); exact HO_8.out) (Kd.R_base ho0) hb); have n3_ := Aside0.mk (Kd.R_elder' (by (with_reducible repeat (first | apply Kd.R_alloc | apply Kd.R_drewN | apply Kd.R_drew)); exact HL559_0.out) (Kd.R_base ho0) hb); have n4_ := Aside0.mk (Kd.R_lower (Kd.R_new' (Kd.R_new' ho0 (Kd.R_lt (by (with_reducible repeat (first | apply Kd.R_alloc | apply Kd.R_drewN | apply Kd.R_drew)); exact HO_7.out))) (Kd.R_lt (by (with_reducible repeat (first | apply Kd.R_alloc | apply Kd.R_drewN | apply Kd.R_drew)); exact HL559_0.out))) (below_size (by repeat (first | (with_reducible first | exact HB.out | apply below_alloc | apply pw_below_drewN | apply below_drew1) | exact HB.out)))); have n5_ := Aside0.mk (Kd.C_below (by repeat (first | (with_reducible exact HR559_0.out) | (with_reducible refine Kd.C_alloc ?_ _) | (with_reducible refine Kd.C_drewN ?_ _) | (with_reducible refine Kd.C_drew ?_) | exact HR559_0.out | exact (Kd.C_below HR559_0.out HB.out))) hb); have n6_ := Aside0.mk (below_step (by repeat (first | (with_reducible first | exact HB.out | apply below_alloc | apply pw_below_drewN | apply below_drew1) | exact HB.out)) hb); clear HO_6; clear HO_7; clear HO_8; clear HL559_0; clear HR559_0; clear HB; have HO_6 := n0_; have HO_7 := n1_; have HO_8 := n2_; have HL559_0 := n3_; have HO563 := n4_; have HR559_0 := n5_; have HB := n6_; clear n0_ n1_ n2_ n3_ n4_ n5_ n6_; (try clear hb); (try clear hb2); (try clear hk); (try clear hi); (try clear ho0); obtain ⟨Ao49, co49, eo49⟩ := Kd.R_slice HO563.out; subst eo49) | (go_at_call 28; (with_reducible refine (woggleref01_Rising.calls k2 t545 _ _ t560 false _ ?side1 ?side2 A27.out).mono ?_); (case side1 => repeat (first | exact (Kd.R_reads' HO563.out).2.2 | (with_reducible refine Kd.C_alloc ?_ _) | (with_reducible refine Kd.C_drewN ?_ _) | (with_reducible refine Kd.C_drew ?_))); (case side2 => exact (Kd.R_reads' HO563.out).2.1); rintro e w' ⟨rfl, ⟨nd, rfl⟩⟩))
                      go_ret
                      exact ⟨by first | rfl | (simp [errW_none, errW_some] <;> rfl) | (simp [*, errW_none, errW_some] <;> rfl), by repeat (first | (with_reducible first | exact HB.out | apply below_alloc | apply pw_below_drewN | apply below_drew1) | exact HB.out)⟩
                  · rw [if_neg c26] at H
                    have c26b0 : (t561 == 0) = false := beq_eq_false_iff_ne.mpr c26
                    have c26b1 : (t561 != 0) = true := bne_iff_ne.mpr c26
                    obtain rfl := Option.some.inj H
                    obtain ⟨Ao50, co50, eo50⟩ := Kd.S_slice HO_8.out
                    subst eo50
                    have p559 : 0 ≤ (x12_2 : Int) := of_decide_eq_true (by first | (with_reducible assumption) | assumption)
                    have q559 : x12_2 < (t552.length : Int) := of_decide_eq_true (by first | (with_reducible assumption) | assumption)
                    obtain ⟨ad559, A559_0, c559_0, e559, hx559_0, hl559_0, hi559_0⟩ := at_L5 (Kd.S_reads' HO_8.out).2.2 x12_2 p559 q559
                    cases e559
                    obtain ⟨ce559, hce559, hMe559, hcc559⟩ := Kd.S_get HO_8.out [] x12_2 p559 (by first | exact q559 | exact of_decide_eq_true (by first | (with_reducible assumption) | assumption) | (have e_ := (Kd.S_reads' HO_8.out).1; omega))
                    obtain ⟨ve559_0, rfl, ge559_0⟩ := hMe559
                    have hv559_0 := hcc559 0 _ rfl
                    rw [Nat.add_zero, show ((Kd.slice 3 (Kd.int .i64))).sz = 1 from rfl, Nat.mul_one] at hv559_0
                    replace hv559_0 := Option.some.inj (hv559_0.symm.trans hx559_0)
                    rw [hv559_0] at ge559_0
                    have HL559_0 := Aside0.mk (show Kd.R (Kd.int .i64) 3 _ _ _ _ (rd_L5 t552 x12_2) from ge559_0)
                    clear hv559_0 ge559_0
                    clear hcc559 hce559
                    have HR559_0 := Aside0.mk hi559_0
                    have HC559_0 := Aside0.mk hl559_0
                    clear hi559_0 hl559_0
                    replace p559 := eq_true p559
                    replace q559 := eq_true q559
                    go_wp2_with (first | ((with_reducible refine gate_callee (f := 34) rfl ?_); refine goesL_ (some 66) rfl rfl Tryd.func34 (by kernel_rfl) rfl #[.int .i64 t545, .slice Ao10 t546.length co10, .slice Ao11 t549.length co11, .slice A559_0 (rd_L5 t552 x12_2).length c559_0] rfl (by (try simp only [List.map_toArray, List.map_cons, List.map_nil]); first | done | rfl | (simp only [List.length_drop, List.length_take]; rfl)) ?_; (with_reducible refine (beacon_Locate.calls k2 t545 _ _ t546 _ _ t549 _ _ (rd_L5 t552 x12_2) t560 t561 _ ?side1 ?side2 ?side3 ?side4 ?side5 ?side6 A25.out).mono ?_); (case side1 => repeat (first | exact (Kd.R_reads' HO_6.out).2.2 | (with_reducible refine Kd.C_alloc ?_ _) | (with_reducible refine Kd.C_drewN ?_ _) | (with_reducible refine Kd.C_drew ?_))); (case side2 => exact (Kd.R_reads' HO_6.out).2.1); (case side3 => repeat (first | exact (Kd.R_reads' HO_7.out).2.2 | (with_reducible refine Kd.C_alloc ?_ _) | (with_reducible refine Kd.C_drewN ?_ _) | (with_reducible refine Kd.C_drew ?_))); (case side4 => exact (Kd.R_reads' HO_7.out).2.1); (case side5 => repeat (first | exact (by repeat (first | (with_reducible exact HR559_0.out) | (with_reducible refine Kd.C_alloc ?_ _) | (with_reducible refine Kd.C_drewN ?_ _) | (with_reducible refine Kd.C_drew ?_) | exact HR559_0.out | exact (Kd.C_below HR559_0.out HB.out))) | (with_reducible refine Kd.C_alloc ?_ _) | (with_reducible refine Kd.C_drewN ?_ _) | (with_reducible refine Kd.C_drew ?_))); (case side6 => exact HC559_0.out); rintro e w51 ⟨v562, rfl, ho0, hb⟩; refine ⟨_, rfl, ?_⟩; have n0_ := Aside0.mk (Kd.R_below (by (with_reducible repeat (first | apply Kd.R_alloc | apply Kd.R_drewN | apply Kd.R_drew)); exact HO_6.out) hb); have n1_ := Aside0.mk (Kd.R_elder' (by (with_reducible repeat (first | apply Kd.R_alloc | apply Kd.R_drewN | apply Kd.R_drew)); exact HO_7.out) (Kd.R_base ho0) hb); have n2_ := Aside0.mk (Kd.S_elder' (by (with_reducible repeat (first | apply Kd.S_alloc | apply Kd.S_drewN | apply Kd.S_drew)); exact HO_8.out) (Kd.R_base ho0) hb); have n3_ := Aside0.mk (Kd.R_elder' (by (with_reducible repeat (first | apply Kd.R_alloc | apply Kd.R_drewN | apply Kd.R_drew)); exact HL559_0.out) (Kd.R_base ho0) hb); have n4_ := Aside0.mk (Kd.R_lower (Kd.R_new' (Kd.R_new' ho0 (Kd.R_lt (by (with_reducible repeat (first | apply Kd.R_alloc | apply Kd.R_drewN | apply Kd.R_drew)); exact HO_7.out))) (Kd.R_lt (by (with_reducible repeat (first | apply Kd.R_alloc | apply Kd.R_drewN | apply Kd.R_drew)); exact HL559_0.out))) (below_size (by repeat (first | (with_reducible first | exact HB.out | apply below_alloc | apply pw_below_drewN | apply below_drew1) | exact HB.out)))); have n5_ := Aside0.mk (Kd.C_below (by repeat (first | (with_reducible exact HR559_0.out) | (with_reducible refine Kd.C_alloc ?_ _) | (with_reducible refine Kd.C_drewN ?_ _) | (with_reducible refine Kd.C_drew ?_) | exact HR559_0.out | exact (Kd.C_below HR559_0.out HB.out))) hb); have n6_ := Aside0.mk (below_step (by repeat (first | (with_reducible first | exact HB.out | apply below_alloc | apply pw_below_drewN | apply below_drew1) | exact HB.out)) hb); clear HO_6; clear HO_7; clear HO_8; clear HL559_0; clear HR559_0; clear HB; have HO_6 := n0_; have HO_7 := n1_; have HO_8 := n2_; have HL559_0 := n3_; have HO563 := n4_; have HR559_0 := n5_; have HB := n6_; clear n0_ n1_ n2_ n3_ n4_ n5_ n6_; (try clear hb); (try clear hb2); (try clear hk); (try clear hi); (try clear ho0)))
                    go_ret
                    exact ⟨by first | rfl | (simp [errW_none, errW_some] <;> rfl) | (simp [*, errW_none, errW_some] <;> rfl), by repeat (first | (with_reducible first | exact HB.out | apply below_alloc | apply pw_below_drewN | apply below_drew1) | exact HB.out)⟩
                · rw [if_neg c24] at H
                  exact absurd H (by simp)
              · rw [if_neg c23] at H
                exact absurd H (by simp)
            · rw [if_neg c22] at H
              have c22b0 : decide (x12_2 < t545) = false := decide_eq_false c22
              clear c22
              obtain rfl := Option.some.inj H
              go_wp2
              go_ret
              exact ⟨by first | rfl | (simp [errW_none, errW_some] <;> rfl) | (simp [*, errW_none, errW_some] <;> rfl), by repeat (first | (with_reducible first | exact HB.out | apply below_alloc | apply pw_below_drewN | apply below_drew1) | exact HB.out)⟩

/-- THE ONE PURE STATEMENT of wogglelaw07_BeaconLocated: yours. -/
def wogglelaw07_BeaconLocated.Pure : Prop := ∀ (l0 : List (S77)) (a1 : Int), (l0.length ≤ maxLen ∧ ∀ x0_ ∈ l0, ((Lit.int .u8 x0_.f0).wf = true ∧ (Lit.int .u8 x0_.f1).wf = true)) → (Lit.int .u16 a1).wf = true → ∃ k, wogglelaw07_BeaconLocated.f k l0 a1 = some true

end Go.Proofs.YtbeimdngghedjaaDoor.P
