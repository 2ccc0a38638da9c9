-- written by a program of this session
import Derived.Test.YtgjmfehdjbepiaaPK
import Derived.Test.YtgjmfehdjbepiaaML2
import Derived.Test.YtgjmfehdjbepiaaPF26
import Derived.Test.YtgjmfehdjbepiaaPF44
import Derived.Test.YtgjmfehdjbepiaaPF45
import Derived.Test.YtgjmfehdjbepiaaPF49
import Derived.Test.YtgjmfehdjbepiaaG39
import Derived.Test.YtgjmfehdjbepiaaG43
import Derived.Test.YtgjmfehdjbepiaaG47
namespace Go.Proofs.Ytgjmfehdjbepiaa.P
open Go.RowKit Go.Proofs.YtgjmfehdjbepiaaW.PrintWords Go.Proofs.YtgjmfehdjbepiaaW.PrintLast Go.Proofs.YtgjmfehdjbepiaaW.PrintMore
attribute [local go_sem] max2_int min2_int max_two min_two max_three min_three max_four min_four   -- for this text's walks alone
set_option linter.unusedVariables false
set_option linter.unusedSimpArgs false

/-! ### wogglelaw09_HatAverage: function 15 -/
def wogglelaw09_HatAverage.j0 : Nat → Int → Int → List (S71) → List (List Int) → List Int → Int → Bool → Option (Bool)
  | 0, _, _, _, _, _, _, _ => none
  | k + 1, x3, x4, x5, x6, x9, x10, x51 => if x51 = true then (some false) else (if x10 = 0 then ((hat_Guesses.f k x3 x4 x5 x6 x9).bind fun bt699 => (if bt699.2 = 0 then ((woggleref09_Hats.f k x3 x4 x9).bind fun t703 => (if t703 = true then (if (bt699.1.length : Int) = x3 then ((woggleref09_Right.f k bt699.1 x9).bind fun t704 => (some (t704 == 0))) else (some false)) else (some false))) else (some false))) else (if x10 = 5 then (some (decide (x4 ≤ x3))) else (some false)))
def wogglelaw09_HatAverage.f (k : Nat) (a0_0 : Int) (a0_1 : Int) (a0_2 : Int) (l0_3 : List Int) : Option (Bool) := (wogglelaw09_Deal_made.f k a0_0 a0_1 a0_2 l0_3).bind fun bt683 => ((hat_Right.f k bt683.1 bt683.2.1 bt683.2.2.1 bt683.2.2.2).bind fun bt691 => ((hat_Loses.f k bt683.1 bt683.2.1 bt683.2.2.1 bt683.2.2.2).bind fun bt693 => (if bt691.2 = 0 then ((woggleref09_Power.f k bt683.2.1 (wrap64 (bt683.1 - 1))).bind fun t697 => (if bt691.1 = (wrap64 (bt683.1 * t697)) then ((wogglelaw09_lives.f k).bind fun t698 => (wogglelaw09_HatAverage.j0 k bt683.1 bt683.2.1 bt683.2.2.1 bt683.2.2.2 bt693.1 bt693.2 (!t698))) else (wogglelaw09_HatAverage.j0 k bt683.1 bt683.2.1 bt683.2.2.1 bt683.2.2.2 bt693.1 bt693.2 true))) else (wogglelaw09_HatAverage.j0 k bt683.1 bt683.2.1 bt683.2.2.1 bt683.2.2.2 bt693.1 bt693.2 true))))
theorem wogglelaw09_HatAverage.mono_l : ∀ k, (∀ y0 y1 y2 y3 y4 y5 y6, LeO (wogglelaw09_HatAverage.j0 k y0 y1 y2 y3 y4 y5 y6) (wogglelaw09_HatAverage.j0 (k + 1) y0 y1 y2 y3 y4 y5 y6))
  | 0 => fun _ _ _ _ _ _ _ r h => by simp [wogglelaw09_HatAverage.j0] at h
  | k + 1 => by
    have ih0 := wogglelaw09_HatAverage.mono_l k
    · intro y0 y1 y2 y3 y4 y5 y6
      unfold wogglelaw09_HatAverage.j0
      repeat' first
      | (with_reducible exact ih0 _ _ _ _ _ _ _)
      | (with_reducible exact hat_Guesses.mono _ _ _ _ _ _)
      | (with_reducible exact hat_Loses.mono _ _ _ _ _)
      | (with_reducible exact hat_Right.mono _ _ _ _ _)
      | (with_reducible exact wogglelaw09_Deal_made.mono _ _ _ _ _)
      | (with_reducible exact wogglelaw09_lives.mono _)
      | (with_reducible exact woggleref09_Hats.mono _ _ _ _)
      | (with_reducible exact woggleref09_Power.mono _ _ _)
      | (with_reducible exact woggleref09_Right.mono _ _ _)
      | (with_reducible exact LeO.refl _)
      | (with_reducible exact LeO.none _)
      | (with_reducible refine LeO.ite ?_ ?_)
      | (with_reducible refine LeO.bind ?_ (fun _ => ?_))
      | exact ih0 _ _ _ _ _ _ _
      | exact hat_Guesses.mono _ _ _ _ _ _
      | exact hat_Loses.mono _ _ _ _ _
      | exact hat_Right.mono _ _ _ _ _
      | exact wogglelaw09_Deal_made.mono _ _ _ _ _
      | exact wogglelaw09_lives.mono _
      | exact woggleref09_Hats.mono _ _ _ _
      | exact woggleref09_Power.mono _ _ _
      | exact woggleref09_Right.mono _ _ _
      | exact LeO.none _
      | refine LeO.ite ?_ ?_
      | refine LeO.bind ?_ (fun _ => ?_)
theorem wogglelaw09_HatAverage.mono : ∀ a0 a1 a2 a3 k, LeO (wogglelaw09_HatAverage.f k a0 a1 a2 a3) (wogglelaw09_HatAverage.f (k + 1) a0 a1 a2 a3) := by
  intro a0 a1 a2 a3 k
  have ih0 := wogglelaw09_HatAverage.mono_l k
  unfold wogglelaw09_HatAverage.f
  repeat' first
      | (with_reducible exact ih0 _ _ _ _ _ _ _)
      | (with_reducible exact hat_Guesses.mono _ _ _ _ _ _)
      | (with_reducible exact hat_Loses.mono _ _ _ _ _)
      | (with_reducible exact hat_Right.mono _ _ _ _ _)
      | (with_reducible exact wogglelaw09_Deal_made.mono _ _ _ _ _)
      | (with_reducible exact wogglelaw09_lives.mono _)
      | (with_reducible exact woggleref09_Hats.mono _ _ _ _)
      | (with_reducible exact woggleref09_Power.mono _ _ _)
      | (with_reducible exact woggleref09_Right.mono _ _ _)
      | (with_reducible exact LeO.refl _)
      | (with_reducible exact LeO.none _)
      | (with_reducible refine LeO.ite ?_ ?_)
      | (with_reducible refine LeO.bind ?_ (fun _ => ?_))
      | exact ih0 _ _ _ _ _ _ _
      | exact hat_Guesses.mono _ _ _ _ _ _
      | exact hat_Loses.mono _ _ _ _ _
      | exact hat_Right.mono _ _ _ _ _
      | exact wogglelaw09_Deal_made.mono _ _ _ _ _
      | exact wogglelaw09_lives.mono _
      | exact woggleref09_Hats.mono _ _ _ _
      | exact woggleref09_Power.mono _ _ _
      | exact woggleref09_Right.mono _ _ _
      | exact LeO.none _
      | refine LeO.ite ?_ ?_
      | refine LeO.bind ?_ (fun _ => ?_)
set_option maxHeartbeats 8000000 in
set_option maxRecDepth 100000 in
theorem wogglelaw09_HatAverage.calls (k : Nat) (a0_0 : Int) (a0_1 : Int) (a0_2 : Int) (A0_3 : Option Addr) (c0_3 : Nat) (l0_3 : List Int) (r : Bool) (w : World) (hr0_3 : Kd.C (Kd.int .u8) w A0_3 l0_3.length l0_3) (hc0_3 : l0_3.length ≤ c0_3) (h : wogglelaw09_HatAverage.f k a0_0 a0_1 a0_2 l0_3 = some r) :
    Calls Try.prog 15 #[.agg #[.int .u8 a0_0, .int .u8 a0_1, .int .u8 a0_2, .slice A0_3 l0_3.length c0_3]] w fun e w' => e = .returned (.bool r) ∧ Below w.heap.size w w' := by
  have hu66 := Try.underlying66
  have HR0_3 := Aside0.mk hr0_3
  have HC0_3 := Aside0.mk hc0_3
  clear hr0_3 hc0_3
  have HB := Aside0.mk (Below.refl w.heap.size w)
  have H : ((wogglelaw09_Deal_made.f k a0_0 a0_1 a0_2 l0_3).bind fun bt683 => ((hat_Right.f k bt683.1 bt683.2.1 bt683.2.2.1 bt683.2.2.2).bind fun bt691 => ((hat_Loses.f k bt683.1 bt683.2.1 bt683.2.2.1 bt683.2.2.2).bind fun bt693 => (if bt691.2 = 0 then ((woggleref09_Power.f k bt683.2.1 (wrap64 (bt683.1 - 1))).bind fun t697 => (if bt691.1 = (wrap64 (bt683.1 * t697)) then ((wogglelaw09_lives.f k).bind fun t698 => (wogglelaw09_HatAverage.j0 k bt683.1 bt683.2.1 bt683.2.2.1 bt683.2.2.2 bt693.1 bt693.2 (!t698))) else (wogglelaw09_HatAverage.j0 k bt683.1 bt683.2.1 bt683.2.2.1 bt683.2.2.2 bt693.1 bt693.2 true))) else (wogglelaw09_HatAverage.j0 k bt683.1 bt683.2.1 bt683.2.2.1 bt683.2.2.2 bt693.1 bt693.2 true))))) = some r := h
  clear h
  replace H := Option.bind_eq_some_iff.mp H
  obtain ⟨⟨t683, t684, t685, t688⟩, A20, H⟩ := H
  replace H : ((hat_Right.f k t683 t684 t685 t688).bind fun bt691 => ((hat_Loses.f k t683 t684 t685 t688).bind fun bt693 => (if bt691.2 = 0 then ((woggleref09_Power.f k t684 (wrap64 (t683 - 1))).bind fun t697 => (if bt691.1 = (wrap64 (t683 * t697)) then ((wogglelaw09_lives.f k).bind fun t698 => (wogglelaw09_HatAverage.j0 k t683 t684 t685 t688 bt693.1 bt693.2 (!t698))) else (wogglelaw09_HatAverage.j0 k t683 t684 t685 t688 bt693.1 bt693.2 true))) else (wogglelaw09_HatAverage.j0 k t683 t684 t685 t688 bt693.1 bt693.2 true)))) = some r := H
  have A2 := Aside0.mk A20
  clear A20
  replace H := Option.bind_eq_some_iff.mp H
  obtain ⟨⟨t691, t692⟩, A30, H⟩ := H
  replace H : ((hat_Loses.f k t683 t684 t685 t688).bind fun bt693 => (if t692 = 0 then ((woggleref09_Power.f k t684 (wrap64 (t683 - 1))).bind fun t697 => (if t691 = (wrap64 (t683 * t697)) then ((wogglelaw09_lives.f k).bind fun t698 => (wogglelaw09_HatAverage.j0 k t683 t684 t685 t688 bt693.1 bt693.2 (!t698))) else (wogglelaw09_HatAverage.j0 k t683 t684 t685 t688 bt693.1 bt693.2 true))) else (wogglelaw09_HatAverage.j0 k t683 t684 t685 t688 bt693.1 bt693.2 true))) = some r := H
  have A3 := Aside0.mk A30
  clear A30
  replace H := Option.bind_eq_some_iff.mp H
  obtain ⟨⟨t693, t694⟩, A40, H⟩ := H
  replace H : (if t692 = 0 then ((woggleref09_Power.f k t684 (wrap64 (t683 - 1))).bind fun t697 => (if t691 = (wrap64 (t683 * t697)) then ((wogglelaw09_lives.f k).bind fun t698 => (wogglelaw09_HatAverage.j0 k t683 t684 t685 t688 t693 t694 (!t698))) else (wogglelaw09_HatAverage.j0 k t683 t684 t685 t688 t693 t694 true))) else (wogglelaw09_HatAverage.j0 k t683 t684 t685 t688 t693 t694 true)) = some r := H
  have A4 := Aside0.mk A40
  clear A40
  have HC5 := Aside0.mk H
  clear H
  go_enter Try.func15, Try.ntmps15
  go_upto_region 4 with (first | ((with_reducible refine gate_dst (N := 1) rfl ?_); (try (refine gate_guard (by rfl) ?_; dsimp only)); refine box_event ?hg (N := 1) ?hd (cs := #[.int .u8 a0_0, .int .u8 a0_1, .int .u8 a0_2, .slice A0_3 l0_3.length c0_3]) (t := 66) ?hr ?_; (case hd => rfl); (case hg => rfl); (case hr => first | (go_simp; done) | (go_simp; rfl)); intro gb682 hg w6 hbox hb; have n0_ := Aside0.mk (below_step (by repeat (first | (with_reducible first | exact HB.out | apply below_alloc | apply pw_below_drewN | apply below_drew1) | exact HB.out)) hb); have n1_ := Aside0.mk (hbox); have n2_ := Aside0.mk ((by rw [hg]; exact (below_size (by repeat (first | (with_reducible first | exact HB.out | apply below_alloc | apply pw_below_drewN | apply below_drew1) | exact HB.out))) : w.heap.size ≤ gb682)); have n3_ := Aside0.mk ((by rw [hg]; exact (below_size (by repeat (first | (with_reducible first | exact HB.out | apply below_alloc | apply pw_below_drewN | apply below_drew1) | exact HB.out))) : w.heap.size ≤ gb682)); clear HB; have HB := n0_; have BK682 := n1_; have GW682 := n2_; have GE682 := n3_; clear n0_ n1_ n2_ n3_; clear hb hbox hg; have hcz7_0 : w6.cell? ⟨gb682, 0, none⟩ = some (.int .u8 a0_0) := (blk_cell BK682.out 0).trans rfl; have hcz7_1 : w6.cell? ⟨gb682, 1, none⟩ = some (.int .u8 a0_1) := (blk_cell BK682.out 1).trans rfl; have hcz7_2 : w6.cell? ⟨gb682, 2, none⟩ = some (.int .u8 a0_2) := (blk_cell BK682.out 2).trans rfl; have hcz7_3 : w6.cell? ⟨gb682, 3, none⟩ = some (.slice A0_3 l0_3.length c0_3) := (blk_cell BK682.out 3).trans rfl; have hfz7_0 := blk_frozen BK682.out 0; have hfz7_1 := blk_frozen BK682.out 1; have hfz7_2 := blk_frozen BK682.out 2; have hfz7_3 := blk_frozen BK682.out 3) | ((with_reducible refine gate_callee (f := 44) rfl ?_); refine goesL_ (some 15) rfl rfl Try.func44 (by kernel_rfl) rfl #[.agg #[.int .u8 a0_0, .int .u8 a0_1, .int .u8 a0_2, .slice A0_3 l0_3.length c0_3]] rfl (by (try simp only [List.map_toArray, List.map_cons, List.map_nil]); first | done | rfl | (simp only [List.length_drop, List.length_take]; rfl)) ?_; (with_reducible refine (wogglelaw09_Deal_made.calls k a0_0 a0_1 a0_2 _ _ l0_3 t683 t684 t685 t688 _ ?side1 ?side2 A2.out).mono ?_); (case side1 => repeat (first | exact (Kd.C_below HR0_3.out HB.out) | (with_reducible refine Kd.C_alloc ?_ _) | (with_reducible refine Kd.C_drewN ?_ _) | (with_reducible refine Kd.C_drew ?_))); (case side2 => exact HC0_3.out); rintro e w8 ⟨v686, v689, rfl, ho0, ho1, hb⟩; refine ⟨_, rfl, ?_⟩; have n0_ := Aside0.mk (Kd.R_lower ho0 (below_size (by repeat (first | (with_reducible first | exact HB.out | apply below_alloc | apply pw_below_drewN | apply below_drew1 | refine below_set ?_ GE682.out) | exact HB.out)))); have n1_ := Aside0.mk (Kd.S_lower ho1 (below_size (by repeat (first | (with_reducible first | exact HB.out | apply below_alloc | apply pw_below_drewN | apply below_drew1 | refine below_set ?_ GE682.out) | exact HB.out)))); have n2_ := Aside0.mk (blk_below (g := gb682) (o := .cells #[.int .u8 a0_0, .int .u8 a0_1, .int .u8 a0_2, .slice A0_3 l0_3.length c0_3] 66 (0, 0)) (by (with_reducible repeat (first | refine blk_drewN ?_ _ | refine blk_drew ?_ | refine blk_alloc ?_ _)); exact BK682.out) hb); have n3_ := Aside0.mk (below_step (by repeat (first | (with_reducible first | exact HB.out | apply below_alloc | apply pw_below_drewN | apply below_drew1 | refine below_set ?_ GE682.out) | exact HB.out)) hb); clear BK682; clear HB; have HO687 := n0_; have HO690 := n1_; have BK682 := n2_; have HB := n3_; clear n0_ n1_ n2_ n3_; (try clear hb); (try clear hb2); (try clear hk); (try clear hi); (try clear ho0); (try clear ho1); obtain ⟨Ao9, co9, eo9⟩ := Kd.R_slice HO687.out; subst eo9; obtain ⟨Ao10, co10, eo10⟩ := Kd.S_slice HO690.out; subst eo10) | ((with_reducible refine gate_callee (f := 47) rfl ?_); refine goesL_ (some 25) rfl rfl Try.func47 (by kernel_rfl) rfl #[.int .i64 t683, .int .i64 t684, .slice Ao9 t685.length co9, .slice Ao10 t688.length co10] rfl (by (try simp only [List.map_toArray, List.map_cons, List.map_nil]); first | done | rfl | (simp only [List.length_drop, List.length_take]; rfl)) ?_; (with_reducible refine (hat_Right.calls k t683 t684 _ _ t685 _ _ t688 t691 t692 _ ?side1 ?side2 ?side3 ?side4 A3.out).mono ?_); (case side1 => repeat (first | exact (Kd.R_reads' HO687.out).2.2 | (with_reducible refine Kd.C_alloc ?_ _) | (with_reducible refine Kd.C_drewN ?_ _) | (with_reducible refine Kd.C_drew ?_))); (case side2 => exact (Kd.R_reads' HO687.out).2.1); (case side3 => repeat (first | exact (Kd.S_reads' HO690.out).2.2 | (with_reducible refine Kd.C_alloc ?_ _) | (with_reducible refine Kd.C_drewN ?_ _) | (with_reducible refine Kd.C_drew ?_))); (case side4 => exact (Kd.S_reads' HO690.out).2.1); rintro e w11 ⟨rfl, hb⟩; refine ⟨_, rfl, ?_⟩; have n0_ := Aside0.mk (Kd.R_below (by (with_reducible repeat (first | apply Kd.R_alloc | apply Kd.R_drewN | apply Kd.R_drew)); exact HO687.out) hb); have n1_ := Aside0.mk (Kd.S_below (by (with_reducible repeat (first | apply Kd.S_alloc | apply Kd.S_drewN | apply Kd.S_drew)); exact HO690.out) hb); have n2_ := Aside0.mk (blk_below (g := gb682) (o := .cells #[.int .u8 a0_0, .int .u8 a0_1, .int .u8 a0_2, .slice A0_3 l0_3.length c0_3] 66 (0, 0)) (by (with_reducible repeat (first | refine blk_drewN ?_ _ | refine blk_drew ?_ | refine blk_alloc ?_ _)); exact BK682.out) hb); have n3_ := Aside0.mk (below_step (by repeat (first | (with_reducible first | exact HB.out | apply below_alloc | apply pw_below_drewN | apply below_drew1 | refine below_set ?_ GE682.out) | exact HB.out)) hb); clear HO687; clear HO690; clear BK682; clear HB; have HO687 := n0_; have HO690 := n1_; have BK682 := n2_; have HB := n3_; clear n0_ n1_ n2_ n3_; (try clear hb); (try clear hb2); (try clear hk); (try clear hi)) | ((with_reducible refine gate_callee (f := 43) rfl ?_); refine goesL_ (some 33) rfl rfl Try.func43 (by kernel_rfl) rfl #[.int .i64 t683, .int .i64 t684, .slice Ao9 t685.length co9, .slice Ao10 t688.length co10] rfl (by (try simp only [List.map_toArray, List.map_cons, List.map_nil]); first | done | rfl | (simp only [List.length_drop, List.length_take]; rfl)) ?_; (with_reducible refine (hat_Loses.calls k t683 t684 _ _ t685 _ _ t688 t693 t694 _ ?side1 ?side2 ?side3 ?side4 A4.out).mono ?_); (case side1 => repeat (first | exact (Kd.R_reads' HO687.out).2.2 | (with_reducible refine Kd.C_alloc ?_ _) | (with_reducible refine Kd.C_drewN ?_ _) | (with_reducible refine Kd.C_drew ?_))); (case side2 => exact (Kd.R_reads' HO687.out).2.1); (case side3 => repeat (first | exact (Kd.S_reads' HO690.out).2.2 | (with_reducible refine Kd.C_alloc ?_ _) | (with_reducible refine Kd.C_drewN ?_ _) | (with_reducible refine Kd.C_drew ?_))); (case side4 => exact (Kd.S_reads' HO690.out).2.1); rintro e w12 ⟨v695, rfl, ho0, hb⟩; refine ⟨_, rfl, ?_⟩; have n0_ := Aside0.mk (Kd.R_below (by (with_reducible repeat (first | apply Kd.R_alloc | apply Kd.R_drewN | apply Kd.R_drew)); exact HO687.out) hb); have n1_ := Aside0.mk (Kd.S_elder' (by (with_reducible repeat (first | apply Kd.S_alloc | apply Kd.S_drewN | apply Kd.S_drew)); exact HO690.out) (Kd.R_base ho0) hb); have n2_ := Aside0.mk (Kd.R_lower ho0 (below_size (by repeat (first | (with_reducible first | exact HB.out | apply below_alloc | apply pw_below_drewN | apply below_drew1 | refine below_set ?_ GE682.out) | exact HB.out)))); have n3_ := Aside0.mk (blk_below (g := gb682) (o := .cells #[.int .u8 a0_0, .int .u8 a0_1, .int .u8 a0_2, .slice A0_3 l0_3.length c0_3] 66 (0, 0)) (by (with_reducible repeat (first | refine blk_drewN ?_ _ | refine blk_drew ?_ | refine blk_alloc ?_ _)); exact BK682.out) hb); have n4_ := Aside0.mk (below_step (by repeat (first | (with_reducible first | exact HB.out | apply below_alloc | apply pw_below_drewN | apply below_drew1 | refine below_set ?_ GE682.out) | exact HB.out)) hb); clear HO687; clear HO690; clear BK682; clear HB; have HO687 := n0_; have HO690 := n1_; have HO696 := n2_; have BK682 := n3_; have HB := n4_; clear n0_ n1_ n2_ n3_ n4_; (try clear hb); (try clear hb2); (try clear hk); (try clear hi); (try clear ho0)))
  (try simp only [Act.put, List.setIfInBounds_toArray, List.set_cons_zero, List.set_cons_succ])
  go_cut [51] (fun v51 wc => ∃ (kq : Nat) (x51_4 : Bool), v51 = .bool x51_4 ∧ Aside0 (wogglelaw09_HatAverage.j0 kq t683 t684 t685 t688 t693 t694 x51_4 = some r) ∧ Aside0 (kq ≤ k) ∧ Aside0 (Kd.R k71 71 wc w.heap.size (fun _ => True) (.slice Ao9 t685.length co9) t685) ∧ Aside0 (Kd.S (Kd.slice 3 (Kd.int .i64)) 37 wc w.heap.size (fun k_ => some k_ ≠ (v695 : Value).ownBlock) (.slice Ao10 t688.length co10) t688) ∧ Aside0 (Kd.R (Kd.int .i64) 3 wc w.heap.size (fun _ => True) v695 t693) ∧ Aside0 (wc.heap[gb682]? = some (.cells #[.int .u8 a0_0, .int .u8 a0_1, .int .u8 a0_2, (.slice A0_3 l0_3.length c0_3)] 66 (0, 0))) ∧ Aside0 (Below w.heap.size w wc))
  case first =>
    have H := HC5.out
    clear HC5
    by_cases c13 : t692 = 0
    · rw [if_pos c13] at H
      have c13b0 : (t692 == 0) = true := beq_iff_eq.mpr c13
      have c13b1 : (t692 != 0) = false := bne_eq_false_iff_eq.mpr c13
      clear c13
      (first | rw [c13b0] | (simp only [i64_w, i32_w]; rw [c13b0]) | skip)
      replace H := Option.bind_eq_some_iff.mp H
      obtain ⟨t697, A140, H⟩ := H
      replace H : (if t691 = (wrap64 (t683 * t697)) then ((wogglelaw09_lives.f k).bind fun t698 => (wogglelaw09_HatAverage.j0 k t683 t684 t685 t688 t693 t694 (!t698))) else (wogglelaw09_HatAverage.j0 k t683 t684 t685 t688 t693 t694 true)) = some r := H
      have A14 := Aside0.mk A140
      clear A140
      by_cases c15 : t691 = (wrap64 (t683 * t697))
      · rw [if_pos c15] at H
        have c15b0 : (t691 == (wrap64 (t683 * t697))) = true := beq_iff_eq.mpr c15
        have c15b1 : (t691 != (wrap64 (t683 * t697))) = false := bne_eq_false_iff_eq.mpr c15
        clear c15
        replace H := Option.bind_eq_some_iff.mp H
        obtain ⟨t698, A160, H⟩ := H
        replace H : (wogglelaw09_HatAverage.j0 k t683 t684 t685 t688 t693 t694 (!t698)) = some r := H
        have A16 := Aside0.mk A160
        clear A160
        have H' := Aside0.mk H
        clear H
        go_wp2_with (first | (go_at_call 45; (first | (with_reducible refine (woggleref09_Power.calls k t684 (wrap64 (t683 - 1)) t697 _ A14.out).mono ?_) | (simp only [i64_w, i32_w]; with_reducible refine (woggleref09_Power.calls k t684 (wrap64 (t683 - 1)) t697 _ A14.out).mono ?_)); rintro e w' ⟨rfl, ⟨nd, rfl⟩⟩) | (go_at_call 20; (with_reducible refine (wogglelaw09_lives.calls k  t698 _ A16.out).mono ?_); rintro e w17 ⟨rfl, hb⟩; have n0_ := Aside0.mk (Kd.R_below (by (with_reducible repeat (first | apply Kd.R_alloc | apply Kd.R_drewN | apply Kd.R_drew)); exact HO687.out) hb); have n1_ := Aside0.mk (Kd.S_below (by (with_reducible repeat (first | apply Kd.S_alloc | apply Kd.S_drewN | apply Kd.S_drew)); exact HO690.out) hb); have n2_ := Aside0.mk (Kd.R_below (by (with_reducible repeat (first | apply Kd.R_alloc | apply Kd.R_drewN | apply Kd.R_drew)); exact HO696.out) hb); have n3_ := Aside0.mk (blk_below (g := gb682) (o := .cells #[.int .u8 a0_0, .int .u8 a0_1, .int .u8 a0_2, .slice A0_3 l0_3.length c0_3] 66 (0, 0)) (by (with_reducible repeat (first | refine blk_drewN ?_ _ | refine blk_drew ?_ | refine blk_alloc ?_ _)); exact BK682.out) hb); have n4_ := Aside0.mk (below_step (by repeat (first | (with_reducible first | exact HB.out | apply below_alloc | apply pw_below_drewN | apply below_drew1 | refine below_set ?_ GE682.out) | exact HB.out)) hb); clear HO687; clear HO690; clear HO696; clear BK682; clear HB; have HO687 := n0_; have HO690 := n1_; have HO696 := n2_; have BK682 := n3_; have HB := n4_; clear n0_ n1_ n2_ n3_ n4_; (try clear hb); (try clear hb2); (try clear hk); (try clear hi)))
        go_meet
        case rel => exact ⟨_, (!t698), (by first | rfl | (simp; done) | (simp [*]; done)), H', ⟨by first | omega | exact Nat.le_refl _⟩, ⟨by (with_reducible repeat (first | apply Kd.R_alloc | apply Kd.R_drewN | apply Kd.R_drew)); exact HO687.out⟩, ⟨by (with_reducible repeat (first | apply Kd.S_alloc | apply Kd.S_drewN | apply Kd.S_drew)); exact Kd.S_mono HO690.out (fun _ hk => hk.2)⟩, ⟨by (with_reducible repeat (first | apply Kd.R_alloc | apply Kd.R_drewN | apply Kd.R_drew)); exact HO696.out⟩, ⟨by (with_reducible repeat (first | refine blk_drewN ?_ _ | refine blk_drew ?_ | refine blk_alloc ?_ _)); exact BK682.out⟩, ⟨by repeat (first | (with_reducible first | exact HB.out | apply below_alloc | apply pw_below_drewN | apply below_drew1 | refine below_set ?_ GE682.out) | exact HB.out)⟩⟩
      · rw [if_neg c15] at H
        have c15b0 : (t691 == (wrap64 (t683 * t697))) = false := beq_eq_false_iff_ne.mpr c15
        have c15b1 : (t691 != (wrap64 (t683 * t697))) = true := bne_iff_ne.mpr c15
        have H' := Aside0.mk H
        clear H
        go_wp2_with (first | (go_at_call 45; (first | (with_reducible refine (woggleref09_Power.calls k t684 (wrap64 (t683 - 1)) t697 _ A14.out).mono ?_) | (simp only [i64_w, i32_w]; with_reducible refine (woggleref09_Power.calls k t684 (wrap64 (t683 - 1)) t697 _ A14.out).mono ?_)); rintro e w' ⟨rfl, ⟨nd, rfl⟩⟩))
        go_meet
        case rel => exact ⟨_, (true), (by first | rfl | (simp; done) | (simp [*]; done)), H', ⟨by first | omega | exact Nat.le_refl _⟩, ⟨by (with_reducible repeat (first | apply Kd.R_alloc | apply Kd.R_drewN | apply Kd.R_drew)); exact HO687.out⟩, ⟨by (with_reducible repeat (first | apply Kd.S_alloc | apply Kd.S_drewN | apply Kd.S_drew)); exact Kd.S_mono HO690.out (fun _ hk => hk.2)⟩, ⟨by (with_reducible repeat (first | apply Kd.R_alloc | apply Kd.R_drewN | apply Kd.R_drew)); exact HO696.out⟩, ⟨by (with_reducible repeat (first | refine blk_drewN ?_ _ | refine blk_drew ?_ | refine blk_alloc ?_ _)); exact BK682.out⟩, ⟨by repeat (first | (with_reducible first | exact HB.out | apply below_alloc | apply pw_below_drewN | apply below_drew1 | refine below_set ?_ GE682.out) | exact HB.out)⟩⟩
    · rw [if_neg c13] at H
      have c13b0 : (t692 == 0) = false := beq_eq_false_iff_ne.mpr c13
      have c13b1 : (t692 != 0) = true := bne_iff_ne.mpr c13
      (first | rw [c13b0] | (simp only [i64_w, i32_w]; rw [c13b0]) | skip)
      have H' := Aside0.mk H
      clear H
      go_wp2
      go_meet
      case rel => exact ⟨_, (true), (by first | rfl | (simp; done) | (simp [*]; done)), H', ⟨by first | omega | exact Nat.le_refl _⟩, ⟨by (with_reducible repeat (first | apply Kd.R_alloc | apply Kd.R_drewN | apply Kd.R_drew)); exact HO687.out⟩, ⟨by (with_reducible repeat (first | apply Kd.S_alloc | apply Kd.S_drewN | apply Kd.S_drew)); exact Kd.S_mono HO690.out (fun _ hk => hk.2)⟩, ⟨by (with_reducible repeat (first | apply Kd.R_alloc | apply Kd.R_drewN | apply Kd.R_drew)); exact HO696.out⟩, ⟨by (with_reducible repeat (first | refine blk_drewN ?_ _ | refine blk_drew ?_ | refine blk_alloc ?_ _)); exact BK682.out⟩, ⟨by repeat (first | (with_reducible first | exact HB.out | apply below_alloc | apply pw_below_drewN | apply below_drew1 | refine below_set ?_ GE682.out) | exact HB.out)⟩⟩
  case rest =>
    clear HC5
    try clear c1
    try clear p2
    try clear c4
    try clear p6
    try clear c13
    try clear c13b0
    try clear c13b1
    try clear c15
    try clear c15b0
    try clear c15b1
    try clear hcz7_0
    try clear hcz7_1
    try clear hcz7_2
    try clear hcz7_3
    try clear hfz7_0
    try clear hfz7_1
    try clear hfz7_2
    try clear hfz7_3
    obtain ⟨kq, x51_4, rfl, HA, HJ4, HO_5, HO_6, HO_9, BK682, HB⟩ := hcut
    cases kq with
    | zero => exact absurd HA.out (by simp [wogglelaw09_HatAverage.j0])
    | succ kj4 =>
      have H := HA.out
      clear HA
      simp only [wogglelaw09_HatAverage.j0] at H
      by_cases c18 : x51_4 = true
      · subst c18
        have H1 : (some false) = some r := by rw [if_pos rfl] at H; exact H
        clear H
        have H := H1
        clear H1
        obtain rfl := Option.some.inj H
        go_wp2
        go_ret
        exact ⟨by first | rfl | (simp [errW_none, errW_some] <;> rfl) | (simp [*, errW_none, errW_some] <;> rfl), by repeat (first | (with_reducible first | exact HB.out | apply below_alloc | apply pw_below_drewN | apply below_drew1 | refine below_set ?_ GE682.out) | exact HB.out)⟩
      · replace c18 := Bool.eq_false_iff.mpr c18
        subst c18
        have H1 : (if t694 = 0 then ((hat_Guesses.f kj4 t683 t684 t685 t688 t693).bind fun bt699 => (if bt699.2 = 0 then ((woggleref09_Hats.f kj4 t683 t684 t693).bind fun t703 => (if t703 = true then (if (bt699.1.length : Int) = t683 then ((woggleref09_Right.f kj4 bt699.1 t693).bind fun t704 => (some (t704 == 0))) else (some false)) else (some false))) else (some false))) else (if t694 = 5 then (some (decide (t684 ≤ t683))) else (some false))) = some r := by rw [if_neg (show ¬ (false = true) by decide)] at H; exact H
        clear H
        have H := H1
        clear H1
        by_cases c19 : t694 = 0
        · rw [if_pos c19] at H
          have c19b0 : (t694 == 0) = true := beq_iff_eq.mpr c19
          have c19b1 : (t694 != 0) = false := bne_eq_false_iff_eq.mpr c19
          clear c19
          replace H := Option.bind_eq_some_iff.mp H
          obtain ⟨⟨t699, t700⟩, A200, H⟩ := H
          replace H : (if t700 = 0 then ((woggleref09_Hats.f kj4 t683 t684 t693).bind fun t703 => (if t703 = true then (if (t699.length : Int) = t683 then ((woggleref09_Right.f kj4 t699 t693).bind fun t704 => (some (t704 == 0))) else (some false)) else (some false))) else (some false)) = some r := H
          have A20 := Aside0.mk A200
          clear A200
          by_cases c21 : t700 = 0
          · rw [if_pos c21] at H
            have c21b0 : (t700 == 0) = true := beq_iff_eq.mpr c21
            have c21b1 : (t700 != 0) = false := bne_eq_false_iff_eq.mpr c21
            clear c21
            replace H := Option.bind_eq_some_iff.mp H
            obtain ⟨t703, A220, H⟩ := H
            replace H : (if t703 = true then (if (t699.length : Int) = t683 then ((woggleref09_Right.f kj4 t699 t693).bind fun t704 => (some (t704 == 0))) else (some false)) else (some false)) = some r := H
            have A22 := Aside0.mk A220
            clear A220
            by_cases c23 : t703 = true
            · subst c23
              have H1 : (if (t699.length : Int) = t683 then ((woggleref09_Right.f kj4 t699 t693).bind fun t704 => (some (t704 == 0))) else (some false)) = some r := by rw [if_pos rfl] at H; exact H
              clear H
              have H := H1
              clear H1
              by_cases c24 : (t699.length : Int) = t683
              · rw [if_pos c24] at H
                have c24b0 : ((t699.length : Int) == t683) = true := beq_iff_eq.mpr c24
                have c24b1 : ((t699.length : Int) != t683) = false := bne_eq_false_iff_eq.mpr c24
                clear c24
                replace H := Option.bind_eq_some_iff.mp H
                obtain ⟨t704, A250, H⟩ := H
                replace H : (some (t704 == 0)) = some r := H
                have A25 := Aside0.mk A250
                clear A250
                obtain rfl := Option.some.inj H
                obtain ⟨Ao26, co26, eo26⟩ := Kd.R_slice HO_9.out
                subst eo26
                go_wp2_with (first | ((with_reducible refine gate_callee (f := 39) rfl ?_); refine goesL_ (some 67) rfl rfl Try.func39 (by kernel_rfl) rfl #[.int .i64 t683, .int .i64 t684, .slice Ao9 t685.length co9, .slice Ao10 t688.length co10, .slice Ao26 t693.length co26] rfl (by (try simp only [List.map_toArray, List.map_cons, List.map_nil]); first | done | rfl | (simp only [List.length_drop, List.length_take]; rfl)) ?_; (with_reducible refine (hat_Guesses.calls kj4 t683 t684 _ _ t685 _ _ t688 _ _ t693 t699 t700 _ ?side1 ?side2 ?side3 ?side4 ?side5 ?side6 A20.out).mono ?_); (case side1 => repeat (first | exact (Kd.R_reads' HO_5.out).2.2 | (with_reducible refine Kd.C_alloc ?_ _) | (with_reducible refine Kd.C_drewN ?_ _) | (with_reducible refine Kd.C_drew ?_))); (case side2 => exact (Kd.R_reads' HO_5.out).2.1); (case side3 => repeat (first | exact (Kd.S_reads' HO_6.out).2.2 | (with_reducible refine Kd.C_alloc ?_ _) | (with_reducible refine Kd.C_drewN ?_ _) | (with_reducible refine Kd.C_drew ?_))); (case side4 => exact (Kd.S_reads' HO_6.out).2.1); (case side5 => repeat (first | exact (Kd.R_reads' HO_9.out).2.2 | (with_reducible refine Kd.C_alloc ?_ _) | (with_reducible refine Kd.C_drewN ?_ _) | (with_reducible refine Kd.C_drew ?_))); (case side6 => exact (Kd.R_reads' HO_9.out).2.1); rintro e w27 ⟨v701, rfl, ho0, hb⟩; refine ⟨_, rfl, ?_⟩; have n0_ := Aside0.mk (Kd.R_below (by (with_reducible repeat (first | apply Kd.R_alloc | apply Kd.R_drewN | apply Kd.R_drew)); exact HO_5.out) hb); have n1_ := Aside0.mk (Kd.S_elder' (by (with_reducible repeat (first | apply Kd.S_alloc | apply Kd.S_drewN | apply Kd.S_drew)); exact HO_6.out) (Kd.R_base ho0) hb); have n2_ := Aside0.mk (Kd.R_elder' (by (with_reducible repeat (first | apply Kd.R_alloc | apply Kd.R_drewN | apply Kd.R_drew)); exact HO_9.out) (Kd.R_base ho0) hb); have n3_ := Aside0.mk (Kd.R_lower (Kd.R_new' ho0 (Kd.R_lt (by (with_reducible repeat (first | apply Kd.R_alloc | apply Kd.R_drewN | apply Kd.R_drew)); exact HO_9.out))) (below_size (by repeat (first | (with_reducible first | exact HB.out | apply below_alloc | apply pw_below_drewN | apply below_drew1 | refine below_set ?_ GE682.out) | exact HB.out)))); have n4_ := Aside0.mk (blk_below (g := gb682) (o := .cells #[.int .u8 a0_0, .int .u8 a0_1, .int .u8 a0_2, .slice A0_3 l0_3.length c0_3] 66 (0, 0)) (by (with_reducible repeat (first | refine blk_drewN ?_ _ | refine blk_drew ?_ | refine blk_alloc ?_ _)); exact BK682.out) hb); have n5_ := Aside0.mk (below_step (by repeat (first | (with_reducible first | exact HB.out | apply below_alloc | apply pw_below_drewN | apply below_drew1 | refine below_set ?_ GE682.out) | exact HB.out)) hb); clear HO_5; clear HO_6; clear HO_9; clear BK682; clear HB; have HO_5 := n0_; have HO_6 := n1_; have HO_9 := n2_; have HO702 := n3_; have BK682 := n4_; have HB := n5_; clear n0_ n1_ n2_ n3_ n4_ n5_; (try clear hb); (try clear hb2); (try clear hk); (try clear hi); (try clear ho0)) | (go_at_call 26; (with_reducible refine (woggleref09_Hats.calls kj4 t683 t684 _ _ t693 true _ ?side1 ?side2 A22.out).mono ?_); (case side1 => repeat (first | exact (Kd.R_reads' HO_9.out).2.2 | (with_reducible refine Kd.C_alloc ?_ _) | (with_reducible refine Kd.C_drewN ?_ _) | (with_reducible refine Kd.C_drew ?_))); (case side2 => exact (Kd.R_reads' HO_9.out).2.1); rintro e w' ⟨rfl, ⟨nd, rfl⟩⟩; obtain ⟨Ao28, co28, eo28⟩ := Kd.R_slice HO702.out; subst eo28) | (go_at_call 49; (with_reducible refine (woggleref09_Right.calls kj4 _ _ t699 _ _ t693 t704 _ ?side1 ?side2 ?side3 ?side4 A25.out).mono ?_); (case side1 => repeat (first | exact (Kd.R_reads' HO702.out).2.2 | (with_reducible refine Kd.C_alloc ?_ _) | (with_reducible refine Kd.C_drewN ?_ _) | (with_reducible refine Kd.C_drew ?_))); (case side2 => exact (Kd.R_reads' HO702.out).2.1); (case side3 => repeat (first | exact (Kd.R_reads' HO_9.out).2.2 | (with_reducible refine Kd.C_alloc ?_ _) | (with_reducible refine Kd.C_drewN ?_ _) | (with_reducible refine Kd.C_drew ?_))); (case side4 => exact (Kd.R_reads' HO_9.out).2.1); rintro e w' ⟨rfl, ⟨nd, rfl⟩⟩))
                go_ret
                exact ⟨by first | rfl | (simp [errW_none, errW_some] <;> rfl) | (simp [*, errW_none, errW_some] <;> rfl), by repeat (first | (with_reducible first | exact HB.out | apply below_alloc | apply pw_below_drewN | apply below_drew1 | refine below_set ?_ GE682.out) | exact HB.out)⟩
              · rw [if_neg c24] at H
                have c24b0 : ((t699.length : Int) == t683) = false := beq_eq_false_iff_ne.mpr c24
                have c24b1 : ((t699.length : Int) != t683) = true := bne_iff_ne.mpr c24
                obtain rfl := Option.some.inj H
                obtain ⟨Ao29, co29, eo29⟩ := Kd.R_slice HO_9.out
                subst eo29
                go_wp2_with (first | ((with_reducible refine gate_callee (f := 39) rfl ?_); refine goesL_ (some 67) rfl rfl Try.func39 (by kernel_rfl) rfl #[.int .i64 t683, .int .i64 t684, .slice Ao9 t685.length co9, .slice Ao10 t688.length co10, .slice Ao29 t693.length co29] rfl (by (try simp only [List.map_toArray, List.map_cons, List.map_nil]); first | done | rfl | (simp only [List.length_drop, List.length_take]; rfl)) ?_; (with_reducible refine (hat_Guesses.calls kj4 t683 t684 _ _ t685 _ _ t688 _ _ t693 t699 t700 _ ?side1 ?side2 ?side3 ?side4 ?side5 ?side6 A20.out).mono ?_); (case side1 => repeat (first | exact (Kd.R_reads' HO_5.out).2.2 | (with_reducible refine Kd.C_alloc ?_ _) | (with_reducible refine Kd.C_drewN ?_ _) | (with_reducible refine Kd.C_drew ?_))); (case side2 => exact (Kd.R_reads' HO_5.out).2.1); (case side3 => repeat (first | exact (Kd.S_reads' HO_6.out).2.2 | (with_reducible refine Kd.C_alloc ?_ _) | (with_reducible refine Kd.C_drewN ?_ _) | (with_reducible refine Kd.C_drew ?_))); (case side4 => exact (Kd.S_reads' HO_6.out).2.1); (case side5 => repeat (first | exact (Kd.R_reads' HO_9.out).2.2 | (with_reducible refine Kd.C_alloc ?_ _) | (with_reducible refine Kd.C_drewN ?_ _) | (with_reducible refine Kd.C_drew ?_))); (case side6 => exact (Kd.R_reads' HO_9.out).2.1); rintro e w30 ⟨v701, rfl, ho0, hb⟩; refine ⟨_, rfl, ?_⟩; have n0_ := Aside0.mk (Kd.R_below (by (with_reducible repeat (first | apply Kd.R_alloc | apply Kd.R_drewN | apply Kd.R_drew)); exact HO_5.out) hb); have n1_ := Aside0.mk (Kd.S_elder' (by (with_reducible repeat (first | apply Kd.S_alloc | apply Kd.S_drewN | apply Kd.S_drew)); exact HO_6.out) (Kd.R_base ho0) hb); have n2_ := Aside0.mk (Kd.R_elder' (by (with_reducible repeat (first | apply Kd.R_alloc | apply Kd.R_drewN | apply Kd.R_drew)); exact HO_9.out) (Kd.R_base ho0) hb); have n3_ := Aside0.mk (Kd.R_lower (Kd.R_new' ho0 (Kd.R_lt (by (with_reducible repeat (first | apply Kd.R_alloc | apply Kd.R_drewN | apply Kd.R_drew)); exact HO_9.out))) (below_size (by repeat (first | (with_reducible first | exact HB.out | apply below_alloc | apply pw_below_drewN | apply below_drew1 | refine below_set ?_ GE682.out) | exact HB.out)))); have n4_ := Aside0.mk (blk_below (g := gb682) (o := .cells #[.int .u8 a0_0, .int .u8 a0_1, .int .u8 a0_2, .slice A0_3 l0_3.length c0_3] 66 (0, 0)) (by (with_reducible repeat (first | refine blk_drewN ?_ _ | refine blk_drew ?_ | refine blk_alloc ?_ _)); exact BK682.out) hb); have n5_ := Aside0.mk (below_step (by repeat (first | (with_reducible first | exact HB.out | apply below_alloc | apply pw_below_drewN | apply below_drew1 | refine below_set ?_ GE682.out) | exact HB.out)) hb); clear HO_5; clear HO_6; clear HO_9; clear BK682; clear HB; have HO_5 := n0_; have HO_6 := n1_; have HO_9 := n2_; have HO702 := n3_; have BK682 := n4_; have HB := n5_; clear n0_ n1_ n2_ n3_ n4_ n5_; (try clear hb); (try clear hb2); (try clear hk); (try clear hi); (try clear ho0)) | (go_at_call 26; (with_reducible refine (woggleref09_Hats.calls kj4 t683 t684 _ _ t693 true _ ?side1 ?side2 A22.out).mono ?_); (case side1 => repeat (first | exact (Kd.R_reads' HO_9.out).2.2 | (with_reducible refine Kd.C_alloc ?_ _) | (with_reducible refine Kd.C_drewN ?_ _) | (with_reducible refine Kd.C_drew ?_))); (case side2 => exact (Kd.R_reads' HO_9.out).2.1); rintro e w' ⟨rfl, ⟨nd, rfl⟩⟩; obtain ⟨Ao31, co31, eo31⟩ := Kd.R_slice HO702.out; subst eo31))
                go_ret
                exact ⟨by first | rfl | (simp [errW_none, errW_some] <;> rfl) | (simp [*, errW_none, errW_some] <;> rfl), by repeat (first | (with_reducible first | exact HB.out | apply below_alloc | apply pw_below_drewN | apply below_drew1 | refine below_set ?_ GE682.out) | exact HB.out)⟩
            · replace c23 := Bool.eq_false_iff.mpr c23
              subst c23
              have H1 : (some false) = some r := by rw [if_neg (show ¬ (false = true) by decide)] at H; exact H
              clear H
              have H := H1
              clear H1
              obtain rfl := Option.some.inj H
              obtain ⟨Ao32, co32, eo32⟩ := Kd.R_slice HO_9.out
              subst eo32
              go_wp2_with (first | ((with_reducible refine gate_callee (f := 39) rfl ?_); refine goesL_ (some 67) rfl rfl Try.func39 (by kernel_rfl) rfl #[.int .i64 t683, .int .i64 t684, .slice Ao9 t685.length co9, .slice Ao10 t688.length co10, .slice Ao32 t693.length co32] rfl (by (try simp only [List.map_toArray, List.map_cons, List.map_nil]); first | done | rfl | (simp only [List.length_drop, List.length_take]; rfl)) ?_; (with_reducible refine (hat_Guesses.calls kj4 t683 t684 _ _ t685 _ _ t688 _ _ t693 t699 t700 _ ?side1 ?side2 ?side3 ?side4 ?side5 ?side6 A20.out).mono ?_); (case side1 => repeat (first | exact (Kd.R_reads' HO_5.out).2.2 | (with_reducible refine Kd.C_alloc ?_ _) | (with_reducible refine Kd.C_drewN ?_ _) | (with_reducible refine Kd.C_drew ?_))); (case side2 => exact (Kd.R_reads' HO_5.out).2.1); (case side3 => repeat (first | exact (Kd.S_reads' HO_6.out).2.2 | (with_reducible refine Kd.C_alloc ?_ _) | (with_reducible refine Kd.C_drewN ?_ _) | (with_reducible refine Kd.C_drew ?_))); (case side4 => exact (Kd.S_reads' HO_6.out).2.1); (case side5 => repeat (first | exact (Kd.R_reads' HO_9.out).2.2 | (with_reducible refine Kd.C_alloc ?_ _) | (with_reducible refine Kd.C_drewN ?_ _) | (with_reducible refine Kd.C_drew ?_))); (case side6 => exact (Kd.R_reads' HO_9.out).2.1); rintro e w33 ⟨v701, rfl, ho0, hb⟩; refine ⟨_, rfl, ?_⟩; have n0_ := Aside0.mk (Kd.R_below (by (with_reducible repeat (first | apply Kd.R_alloc | apply Kd.R_drewN | apply Kd.R_drew)); exact HO_5.out) hb); have n1_ := Aside0.mk (Kd.S_elder' (by (with_reducible repeat (first | apply Kd.S_alloc | apply Kd.S_drewN | apply Kd.S_drew)); exact HO_6.out) (Kd.R_base ho0) hb); have n2_ := Aside0.mk (Kd.R_elder' (by (with_reducible repeat (first | apply Kd.R_alloc | apply Kd.R_drewN | apply Kd.R_drew)); exact HO_9.out) (Kd.R_base ho0) hb); have n3_ := Aside0.mk (Kd.R_lower (Kd.R_new' ho0 (Kd.R_lt (by (with_reducible repeat (first | apply Kd.R_alloc | apply Kd.R_drewN | apply Kd.R_drew)); exact HO_9.out))) (below_size (by repeat (first | (with_reducible first | exact HB.out | apply below_alloc | apply pw_below_drewN | apply below_drew1 | refine below_set ?_ GE682.out) | exact HB.out)))); have n4_ := Aside0.mk (blk_below (g := gb682) (o := .cells #[.int .u8 a0_0, .int .u8 a0_1, .int .u8 a0_2, .slice A0_3 l0_3.length c0_3] 66 (0, 0)) (by (with_reducible repeat (first | refine blk_drewN ?_ _ | refine blk_drew ?_ | refine blk_alloc ?_ _)); exact BK682.out) hb); have n5_ := Aside0.mk (below_step (by repeat (first | (with_reducible first | exact HB.out | apply below_alloc | apply pw_below_drewN | apply below_drew1 | refine below_set ?_ GE682.out) | exact HB.out)) hb); clear HO_5; clear HO_6; clear HO_9; clear BK682; clear HB; have HO_5 := n0_; have HO_6 := n1_; have HO_9 := n2_; have HO702 := n3_; have BK682 := n4_; have HB := n5_; clear n0_ n1_ n2_ n3_ n4_ n5_; (try clear hb); (try clear hb2); (try clear hk); (try clear hi); (try clear ho0)) | (go_at_call 26; (with_reducible refine (woggleref09_Hats.calls kj4 t683 t684 _ _ t693 false _ ?side1 ?side2 A22.out).mono ?_); (case side1 => repeat (first | exact (Kd.R_reads' HO_9.out).2.2 | (with_reducible refine Kd.C_alloc ?_ _) | (with_reducible refine Kd.C_drewN ?_ _) | (with_reducible refine Kd.C_drew ?_))); (case side2 => exact (Kd.R_reads' HO_9.out).2.1); rintro e w' ⟨rfl, ⟨nd, rfl⟩⟩))
              go_ret
              exact ⟨by first | rfl | (simp [errW_none, errW_some] <;> rfl) | (simp [*, errW_none, errW_some] <;> rfl), by repeat (first | (with_reducible first | exact HB.out | apply below_alloc | apply pw_below_drewN | apply below_drew1 | refine below_set ?_ GE682.out) | exact HB.out)⟩
          · rw [if_neg c21] at H
            have c21b0 : (t700 == 0) = false := beq_eq_false_iff_ne.mpr c21
            have c21b1 : (t700 != 0) = true := bne_iff_ne.mpr c21
            obtain rfl := Option.some.inj H
            obtain ⟨Ao34, co34, eo34⟩ := Kd.R_slice HO_9.out
            subst eo34
            go_wp2_with (first | ((with_reducible refine gate_callee (f := 39) rfl ?_); refine goesL_ (some 67) rfl rfl Try.func39 (by kernel_rfl) rfl #[.int .i64 t683, .int .i64 t684, .slice Ao9 t685.length co9, .slice Ao10 t688.length co10, .slice Ao34 t693.length co34] rfl (by (try simp only [List.map_toArray, List.map_cons, List.map_nil]); first | done | rfl | (simp only [List.length_drop, List.length_take]; rfl)) ?_; (with_reducible refine (hat_Guesses.calls kj4 t683 t684 _ _ t685 _ _ t688 _ _ t693 t699 t700 _ ?side1 ?side2 ?side3 ?side4 ?side5 ?side6 A20.out).mono ?_); (case side1 => repeat (first | exact (Kd.R_reads' HO_5.out).2.2 | (with_reducible refine Kd.C_alloc ?_ _) | (with_reducible refine Kd.C_drewN ?_ _) | (with_reducible refine Kd.C_drew ?_))); (case side2 => exact (Kd.R_reads' HO_5.out).2.1); (case side3 => repeat (first | exact (Kd.S_reads' HO_6.out).2.2 | (with_reducible refine Kd.C_alloc ?_ _) | (with_reducible refine Kd.C_drewN ?_ _) | (with_reducible refine Kd.C_drew ?_))); (case side4 => exact (Kd.S_reads' HO_6.out).2.1); (case side5 => repeat (first | exact (Kd.R_reads' HO_9.out).2.2 | (with_reducible refine Kd.C_alloc ?_ _) | (with_reducible refine Kd.C_drewN ?_ _) | (with_reducible refine Kd.C_drew ?_))); (case side6 => exact (Kd.R_reads' HO_9.out).2.1); rintro e w35 ⟨v701, rfl, ho0, hb⟩; refine ⟨_, rfl, ?_⟩; have n0_ := Aside0.mk (Kd.R_below (by (with_reducible repeat (first | apply Kd.R_alloc | apply Kd.R_drewN | apply Kd.R_drew)); exact HO_5.out) hb); have n1_ := Aside0.mk (Kd.S_elder' (by (with_reducible repeat (first | apply Kd.S_alloc | apply Kd.S_drewN | apply Kd.S_drew)); exact HO_6.out) (Kd.R_base ho0) hb); have n2_ := Aside0.mk (Kd.R_elder' (by (with_reducible repeat (first | apply Kd.R_alloc | apply Kd.R_drewN | apply Kd.R_drew)); exact HO_9.out) (Kd.R_base ho0) hb); have n3_ := Aside0.mk (Kd.R_lower (Kd.R_new' ho0 (Kd.R_lt (by (with_reducible repeat (first | apply Kd.R_alloc | apply Kd.R_drewN | apply Kd.R_drew)); exact HO_9.out))) (below_size (by repeat (first | (with_reducible first | exact HB.out | apply below_alloc | apply pw_below_drewN | apply below_drew1 | refine below_set ?_ GE682.out) | exact HB.out)))); have n4_ := Aside0.mk (blk_below (g := gb682) (o := .cells #[.int .u8 a0_0, .int .u8 a0_1, .int .u8 a0_2, .slice A0_3 l0_3.length c0_3] 66 (0, 0)) (by (with_reducible repeat (first | refine blk_drewN ?_ _ | refine blk_drew ?_ | refine blk_alloc ?_ _)); exact BK682.out) hb); have n5_ := Aside0.mk (below_step (by repeat (first | (with_reducible first | exact HB.out | apply below_alloc | apply pw_below_drewN | apply below_drew1 | refine below_set ?_ GE682.out) | exact HB.out)) hb); clear HO_5; clear HO_6; clear HO_9; clear BK682; clear HB; have HO_5 := n0_; have HO_6 := n1_; have HO_9 := n2_; have HO702 := n3_; have BK682 := n4_; have HB := n5_; clear n0_ n1_ n2_ n3_ n4_ n5_; (try clear hb); (try clear hb2); (try clear hk); (try clear hi); (try clear ho0)))
            go_ret
            exact ⟨by first | rfl | (simp [errW_none, errW_some] <;> rfl) | (simp [*, errW_none, errW_some] <;> rfl), by repeat (first | (with_reducible first | exact HB.out | apply below_alloc | apply pw_below_drewN | apply below_drew1 | refine below_set ?_ GE682.out) | exact HB.out)⟩
        · rw [if_neg c19] at H
          have c19b0 : (t694 == 0) = false := beq_eq_false_iff_ne.mpr c19
          have c19b1 : (t694 != 0) = true := bne_iff_ne.mpr c19
          by_cases c36 : t694 = 5
          · rw [if_pos c36] at H
            have c36b0 : (t694 == 5) = true := beq_iff_eq.mpr c36
            have c36b1 : (t694 != 5) = false := bne_eq_false_iff_eq.mpr c36
            clear c36
            obtain rfl := Option.some.inj H
            go_wp2
            go_ret
            exact ⟨by first | rfl | (simp [errW_none, errW_some] <;> rfl) | (simp [*, errW_none, errW_some] <;> rfl), by repeat (first | (with_reducible first | exact HB.out | apply below_alloc | apply pw_below_drewN | apply below_drew1 | refine below_set ?_ GE682.out) | exact HB.out)⟩
          · rw [if_neg c36] at H
            have c36b0 : (t694 == 5) = false := beq_eq_false_iff_ne.mpr c36
            have c36b1 : (t694 != 5) = true := bne_iff_ne.mpr c36
            obtain rfl := Option.some.inj H
            go_wp2
            go_ret
            exact ⟨by first | rfl | (simp [errW_none, errW_some] <;> rfl) | (simp [*, errW_none, errW_some] <;> rfl), by repeat (first | (with_reducible first | exact HB.out | apply below_alloc | apply pw_below_drewN | apply below_drew1 | refine below_set ?_ GE682.out) | exact HB.out)⟩

/-- THE ONE PURE STATEMENT of wogglelaw09_HatAverage: yours. -/
def wogglelaw09_HatAverage.Pure : Prop := ∀ (a0_0 : Int) (a0_1 : Int) (a0_2 : Int) (l0_3 : List Int), (Lit.int .u8 a0_0).wf = true → (Lit.int .u8 a0_1).wf = true → (Lit.int .u8 a0_2).wf = true → (l0_3.length ≤ maxLen ∧ ∀ x0_ ∈ l0_3, (Lit.int .u8 x0_).wf = true) → ∃ k, wogglelaw09_HatAverage.f k a0_0 a0_1 a0_2 l0_3 = some true

end Go.Proofs.Ytgjmfehdjbepiaa.P
