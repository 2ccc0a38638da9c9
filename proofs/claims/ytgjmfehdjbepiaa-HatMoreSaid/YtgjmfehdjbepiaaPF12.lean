-- written by a program of this session
import Derived.Test.YtgjmfehdjbepiaaPK
import Derived.Test.YtgjmfehdjbepiaaML2
import Derived.Test.YtgjmfehdjbepiaaPF22
import Derived.Test.YtgjmfehdjbepiaaML1
import Derived.Test.YtgjmfehdjbepiaaPF44
import Derived.Test.YtgjmfehdjbepiaaPF45
import Derived.Test.YtgjmfehdjbepiaaG43
import Derived.Test.YtgjmfehdjbepiaaPF12d
namespace Go.Proofs.Ytgjmfehdjbepiaa.P
open Go.RowKit Go.Proofs.YtgjmfehdjbepiaaW.PrintWords Go.Proofs.YtgjmfehdjbepiaaW.PrintLast Go.Proofs.YtgjmfehdjbepiaaW.PrintMore
attribute [local go_sem] max2_int min2_int max_two min_two max_three min_three max_four min_four   -- for this text's walks alone
set_option linter.unusedVariables false
set_option linter.unusedSimpArgs false

def wogglelaw09_HatMore.T5 : Bool × List (List Nat × List Nat) := (true, [([], []), ([], []), ([0, 1], [0, 1]), ([], []), ([], []), ([4], [4]), ([], []), ([6], [6]), ([7], [7]), ([], []), ([9], [9]), ([8, 10], [8, 10]), ([5, 11], [5, 11]), ([], []), ([12, 13], [12, 13]), ([3, 14], [3, 14]), ([15], [15]), ([2, 16, 2], [2, 16]), ([17, 17, 0, 1, 2, 3, 4, 5, 6, 7, 8, 9, 10, 11, 12, 13, 14, 15, 16, 17], [17])])
def wogglelaw09_HatMore.B5 : List Nat := [0, 0, 3, 0, 0, 16, 0, 64, 192, 0, 512, 1984, 4080, 0, 16368, 32760, 65528, 131071, 262143]
theorem wogglelaw09_HatMore.tab5 : rtab .any (opsOf Try.f12 5) = wogglelaw09_HatMore.T5 := by kernel_rfl
theorem wogglelaw09_HatMore.bits5 : waitsOk wogglelaw09_HatMore.T5.2 wogglelaw09_HatMore.B5 = true := by kernel_rfl
def wogglelaw09_HatMore.T18 : Bool × List (List Nat × List Nat) := (true, [([], []), ([], []), ([], []), ([1, 2], [1, 2]), ([3], [3]), ([], []), ([4, 5], [4, 5]), ([6], [6]), ([], []), ([], []), ([8, 9], [8, 9]), ([0, 7, 0, 1, 2, 3, 4, 5, 6, 7, 8, 9, 10], [0, 7]), ([11, 10, 0, 1, 2, 3, 4, 5, 6, 7, 8, 9, 10], [10, 11])])
def wogglelaw09_HatMore.B18 : List Nat := [0, 0, 0, 6, 14, 0, 62, 126, 0, 0, 768, 2047, 4095]
theorem wogglelaw09_HatMore.tab18 : rtab .any (opsOf Try.f12 18) = wogglelaw09_HatMore.T18 := by kernel_rfl
theorem wogglelaw09_HatMore.bits18 : waitsOk wogglelaw09_HatMore.T18.2 wogglelaw09_HatMore.B18 = true := by kernel_rfl
set_option maxHeartbeats 8000000 in
set_option maxRecDepth 100000 in
theorem wogglelaw09_HatMore.calls (k : Nat) (a0_0 : Int) (a0_1 : Int) (a0_2 : Int) (A0_3 : Option Addr) (c0_3 : Nat) (l0_3 : List Int) (a1_0 : Int) (a1_1 : Int) (r : Bool) (w : World) (hr0_3 : Kd.C (Kd.int .u8) w A0_3 l0_3.length l0_3) (hc0_3 : l0_3.length ≤ c0_3) (h : wogglelaw09_HatMore.f k a0_0 a0_1 a0_2 l0_3 a1_0 a1_1 = some r) :
    Calls Try.prog 12 #[.agg #[.int .u8 a0_0, .int .u8 a0_1, .int .u8 a0_2, .slice A0_3 l0_3.length c0_3], .agg #[.int .u8 a1_0, .int .u8 a1_1]] w fun e w' => e = .returned (.bool r) ∧ Below w.heap.size w w' := by
  have hu66 := Try.underlying66
  have hu67 := Try.underlying67
  have hu71 := Try.underlying71
  have HR0_3 := Aside0.mk hr0_3
  have HC0_3 := Aside0.mk hc0_3
  clear hr0_3 hc0_3
  have HB := Aside0.mk (Below.refl w.heap.size w)
  have H : ((wogglelaw09_Deal_made.f k a0_0 a0_1 a0_2 l0_3).bind fun bt644 => (if bt644.1 < 2 then ((wogglelaw09_lives.f k).bind fun t652 => (some t652)) else (if bt644.1 = 0 then (none) else ((some (([] : List (S71)) : List (S71))).bind fun y653 => (if y653.length + bt644.2.2.1.length < 8796093022208 then ((some (y653 ++ bt644.2.2.1 : List (S71))).bind fun y656 => (if (wrap64 (bt644.1 - 1)) = 0 then (none) else ((some (([(⟨Int.tmod (wrap64 (a1_0)) bt644.1, Int.tmod (wrap64 ((wrap64 ((Int.tmod (wrap64 (a1_0)) bt644.1) + 1)) + (Int.tmod (wrap64 (a1_1)) (wrap64 (bt644.1 - 1))))) bt644.1⟩ : S71)] : List (S71)) : List (S71))).bind fun y659 => (if y656.length + y659.length < 8796093022208 then ((some (y656 ++ y659 : List (S71))).bind fun y662 => ((woggleref09_Sees.f k bt644.1 bt644.2.2.1).bind fun t665 => ((woggleref09_Sees.f k bt644.1 y662).bind fun t668 => (wogglelaw09_HatMore.l0 k bt644.1 bt644.2.1 bt644.2.2.1 bt644.2.2.2 y662 t665 t668 (([] : List (List Int))) 0)))) else (none))))) else (none)))))) = some r := h
  clear h
  replace H := Option.bind_eq_some_iff.mp H
  obtain ⟨⟨t644, t645, t646, t649⟩, A30, H⟩ := H
  replace H : (if t644 < 2 then ((wogglelaw09_lives.f k).bind fun t652 => (some t652)) else (if t644 = 0 then (none) else ((some (([] : List (S71)) : List (S71))).bind fun y653 => (if y653.length + t646.length < 8796093022208 then ((some (y653 ++ t646 : List (S71))).bind fun y656 => (if (wrap64 (t644 - 1)) = 0 then (none) else ((some (([(⟨Int.tmod (wrap64 (a1_0)) t644, Int.tmod (wrap64 ((wrap64 ((Int.tmod (wrap64 (a1_0)) t644) + 1)) + (Int.tmod (wrap64 (a1_1)) (wrap64 (t644 - 1))))) t644⟩ : S71)] : List (S71)) : List (S71))).bind fun y659 => (if y656.length + y659.length < 8796093022208 then ((some (y656 ++ y659 : List (S71))).bind fun y662 => ((woggleref09_Sees.f k t644 t646).bind fun t665 => ((woggleref09_Sees.f k t644 y662).bind fun t668 => (wogglelaw09_HatMore.l0 k t644 t645 t646 t649 y662 t665 t668 (([] : List (List Int))) 0)))) else (none))))) else (none))))) = some r := H
  have A3 := Aside0.mk A30
  clear A30
  by_cases c4 : t644 < 2
  · rw [if_pos c4] at H
    have c4b0 : decide (t644 < 2) = true := decide_eq_true c4
    clear c4
    replace H := Option.bind_eq_some_iff.mp H
    obtain ⟨t652, A50, H⟩ := H
    replace H : (some t652) = some r := H
    have A5 := Aside0.mk A50
    clear A50
    obtain rfl := Option.some.inj H
    go_enter Try.func12, Try.ntmps12
    go_wp2_with (first | ((with_reducible refine gate_dst (N := 2) rfl ?_); refine box_event ?hg (N := 2) ?hd (cs := #[.int .u8 a0_0, .int .u8 a0_1, .int .u8 a0_2, .slice A0_3 l0_3.length c0_3]) (t := 66) ?hr ?_; (case hd => rfl); (case hg => rfl); (case hr => first | (go_simp; done) | (go_simp; rfl)); intro gb642 hg w6 hbox hb; have n0_ := Aside0.mk (below_step (by repeat (first | (with_reducible first | exact HB.out | apply below_alloc | apply pw_below_drewN | apply below_drew1) | exact HB.out)) hb); have n1_ := Aside0.mk (hbox); have n2_ := Aside0.mk ((by rw [hg]; exact (below_size (by repeat (first | (with_reducible first | exact HB.out | apply below_alloc | apply pw_below_drewN | apply below_drew1) | exact HB.out))) : w.heap.size ≤ gb642)); have n3_ := Aside0.mk ((by rw [hg]; exact (below_size (by repeat (first | (with_reducible first | exact HB.out | apply below_alloc | apply pw_below_drewN | apply below_drew1) | exact HB.out))) : w.heap.size ≤ gb642)); clear HB; have HB := n0_; have BK642 := n1_; have GW642 := n2_; have GE642 := n3_; clear n0_ n1_ n2_ n3_; clear hb hbox hg) | ((with_reducible refine gate_dst (N := 3) rfl ?_); refine box_event ?hg (N := 3) ?hd (cs := #[.int .u8 a1_0, .int .u8 a1_1]) (t := 67) ?hr ?_; (case hd => rfl); (case hg => rfl); (case hr => first | (go_simp; done) | (go_simp; rfl)); intro gb643 hg w7 hbox hb; have n0_ := Aside0.mk (blk_below (g := gb642) (o := .cells #[.int .u8 a0_0, .int .u8 a0_1, .int .u8 a0_2, .slice A0_3 l0_3.length c0_3] 66 (0, 0)) (by (with_reducible repeat (first | refine blk_drewN ?_ _ | refine blk_drew ?_ | refine blk_alloc ?_ _)); exact BK642.out) hb); have n1_ := Aside0.mk (below_step (by repeat (first | (with_reducible first | exact HB.out | apply below_alloc | apply pw_below_drewN | apply below_drew1 | refine below_set ?_ GE642.out) | exact HB.out)) hb); have n2_ := Aside0.mk (hbox); have n3_ := Aside0.mk ((by rw [hg]; exact (below_size (by repeat (first | (with_reducible first | exact HB.out | apply below_alloc | apply pw_below_drewN | apply below_drew1 | refine below_set ?_ GE642.out) | exact HB.out))) : w.heap.size ≤ gb643)); have n4_ := Aside0.mk ((by rw [hg]; exact (below_size (by repeat (first | (with_reducible first | exact HB.out | apply below_alloc | apply pw_below_drewN | apply below_drew1 | refine below_set ?_ GE642.out) | exact HB.out))) : w.heap.size ≤ gb643)); have n5_ := Aside0.mk ((by rw [hg]; exact Nat.ne_of_lt (blk_lt (g := gb642) (o := .cells #[.int .u8 a0_0, .int .u8 a0_1, .int .u8 a0_2, .slice A0_3 l0_3.length c0_3] 66 (0, 0)) (by (with_reducible repeat (first | refine blk_drewN ?_ _ | refine blk_drew ?_ | refine blk_alloc ?_ _)); exact BK642.out)) : gb642 ≠ gb643)); have n6_ := Aside0.mk ((by rw [hg]; exact Nat.ne_of_gt (blk_lt (g := gb642) (o := .cells #[.int .u8 a0_0, .int .u8 a0_1, .int .u8 a0_2, .slice A0_3 l0_3.length c0_3] 66 (0, 0)) (by (with_reducible repeat (first | refine blk_drewN ?_ _ | refine blk_drew ?_ | refine blk_alloc ?_ _)); exact BK642.out)) : gb643 ≠ gb642)); clear BK642; clear HB; have BK642 := n0_; have HB := n1_; have BK643 := n2_; have GW643 := n3_; have GE643 := n4_; have NB642_643 := n5_; have NB643_642 := n6_; clear n0_ n1_ n2_ n3_ n4_ n5_ n6_; clear hb hbox hg; have hnb8 := NB642_643.out; have hnc8 := NB643_642.out; have hcz9_0 : w7.cell? ⟨gb642, 0, none⟩ = some (.int .u8 a0_0) := (blk_cell BK642.out 0).trans rfl; have hcz9_1 : w7.cell? ⟨gb642, 1, none⟩ = some (.int .u8 a0_1) := (blk_cell BK642.out 1).trans rfl; have hcz9_2 : w7.cell? ⟨gb642, 2, none⟩ = some (.int .u8 a0_2) := (blk_cell BK642.out 2).trans rfl; have hcz9_3 : w7.cell? ⟨gb642, 3, none⟩ = some (.slice A0_3 l0_3.length c0_3) := (blk_cell BK642.out 3).trans rfl; have hfz9_0 := blk_frozen BK642.out 0; have hfz9_1 := blk_frozen BK642.out 1; have hfz9_2 := blk_frozen BK642.out 2; have hfz9_3 := blk_frozen BK642.out 3) | ((with_reducible refine gate_callee (f := 44) rfl ?_); refine goesL_ (some 28) rfl rfl Try.func44 (by kernel_rfl) rfl #[.agg #[.int .u8 a0_0, .int .u8 a0_1, .int .u8 a0_2, .slice A0_3 l0_3.length c0_3]] rfl (by (try simp only [List.map_toArray, List.map_cons, List.map_nil]); first | done | rfl | (simp only [List.length_drop, List.length_take]; rfl)) ?_; (with_reducible refine (wogglelaw09_Deal_made.calls k a0_0 a0_1 a0_2 _ _ l0_3 t644 t645 t646 t649 _ ?side1 ?side2 A3.out).mono ?_); (case side1 => repeat (first | exact (Kd.C_below HR0_3.out HB.out) | (with_reducible refine Kd.C_alloc ?_ _) | (with_reducible refine Kd.C_drewN ?_ _) | (with_reducible refine Kd.C_drew ?_))); (case side2 => exact HC0_3.out); rintro e w10 ⟨v647, v650, rfl, ho0, ho1, hb⟩; refine ⟨_, rfl, ?_⟩; have n0_ := Aside0.mk (Kd.R_lower ho0 (below_size (by repeat (first | (with_reducible first | exact HB.out | apply below_alloc | apply pw_below_drewN | apply below_drew1 | refine below_set ?_ GE642.out | refine below_set ?_ GE643.out) | exact HB.out)))); have n1_ := Aside0.mk (Kd.N_lower (Kd.N_mono (ok' := fun k_ => some k_ ≠ (v647 : Value).ownBlock ∧ k_ ≠ gb642 ∧ k_ ≠ gb643) (Kd.S_N (Kd.S_bound (Kd.S_apart' ho1 (Kd.R_typed ho0) (by decide)))) (fun k_ hk_ => ⟨hk_.1.2, (Kd.freshB (g := gb642) (o := .cells #[.int .u8 a0_0, .int .u8 a0_1, .int .u8 a0_2, .slice A0_3 l0_3.length c0_3] 66 (0, 0)) (by (with_reducible repeat (first | refine blk_drewN ?_ _ | refine blk_drew ?_ | refine blk_alloc ?_ _)); exact BK642.out) k_ hk_.2.1), (Kd.freshB (g := gb643) (o := .cells #[.int .u8 a1_0, .int .u8 a1_1] 67 (0, 0)) (by (with_reducible repeat (first | refine blk_drewN ?_ _ | refine blk_drew ?_ | refine blk_alloc ?_ _)); exact BK643.out) k_ hk_.2.1)⟩)) (below_size (by repeat (first | (with_reducible first | exact HB.out | apply below_alloc | apply pw_below_drewN | apply below_drew1 | refine below_set ?_ GE642.out | refine below_set ?_ GE643.out) | exact HB.out)))); have n2_ := Aside0.mk (blk_below (g := gb642) (o := .cells #[.int .u8 a0_0, .int .u8 a0_1, .int .u8 a0_2, .slice A0_3 l0_3.length c0_3] 66 (0, 0)) (by (with_reducible repeat (first | refine blk_drewN ?_ _ | refine blk_drew ?_ | refine blk_alloc ?_ _)); exact BK642.out) hb); have n3_ := Aside0.mk (blk_below (g := gb643) (o := .cells #[.int .u8 a1_0, .int .u8 a1_1] 67 (0, 0)) (by (with_reducible repeat (first | refine blk_drewN ?_ _ | refine blk_drew ?_ | refine blk_alloc ?_ _)); exact BK643.out) hb); have n4_ := Aside0.mk (below_step (by repeat (first | (with_reducible first | exact HB.out | apply below_alloc | apply pw_below_drewN | apply below_drew1 | refine below_set ?_ GE642.out | refine below_set ?_ GE643.out) | exact HB.out)) hb); clear BK642; clear BK643; clear HB; have HO648 := n0_; have HO651 := n1_; have BK642 := n2_; have BK643 := n3_; have HB := n4_; clear n0_ n1_ n2_ n3_ n4_; (try clear hb); (try clear hb2); (try clear hk); (try clear hi); (try clear ho0); (try clear ho1)) | ((with_reducible refine gate_callee (f := 20) rfl ?_); refine goesL_ (some 35) rfl rfl Try.func20 (by kernel_rfl) rfl #[] rfl (by (try simp only [List.map_toArray, List.map_cons, List.map_nil]); first | done | rfl | (simp only [List.length_drop, List.length_take]; rfl)) ?_; (with_reducible refine (wogglelaw09_lives.calls k  t652 _ A5.out).mono ?_); rintro e w11 ⟨rfl, hb⟩; refine ⟨_, rfl, ?_⟩; have n0_ := Aside0.mk (Kd.R_below (by (with_reducible repeat (first | apply Kd.R_alloc | apply Kd.R_drewN | apply Kd.R_drew)); exact HO648.out) hb); have n1_ := Aside0.mk (Kd.N_below (by (with_reducible repeat (first | apply Kd.N_alloc | apply Kd.N_drewN | apply Kd.N_drew)); exact HO651.out) hb); have n2_ := Aside0.mk (blk_below (g := gb642) (o := .cells #[.int .u8 a0_0, .int .u8 a0_1, .int .u8 a0_2, .slice A0_3 l0_3.length c0_3] 66 (0, 0)) (by (with_reducible repeat (first | refine blk_drewN ?_ _ | refine blk_drew ?_ | refine blk_alloc ?_ _)); exact BK642.out) hb); have n3_ := Aside0.mk (blk_below (g := gb643) (o := .cells #[.int .u8 a1_0, .int .u8 a1_1] 67 (0, 0)) (by (with_reducible repeat (first | refine blk_drewN ?_ _ | refine blk_drew ?_ | refine blk_alloc ?_ _)); exact BK643.out) hb); have n4_ := Aside0.mk (below_step (by repeat (first | (with_reducible first | exact HB.out | apply below_alloc | apply pw_below_drewN | apply below_drew1 | refine below_set ?_ GE642.out | refine below_set ?_ GE643.out) | exact HB.out)) hb); clear HO648; clear HO651; clear BK642; clear BK643; clear HB; have HO648 := n0_; have HO651 := n1_; have BK642 := n2_; have BK643 := n3_; have HB := n4_; clear n0_ n1_ n2_ n3_ n4_; (try clear hb); (try clear hb2); (try clear hk); (try clear hi)))
    go_ret
    exact ⟨by first | rfl | (simp [errW_none, errW_some] <;> rfl) | (simp [*, errW_none, errW_some] <;> rfl), by repeat (first | (with_reducible first | exact HB.out | apply below_alloc | apply pw_below_drewN | apply below_drew1 | refine below_set ?_ GE642.out | refine below_set ?_ GE643.out) | exact HB.out)⟩
  · rw [if_neg c4] at H
    have c4b0 : decide (t644 < 2) = false := decide_eq_false c4
    clear c4
    by_cases c12 : t644 = 0
    · rw [if_pos c12] at H
      exact absurd H (by simp)
    · rw [if_neg c12] at H
      have c12b0 : (t644 == 0) = false := beq_eq_false_iff_ne.mpr c12
      have c12b1 : (t644 != 0) = true := bne_iff_ne.mpr c12
      obtain ⟨y653, hy653⟩ : ∃ y_ : List (S71), y_ = (([] : List (S71))) := ⟨_, rfl⟩
      replace H : (if y653.length + t646.length < 8796093022208 then ((some (y653 ++ t646 : List (S71))).bind fun y656 => (if (wrap64 (t644 - 1)) = 0 then (none) else ((some (([(⟨Int.tmod (wrap64 (a1_0)) t644, Int.tmod (wrap64 ((wrap64 ((Int.tmod (wrap64 (a1_0)) t644) + 1)) + (Int.tmod (wrap64 (a1_1)) (wrap64 (t644 - 1))))) t644⟩ : S71)] : List (S71)) : List (S71))).bind fun y659 => (if y656.length + y659.length < 8796093022208 then ((some (y656 ++ y659 : List (S71))).bind fun y662 => ((woggleref09_Sees.f k t644 t646).bind fun t665 => ((woggleref09_Sees.f k t644 y662).bind fun t668 => (wogglelaw09_HatMore.l0 k t644 t645 t646 t649 y662 t665 t668 (([] : List (List Int))) 0)))) else (none))))) else (none)) = some r := by first | (rw [hy653]; with_reducible exact H) | (have H2_ := (Option.bind_some _ _).symm.trans H; rw [hy653]; with_reducible exact H2_) | (have H2_ := (Option.bind_some _ _).symm.trans H; with_reducible exact H2_) | with_reducible exact H | (rw [hy653]; exact H) | exact H
      have Ny653 := Aside0.mk hy653
      clear hy653
      by_cases c13 : y653.length + t646.length < 8796093022208
      · rw [if_pos c13] at H
        have LMc13 := Aside0.mk c13
        clear c13
        obtain ⟨y656, hy656⟩ : ∃ y_ : List (S71), y_ = (y653 ++ t646) := ⟨_, rfl⟩
        replace H : (if (wrap64 (t644 - 1)) = 0 then (none) else ((some (([(⟨Int.tmod (wrap64 (a1_0)) t644, Int.tmod (wrap64 ((wrap64 ((Int.tmod (wrap64 (a1_0)) t644) + 1)) + (Int.tmod (wrap64 (a1_1)) (wrap64 (t644 - 1))))) t644⟩ : S71)] : List (S71)) : List (S71))).bind fun y659 => (if y656.length + y659.length < 8796093022208 then ((some (y656 ++ y659 : List (S71))).bind fun y662 => ((woggleref09_Sees.f k t644 t646).bind fun t665 => ((woggleref09_Sees.f k t644 y662).bind fun t668 => (wogglelaw09_HatMore.l0 k t644 t645 t646 t649 y662 t665 t668 (([] : List (List Int))) 0)))) else (none)))) = some r := by first | (rw [hy656]; with_reducible exact H) | (have H2_ := (Option.bind_some _ _).symm.trans H; rw [hy656]; with_reducible exact H2_) | (have H2_ := (Option.bind_some _ _).symm.trans H; with_reducible exact H2_) | with_reducible exact H | (rw [hy656]; exact H) | exact H
        have Ny656 := Aside0.mk hy656
        clear hy656
        by_cases c14 : (wrap64 (t644 - 1)) = 0
        · rw [if_pos c14] at H
          exact absurd H (by simp)
        · rw [if_neg c14] at H
          have c14b0 : ((wrap64 (t644 - 1)) == 0) = false := beq_eq_false_iff_ne.mpr c14
          have c14b1 : ((wrap64 (t644 - 1)) != 0) = true := bne_iff_ne.mpr c14
          obtain ⟨y659, hy659⟩ : ∃ y_ : List (S71), y_ = (([(⟨Int.tmod (wrap64 (a1_0)) t644, Int.tmod (wrap64 ((wrap64 ((Int.tmod (wrap64 (a1_0)) t644) + 1)) + (Int.tmod (wrap64 (a1_1)) (wrap64 (t644 - 1))))) t644⟩ : S71)] : List (S71))) := ⟨_, rfl⟩
          replace H : (if y656.length + y659.length < 8796093022208 then ((some (y656 ++ y659 : List (S71))).bind fun y662 => ((woggleref09_Sees.f k t644 t646).bind fun t665 => ((woggleref09_Sees.f k t644 y662).bind fun t668 => (wogglelaw09_HatMore.l0 k t644 t645 t646 t649 y662 t665 t668 (([] : List (List Int))) 0)))) else (none)) = some r := by first | (rw [hy659]; with_reducible exact H) | (have H2_ := (Option.bind_some _ _).symm.trans H; rw [hy659]; with_reducible exact H2_) | (have H2_ := (Option.bind_some _ _).symm.trans H; with_reducible exact H2_) | with_reducible exact H | (rw [hy659]; exact H) | exact H
          have Ny659 := Aside0.mk hy659
          clear hy659
          by_cases c15 : y656.length + y659.length < 8796093022208
          · rw [if_pos c15] at H
            have LMc15 := Aside0.mk c15
            clear c15
            obtain ⟨y662, hy662⟩ : ∃ y_ : List (S71), y_ = (y656 ++ y659) := ⟨_, rfl⟩
            replace H : ((woggleref09_Sees.f k t644 t646).bind fun t665 => ((woggleref09_Sees.f k t644 y662).bind fun t668 => (wogglelaw09_HatMore.l0 k t644 t645 t646 t649 y662 t665 t668 (([] : List (List Int))) 0))) = some r := by first | (rw [hy662]; with_reducible exact H) | (have H2_ := (Option.bind_some _ _).symm.trans H; rw [hy662]; with_reducible exact H2_) | (have H2_ := (Option.bind_some _ _).symm.trans H; with_reducible exact H2_) | with_reducible exact H | (rw [hy662]; exact H) | exact H
            have Ny662 := Aside0.mk hy662
            clear hy662
            replace H := Option.bind_eq_some_iff.mp H
            obtain ⟨t665, A160, H⟩ := H
            replace H : ((woggleref09_Sees.f k t644 y662).bind fun t668 => (wogglelaw09_HatMore.l0 k t644 t645 t646 t649 y662 t665 t668 (([] : List (List Int))) 0)) = some r := H
            have A16 := Aside0.mk A160
            clear A160
            replace H := Option.bind_eq_some_iff.mp H
            obtain ⟨t668, A170, H⟩ := H
            replace H : (wogglelaw09_HatMore.l0 k t644 t645 t646 t649 y662 t665 t668 (([] : List (List Int))) 0) = some r := H
            have A17 := Aside0.mk A170
            clear A170
            obtain ⟨y671, hy671⟩ : ∃ y_ : List (List Int), y_ = (([] : List (List Int))) := ⟨_, rfl⟩
            replace H : (wogglelaw09_HatMore.l0 k t644 t645 t646 t649 y662 t665 t668 y671 0) = some r := by first | (rw [hy671]; with_reducible exact H) | (have H2_ := (Option.bind_some _ _).symm.trans H; rw [hy671]; with_reducible exact H2_) | (have H2_ := (Option.bind_some _ _).symm.trans H; with_reducible exact H2_) | with_reducible exact H | (rw [hy671]; exact H) | exact H
            have Ny671 := Aside0.mk hy671
            clear hy671
            have H' := Aside0.mk H
            clear H
            go_enter Try.func12, Try.ntmps12
            try go_wp2_with (first | ((with_reducible refine gate_dst (N := 2) rfl ?_); refine box_event ?hg (N := 2) ?hd (cs := #[.int .u8 a0_0, .int .u8 a0_1, .int .u8 a0_2, .slice A0_3 l0_3.length c0_3]) (t := 66) ?hr ?_; (case hd => rfl); (case hg => rfl); (case hr => first | (go_simp; done) | (go_simp; rfl)); intro gb642 hg w18 hbox hb; have n0_ := Aside0.mk (below_step (by repeat (first | (with_reducible first | exact HB.out | apply below_alloc | apply pw_below_drewN | apply below_drew1) | exact HB.out)) hb); have n1_ := Aside0.mk (hbox); have n2_ := Aside0.mk ((by rw [hg]; exact (below_size (by repeat (first | (with_reducible first | exact HB.out | apply below_alloc | apply pw_below_drewN | apply below_drew1) | exact HB.out))) : w.heap.size ≤ gb642)); have n3_ := Aside0.mk ((by rw [hg]; exact (below_size (by repeat (first | (with_reducible first | exact HB.out | apply below_alloc | apply pw_below_drewN | apply below_drew1) | exact HB.out))) : w.heap.size ≤ gb642)); clear HB; have HB := n0_; have BK642 := n1_; have GW642 := n2_; have GE642 := n3_; clear n0_ n1_ n2_ n3_; clear hb hbox hg) | ((with_reducible refine gate_dst (N := 3) rfl ?_); refine box_event ?hg (N := 3) ?hd (cs := #[.int .u8 a1_0, .int .u8 a1_1]) (t := 67) ?hr ?_; (case hd => rfl); (case hg => rfl); (case hr => first | (go_simp; done) | (go_simp; rfl)); intro gb643 hg w19 hbox hb; have n0_ := Aside0.mk (blk_below (g := gb642) (o := .cells #[.int .u8 a0_0, .int .u8 a0_1, .int .u8 a0_2, .slice A0_3 l0_3.length c0_3] 66 (0, 0)) (by (with_reducible repeat (first | refine blk_drewN ?_ _ | refine blk_drew ?_ | refine blk_alloc ?_ _)); exact BK642.out) hb); have n1_ := Aside0.mk (below_step (by repeat (first | (with_reducible first | exact HB.out | apply below_alloc | apply pw_below_drewN | apply below_drew1 | refine below_set ?_ GE642.out) | exact HB.out)) hb); have n2_ := Aside0.mk (hbox); have n3_ := Aside0.mk ((by rw [hg]; exact (below_size (by repeat (first | (with_reducible first | exact HB.out | apply below_alloc | apply pw_below_drewN | apply below_drew1 | refine below_set ?_ GE642.out) | exact HB.out))) : w.heap.size ≤ gb643)); have n4_ := Aside0.mk ((by rw [hg]; exact (below_size (by repeat (first | (with_reducible first | exact HB.out | apply below_alloc | apply pw_below_drewN | apply below_drew1 | refine below_set ?_ GE642.out) | exact HB.out))) : w.heap.size ≤ gb643)); have n5_ := Aside0.mk ((by rw [hg]; exact Nat.ne_of_lt (blk_lt (g := gb642) (o := .cells #[.int .u8 a0_0, .int .u8 a0_1, .int .u8 a0_2, .slice A0_3 l0_3.length c0_3] 66 (0, 0)) (by (with_reducible repeat (first | refine blk_drewN ?_ _ | refine blk_drew ?_ | refine blk_alloc ?_ _)); exact BK642.out)) : gb642 ≠ gb643)); have n6_ := Aside0.mk ((by rw [hg]; exact Nat.ne_of_gt (blk_lt (g := gb642) (o := .cells #[.int .u8 a0_0, .int .u8 a0_1, .int .u8 a0_2, .slice A0_3 l0_3.length c0_3] 66 (0, 0)) (by (with_reducible repeat (first | refine blk_drewN ?_ _ | refine blk_drew ?_ | refine blk_alloc ?_ _)); exact BK642.out)) : gb643 ≠ gb642)); clear BK642; clear HB; have BK642 := n0_; have HB := n1_; have BK643 := n2_; have GW643 := n3_; have GE643 := n4_; have NB642_643 := n5_; have NB643_642 := n6_; clear n0_ n1_ n2_ n3_ n4_ n5_ n6_; clear hb hbox hg; have hnb20 := NB642_643.out; have hnc20 := NB643_642.out; have hcz21_0 : w19.cell? ⟨gb642, 0, none⟩ = some (.int .u8 a0_0) := (blk_cell BK642.out 0).trans rfl; have hcz21_1 : w19.cell? ⟨gb642, 1, none⟩ = some (.int .u8 a0_1) := (blk_cell BK642.out 1).trans rfl; have hcz21_2 : w19.cell? ⟨gb642, 2, none⟩ = some (.int .u8 a0_2) := (blk_cell BK642.out 2).trans rfl; have hcz21_3 : w19.cell? ⟨gb642, 3, none⟩ = some (.slice A0_3 l0_3.length c0_3) := (blk_cell BK642.out 3).trans rfl; have hfz21_0 := blk_frozen BK642.out 0; have hfz21_1 := blk_frozen BK642.out 1; have hfz21_2 := blk_frozen BK642.out 2; have hfz21_3 := blk_frozen BK642.out 3) | ((with_reducible refine gate_callee (f := 44) rfl ?_); refine goesL_ (some 28) rfl rfl Try.func44 (by kernel_rfl) rfl #[.agg #[.int .u8 a0_0, .int .u8 a0_1, .int .u8 a0_2, .slice A0_3 l0_3.length c0_3]] rfl (by (try simp only [List.map_toArray, List.map_cons, List.map_nil]); first | done | rfl | (simp only [List.length_drop, List.length_take]; rfl)) ?_; (with_reducible refine (wogglelaw09_Deal_made.calls k a0_0 a0_1 a0_2 _ _ l0_3 t644 t645 t646 t649 _ ?side1 ?side2 A3.out).mono ?_); (case side1 => repeat (first | exact (Kd.C_below HR0_3.out HB.out) | (with_reducible refine Kd.C_alloc ?_ _) | (with_reducible refine Kd.C_drewN ?_ _) | (with_reducible refine Kd.C_drew ?_))); (case side2 => exact HC0_3.out); rintro e w22 ⟨v647, v650, rfl, ho0, ho1, hb⟩; refine ⟨_, rfl, ?_⟩; have n0_ := Aside0.mk (Kd.R_lower ho0 (below_size (by repeat (first | (with_reducible first | exact HB.out | apply below_alloc | apply pw_below_drewN | apply below_drew1 | refine below_set ?_ GE642.out | refine below_set ?_ GE643.out) | exact HB.out)))); have n1_ := Aside0.mk (Kd.N_lower (Kd.N_mono (ok' := fun k_ => some k_ ≠ (v647 : Value).ownBlock ∧ k_ ≠ gb642 ∧ k_ ≠ gb643) (Kd.S_N (Kd.S_bound (Kd.S_apart' ho1 (Kd.R_typed ho0) (by decide)))) (fun k_ hk_ => ⟨hk_.1.2, (Kd.freshB (g := gb642) (o := .cells #[.int .u8 a0_0, .int .u8 a0_1, .int .u8 a0_2, .slice A0_3 l0_3.length c0_3] 66 (0, 0)) (by (with_reducible repeat (first | refine blk_drewN ?_ _ | refine blk_drew ?_ | refine blk_alloc ?_ _)); exact BK642.out) k_ hk_.2.1), (Kd.freshB (g := gb643) (o := .cells #[.int .u8 a1_0, .int .u8 a1_1] 67 (0, 0)) (by (with_reducible repeat (first | refine blk_drewN ?_ _ | refine blk_drew ?_ | refine blk_alloc ?_ _)); exact BK643.out) k_ hk_.2.1)⟩)) (below_size (by repeat (first | (with_reducible first | exact HB.out | apply below_alloc | apply pw_below_drewN | apply below_drew1 | refine below_set ?_ GE642.out | refine below_set ?_ GE643.out) | exact HB.out)))); have n2_ := Aside0.mk (blk_below (g := gb642) (o := .cells #[.int .u8 a0_0, .int .u8 a0_1, .int .u8 a0_2, .slice A0_3 l0_3.length c0_3] 66 (0, 0)) (by (with_reducible repeat (first | refine blk_drewN ?_ _ | refine blk_drew ?_ | refine blk_alloc ?_ _)); exact BK642.out) hb); have n3_ := Aside0.mk (blk_below (g := gb643) (o := .cells #[.int .u8 a1_0, .int .u8 a1_1] 67 (0, 0)) (by (with_reducible repeat (first | refine blk_drewN ?_ _ | refine blk_drew ?_ | refine blk_alloc ?_ _)); exact BK643.out) hb); have n4_ := Aside0.mk (below_step (by repeat (first | (with_reducible first | exact HB.out | apply below_alloc | apply pw_below_drewN | apply below_drew1 | refine below_set ?_ GE642.out | refine below_set ?_ GE643.out) | exact HB.out)) hb); clear BK642; clear BK643; clear HB; have HO648 := n0_; have HO651 := n1_; have BK642 := n2_; have BK643 := n3_; have HB := n4_; clear n0_ n1_ n2_ n3_ n4_; (try clear hb); (try clear hb2); (try clear hk); (try clear hi); (try clear ho0); (try clear ho1); have hcz23_0 : w22.cell? ⟨gb643, 0, none⟩ = some (.int .u8 a1_0) := (blk_cell BK643.out 0).trans rfl; have hcz23_1 : w22.cell? ⟨gb643, 1, none⟩ = some (.int .u8 a1_1) := (blk_cell BK643.out 1).trans rfl; have hfz23_0 := blk_frozen BK643.out 0; have hfz23_1 := blk_frozen BK643.out 1; obtain ⟨Ao24, co24, eo24⟩ := Kd.R_slice HO648.out; subst eo24))
            have n0_ := Aside0.mk (Kd.R_drew HO648.out)
            have n1_ := Aside0.mk (Kd.N_drew HO651.out)
            have n2_ := Aside0.mk (blk_drew BK642.out)
            have n3_ := Aside0.mk (blk_drew BK643.out)
            have n4_ := Aside0.mk (below_drew1 HB.out)
            clear HO648
            clear HO651
            clear BK642
            clear BK643
            clear HB
            have HO648 := n0_
            have HO651 := n1_
            have BK642 := n2_
            have BK643 := n3_
            have HB := n4_
            clear n0_ n1_ n2_ n3_ n4_
            refine start_ (n := 19) (S := fun w' => w'.cell? ⟨gb643, 0, none⟩ = some (.int .u8 a1_0) ∧ w'.cell? ⟨gb643, 1, none⟩ = some (.int .u8 a1_1)) (ds := []) #[false, false, false, false, false, false, false, false, false, false, false, false, false, false, false, false, false, false, false] (by kernel_rfl) rfl rfl ⟨(blk_cell BK643.out 0).trans rfl, (blk_cell BK643.out 1).trans rfl⟩ (fun hHeld => ?_); refine with_tabW wogglelaw09_HatMore.tab5 wogglelaw09_HatMore.bits5 (fun HT_ HW_ => ?_)
            generalize w22.drew = w25 at HO648 HO651 BK642 BK643 HB hHeld ⊢
            refine pure_ (i := 1) (N := some 42) (v := ?_) (a' := ?_) #[false, true, false, false, false, false, false, false, false, false, false, false, false, false, false, false, false, false, false] rfl rfl (any_of HT_.out (by kernel_rfl)) (fun _ _ _ h => h) (Or.inl ⟨by rfl, ?_⟩) ?_ ?_
            rotate_left
            · intro w'
              go_simp
              with_reducible rfl
            rotate_left
            · simp only [Act.put, List.setIfInBounds_toArray, List.set_cons_zero, List.set_cons_succ, i64_w, i32_w]
              rfl
            refine pure_ (i := 3) (N := some 44) (v := ?_) (a' := ?_) #[false, true, false, true, false, false, false, false, false, false, false, false, false, false, false, false, false, false, false] rfl rfl (any_of HT_.out (by kernel_rfl)) (fun _ _ _ h => h) (Or.inl ⟨by rfl, ?_⟩) ?_ ?_
            rotate_left
            · intro w'
              go_simp
              with_reducible rfl
            rotate_left
            · simp only [Act.put, List.setIfInBounds_toArray, List.set_cons_zero, List.set_cons_succ, i64_w, i32_w]
              rfl
            refine pure_ (i := 4) (N := some 45) (v := ?_) (a' := ?_) #[false, true, false, true, true, false, false, false, false, false, false, false, false, false, false, false, false, false, false] rfl rfl (any_of HT_.out (by kernel_rfl)) (fun _ _ _ h => h) (Or.inl ⟨by rfl, ?_⟩) ?_ ?_
            rotate_left
            · intro w'
              go_simp
              with_reducible rfl
            rotate_left
            · simp only [Act.put, List.setIfInBounds_toArray, List.set_cons_zero, List.set_cons_succ, i64_w, i32_w]
              rfl
            refine pure_ (i := 5) (N := some 46) (v := ?_) (a' := ?_) #[false, true, false, true, true, true, false, false, false, false, false, false, false, false, false, false, false, false, false] rfl rfl (any_of HT_.out (by kernel_rfl)) (fun _ _ _ h => h) (Or.inl ⟨by rfl, ?_⟩) ?_ ?_
            rotate_left
            · intro w'
              go_simp
              with_reducible rfl
            rotate_left
            · simp only [Act.put, List.setIfInBounds_toArray, List.set_cons_zero, List.set_cons_succ, i64_w, i32_w]
              rfl
            refine pure_ (i := 6) (N := some 47) (v := ?_) (a' := ?_) #[false, true, false, true, true, true, true, false, false, false, false, false, false, false, false, false, false, false, false] rfl rfl (any_of HT_.out (by kernel_rfl)) (fun _ _ _ h => h) (Or.inl ⟨by rfl, ?_⟩) ?_ ?_
            rotate_left
            · intro w'
              go_simp
              with_reducible rfl
            rotate_left
            · simp only [Act.put, List.setIfInBounds_toArray, List.set_cons_zero, List.set_cons_succ, i64_w, i32_w]
              rfl
            refine pure_ (i := 9) (N := some 50) (v := ?_) (a' := ?_) #[false, true, false, true, true, true, true, false, false, true, false, false, false, false, false, false, false, false, false] rfl rfl (any_of HT_.out (by kernel_rfl)) (fun _ _ _ h => h) (Or.inl ⟨by rfl, ?_⟩) ?_ ?_
            rotate_left
            · intro w'
              go_simp
              with_reducible rfl
            rotate_left
            · simp only [Act.put, List.setIfInBounds_toArray, List.set_cons_zero, List.set_cons_succ, i64_w, i32_w]
              rfl
            refine pure_ (i := 10) (N := some 51) (v := ?_) (a' := ?_) #[false, true, false, true, true, true, true, false, false, true, true, false, false, false, false, false, false, false, false] rfl rfl (any_of HT_.out (by kernel_rfl)) (fun _ _ _ h => h) (Or.inl ⟨by rfl, ?_⟩) ?_ ?_
            rotate_left
            · intro w'
              go_simp
              with_reducible rfl
            rotate_left
            · simp only [Act.put, List.setIfInBounds_toArray, List.set_cons_zero, List.set_cons_succ, i64_w, i32_w]
              rfl
            refine pure_ (i := 13) (N := some 54) (v := ?_) (a' := ?_) #[false, true, false, true, true, true, true, false, false, true, true, false, false, true, false, false, false, false, false] rfl rfl (any_of HT_.out (by kernel_rfl)) (fun _ _ _ h => h) (Or.inl ⟨by rfl, ?_⟩) ?_ ?_
            rotate_left
            · intro w'
              go_simp
              with_reducible rfl
            rotate_left
            · simp only [Act.put, List.setIfInBounds_toArray, List.set_cons_zero, List.set_cons_succ, i64_w, i32_w]
              rfl
            refine take_ (i := 7) (N := some 48) (v := ?_) (a' := ?_) #[false, true, false, true, true, true, true, true, false, true, true, false, false, true, false, false, false, false, false] rfl rfl (take_ofW HT_.out HW_.out (by kernel_rfl)) (fun _ _ _ h => h) (Or.inl ⟨by rfl, ?_⟩) hHeld ?_ ?_
            rotate_left
            · rintro w' ⟨s0, s1⟩
              go_simp
              with_reducible rfl
            rotate_left
            · simp only [Act.put, List.setIfInBounds_toArray, List.set_cons_zero, List.set_cons_succ, i64_w, i32_w]
              rfl
            refine pure_ (i := 8) (N := some 49) (v := ?_) (a' := ?_) #[false, true, false, true, true, true, true, true, true, true, true, false, false, true, false, false, false, false, false] rfl rfl (any_of HT_.out (by kernel_rfl)) (fun _ _ _ h => h) (Or.inl ⟨by rfl, ?_⟩) ?_ ?_
            rotate_left
            · intro w'
              go_simp
              with_reducible rfl
            rotate_left
            · simp only [Act.put, List.setIfInBounds_toArray, List.set_cons_zero, List.set_cons_succ, i64_w, i32_w]
              rfl
            refine pure_ (i := 11) (N := some 52) (v := ?_) (a' := ?_) #[false, true, false, true, true, true, true, true, true, true, true, true, false, true, false, false, false, false, false] rfl rfl (any_of HT_.out (by kernel_rfl)) (fun _ _ _ h => h) (Or.inl ⟨by rfl, ?_⟩) ?_ ?_
            rotate_left
            · intro w'
              go_simp
              with_reducible rfl
            rotate_left
            · simp only [Act.put, List.setIfInBounds_toArray, List.set_cons_zero, List.set_cons_succ, i64_w, i32_w]
              rfl
            refine pure_ (i := 12) (N := some 53) (v := ?_) (a' := ?_) #[false, true, false, true, true, true, true, true, true, true, true, true, true, true, false, false, false, false, false] rfl rfl (any_of HT_.out (by kernel_rfl)) (fun _ _ _ h => h) (Or.inl ⟨by rfl, ?_⟩) ?_ ?_
            rotate_left
            · intro w'
              go_simp
              with_reducible rfl
            rotate_left
            · simp only [Act.put, List.setIfInBounds_toArray, List.set_cons_zero, List.set_cons_succ, i64_w, i32_w]
              rfl
            refine pure_ (i := 14) (N := some 55) (v := ?_) (a' := ?_) #[false, true, false, true, true, true, true, true, true, true, true, true, true, true, true, false, false, false, false] rfl rfl (any_of HT_.out (by kernel_rfl)) (fun _ _ _ h => h) (Or.inl ⟨by rfl, ?_⟩) ?_ ?_
            rotate_left
            · intro w'
              go_simp
              with_reducible rfl
            rotate_left
            · simp only [Act.put, List.setIfInBounds_toArray, List.set_cons_zero, List.set_cons_succ, i64_w, i32_w]
              rfl
            refine pure_ (i := 15) (N := some 56) (v := ?_) (a' := ?_) #[false, true, false, true, true, true, true, true, true, true, true, true, true, true, true, true, false, false, false] rfl rfl (any_of HT_.out (by kernel_rfl)) (fun _ _ _ h => h) (Or.inl ⟨by rfl, ?_⟩) ?_ ?_
            rotate_left
            · intro w'
              go_simp
              with_reducible rfl
            rotate_left
            · simp only [Act.put, List.setIfInBounds_toArray, List.set_cons_zero, List.set_cons_succ, i64_w, i32_w]
              rfl
            refine join_ (σ := Value × Value × Value) 2 #[true, true, true, true, true, true, true, true, true, true, true, true, true, true, true, true, true, false, false] (fun s_ => [(41, s_.1), (43, s_.2.1), (57, s_.2.2)]) (fun s_ w' => (w'.cell? ⟨gb643, 0, none⟩ = some (.int .u8 a1_0) ∧ w'.cell? ⟨gb643, 1, none⟩ = some (.int .u8 a1_1)) ∧ (Kd.R k71 71 w' w.heap.size (fun k_ => some k_ ≠ (s_.2.1 : Value).ownBlock ∧ some k_ ≠ (s_.2.2 : Value).ownBlock) (.slice Ao24 t646.length co24) t646) ∧ (Kd.N (Kd.slice 3 (Kd.int .i64)) 37 w' w.heap.size (fun k_ => some k_ ≠ (.slice Ao24 t646.length co24 : Value).ownBlock ∧ some k_ ≠ (s_.2.1 : Value).ownBlock ∧ some k_ ≠ (s_.2.2 : Value).ownBlock ∧ k_ ≠ gb642 ∧ k_ ≠ gb643) v650 t649) ∧ (Kd.R k71 71 w' w.heap.size (fun k_ => some k_ ≠ (.slice Ao24 t646.length co24 : Value).ownBlock ∧ some k_ ≠ (s_.2.2 : Value).ownBlock) s_.2.1 y656) ∧ (Kd.R k71 71 w' w.heap.size (fun k_ => some k_ ≠ (.slice Ao24 t646.length co24 : Value).ownBlock ∧ some k_ ≠ (s_.2.1 : Value).ownBlock) s_.2.2 y659) ∧ (w'.heap[gb642]? = some (.cells #[.int .u8 a0_0, .int .u8 a0_1, .int .u8 a0_2, .slice A0_3 l0_3.length c0_3] 66 (0, 0))) ∧ (w'.heap[gb643]? = some (.cells #[.int .u8 a1_0, .int .u8 a1_1] 67 (0, 0))) ∧ (Below w.heap.size w w')) ?_ ?_
            rotate_left
            · intro hCont
              refine two_ (i := 0) (j := 16) (Ni := some 41) (Nj := some 57) #[true, true, false, true, true, true, true, true, true, true, true, true, true, true, true, true, false, false, false] #[false, true, false, true, true, true, true, true, true, true, true, true, true, true, true, true, true, false, false] rfl rfl rfl rfl (two_of HT_.out (by kernel_rfl)) (by decide) (by decide) (fun K hK => ?_) (fun K hK => ?_)
              · skip
                refine Kd.R_lit_step k71 _ 71 ?hg (N := 41) ?hd (xs := ([] : List (S71))) (inner := []) (ok := fun _ => True) (okp := fun _ => True) ?hr ?hp (fun _ hk => hk) trivial (Below.refl _ _) (Nat.le_refl _) (by simp) ?_; (case hd => rfl); (case hg => rfl); (case hr => first | (go_simp; done) | (go_simp; rfl)); (case hp => exact (Reps.none _ _))
                intro v654 w26 ho27 hb hg_ hnew_
                clear hg_ hnew_
                (first | rw [← Ny653.out] at ho27 | (simp only [Int.reduceToNat] at ho27; rw [← Ny653.out] at ho27))
                have n0_ := Aside0.mk (Kd.R_elder' (by (with_reducible repeat (first | apply Kd.R_alloc | apply Kd.R_drewN | apply Kd.R_drew)); exact HO648.out) (Kd.R_base ho27) hb)
                have n1_ := Aside0.mk (Kd.N_elder' (by (with_reducible repeat (first | apply Kd.N_alloc | apply Kd.N_drewN | apply Kd.N_drew)); exact HO651.out) (Kd.R_base ho27) hb)
                have n2_ := Aside0.mk (Kd.R_lower (Kd.R_new' ho27 (Kd.R_lt (by (with_reducible repeat (first | apply Kd.R_alloc | apply Kd.R_drewN | apply Kd.R_drew)); exact HO648.out))) (below_size (by repeat (first | (with_reducible first | exact HB.out | apply below_alloc | apply pw_below_drewN | apply below_drew1 | refine below_set ?_ GE642.out | refine below_set ?_ GE643.out) | exact HB.out))))
                have n3_ := Aside0.mk (blk_below (g := gb642) (o := .cells #[.int .u8 a0_0, .int .u8 a0_1, .int .u8 a0_2, .slice A0_3 l0_3.length c0_3] 66 (0, 0)) (by (with_reducible repeat (first | refine blk_drewN ?_ _ | refine blk_drew ?_ | refine blk_alloc ?_ _)); exact BK642.out) hb)
                have n4_ := Aside0.mk (blk_below (g := gb643) (o := .cells #[.int .u8 a1_0, .int .u8 a1_1] 67 (0, 0)) (by (with_reducible repeat (first | refine blk_drewN ?_ _ | refine blk_drew ?_ | refine blk_alloc ?_ _)); exact BK643.out) hb)
                have n5_ := Aside0.mk (below_step (by repeat (first | (with_reducible first | exact HB.out | apply below_alloc | apply pw_below_drewN | apply below_drew1 | refine below_set ?_ GE642.out | refine below_set ?_ GE643.out) | exact HB.out)) hb)
                clear HO648
                clear HO651
                clear BK642
                clear BK643
                clear HB
                have HO648 := n0_
                have HO651 := n1_
                have HO655 := n2_
                have BK642 := n3_
                have BK643 := n4_
                have HB := n5_
                clear n0_ n1_ n2_ n3_ n4_ n5_
                clear hb ho27
                refine hK.out _ _ ⟨(blk_cell BK643.out 0).trans rfl, (blk_cell BK643.out 1).trans rfl⟩ (fun hHeld => ?_)
                clear hK K
                refine norm_ (a' := ?_) ?_ ?_
                rotate_left
                · show Act.put _ (some 41) _ = _
                  simp only [Act.put, List.setIfInBounds_toArray, List.set_cons_zero, List.set_cons_succ, i64_w, i32_w]
                  rfl
                refine two_ (i := 2) (j := 16) (Ni := some 43) (Nj := some 57) #[true, true, true, true, true, true, true, true, true, true, true, true, true, true, true, true, false, false, false] #[true, true, false, true, true, true, true, true, true, true, true, true, true, true, true, true, true, false, false] rfl rfl rfl rfl (two_of HT_.out (by kernel_rfl)) (by decide) (by decide) (fun K hK => ?_) (fun K hK => ?_)
                · skip
                  refine Kd.R_append_rows_step k71 (w0 := w) w.heap.size (by rfl) (.tmp 41) (.tmp 42) 22 71 (.agg #[(.int .i64 0), (.int .i64 0)]) 16 rfl Try.underlying22 info71 rfl (by decide) (by omega) v654 y653 t646 _ _ _ (fun k_ => some k_ ≠ (.slice Ao24 t646.length co24 : Value).ownBlock) (fun _ => False) rfl rfl ?aO ?aR (fun _ _ h => h) (fun _ h => h.elim) ?aF ?aB ?aS ?aL ?_
                  (case aR => repeat (first | exact (Kd.R_reads' HO648.out).2.2 | (with_reducible refine Kd.C_alloc ?_ _) | (with_reducible refine Kd.C_drewN ?_ _) | (with_reducible refine Kd.C_drew ?_)))
                  (case aB => exact (by repeat (first | (with_reducible first | exact HB.out | apply below_alloc | apply pw_below_drewN | apply below_drew1 | refine below_set ?_ GE642.out | refine below_set ?_ GE643.out) | exact HB.out)))
                  (case aF => exact (fun k_ hk => Kd.fresh' (Kd.R_lt (by (with_reducible repeat (first | apply Kd.R_alloc | apply Kd.R_drewN | apply Kd.R_drew)); exact HO648.out)) k_ hk))
                  (case aO => exact (by (with_reducible repeat (first | apply Kd.R_alloc | apply Kd.R_drewN | apply Kd.R_drew)); exact Kd.R_mono HO655.out (fun _ hk => hk.2)))
                  (case aS => exact (below_size (by repeat (first | (with_reducible first | exact HB.out | apply below_alloc | apply pw_below_drewN | apply below_drew1 | refine below_set ?_ GE642.out | refine below_set ?_ GE643.out) | exact HB.out))))
                  (case aL => have := LMc13.out; omega)
                  intro v657 w28 ho hb hg hat
                  rw [← Ny656.out] at ho
                  have n0_ := Aside0.mk (blk_grown (g := gb642) (o := .cells #[.int .u8 a0_0, .int .u8 a0_1, .int .u8 a0_2, .slice A0_3 l0_3.length c0_3] 66 (0, 0)) (by (with_reducible repeat (first | refine blk_drewN ?_ _ | refine blk_drew ?_ | refine blk_alloc ?_ _)); exact BK642.out) hg (Kd.R_ne HO655.out BK642.out (by decide)))
                  have n1_ := Aside0.mk (blk_grown (g := gb643) (o := .cells #[.int .u8 a1_0, .int .u8 a1_1] 67 (0, 0)) (by (with_reducible repeat (first | refine blk_drewN ?_ _ | refine blk_drew ?_ | refine blk_alloc ?_ _)); exact BK643.out) hg (Kd.R_ne HO655.out BK643.out (by decide)))
                  have n2_ := Aside0.mk (Kd.R_after (ok := (fun _ => True)) (by (with_reducible repeat (first | apply Kd.R_alloc | apply Kd.R_drewN | apply Kd.R_drew)); exact HO648.out) hg hat)
                  have n3_ := Aside0.mk (Kd.N_afterv (ok := (fun k_ => some k_ ≠ (.slice Ao24 t646.length co24 : Value).ownBlock ∧ k_ ≠ gb642 ∧ k_ ≠ gb643)) (by (with_reducible repeat (first | apply Kd.N_alloc | apply Kd.N_drewN | apply Kd.N_drew)); exact HO651.out) hg hat)
                  have n4_ := Aside0.mk (hb)
                  have n5_ := Aside0.mk (ho)
                  clear BK642
                  clear BK643
                  clear HO648
                  clear HO651
                  clear HB
                  clear HO655
                  have BK642 := n0_
                  have BK643 := n1_
                  have HO648 := n2_
                  have HO651 := n3_
                  have HB := n4_
                  have HO658 := n5_
                  clear n0_ n1_ n2_ n3_ n4_ n5_
                  clear ho hb hg hat
                  refine hK.out _ _ ⟨(blk_cell BK643.out 0).trans rfl, (blk_cell BK643.out 1).trans rfl⟩ (fun hHeld => ?_)
                  clear hK K
                  refine norm_ (a' := ?_) ?_ ?_
                  rotate_left
                  · show Act.put _ (some 43) _ = _
                    simp only [Act.put, List.setIfInBounds_toArray, List.set_cons_zero, List.set_cons_succ, i64_w, i32_w]
                    rfl
                  refine one_ (i := 16) (N := some 57) #[true, true, true, true, true, true, true, true, true, true, true, true, true, true, true, true, true, false, false] rfl rfl (one_of HT_.out (by kernel_rfl)) (by decide) (fun K hK => ?_)
                  refine Kd.R_lit_step k71 _ 71 ?hg (N := 57) ?hd (xs := ([(⟨Int.tmod (wrap64 (a1_0)) t644, Int.tmod (wrap64 ((wrap64 ((Int.tmod (wrap64 (a1_0)) t644) + 1)) + (Int.tmod (wrap64 (a1_1)) (wrap64 (t644 - 1))))) t644⟩ : S71)] : List (S71))) (inner := [.int .i64 (Int.tmod (wrap64 (a1_0)) t644), .int .i64 (Int.tmod (wrap64 ((wrap64 ((Int.tmod (wrap64 (a1_0)) t644) + 1)) + (Int.tmod (wrap64 (a1_1)) (wrap64 (t644 - 1))))) t644)]) (ok := fun _ => True) (okp := fun _ => True) ?hr ?hp (fun _ hk => hk) trivial (Below.refl _ _) (Nat.le_refl _) (by simp) ?_; (case hd => rfl); (case hg => rfl); (case hr => first | (go_simp; done) | (go_simp; rfl)); (case hp => exact (Reps.c2 (show Kd.M k71 _ _ _ (⟨Int.tmod (wrap64 (a1_0)) t644, Int.tmod (wrap64 ((wrap64 ((Int.tmod (wrap64 (a1_0)) t644) + 1)) + (Int.tmod (wrap64 (a1_1)) (wrap64 (t644 - 1))))) t644⟩ : S71) [.int .i64 (Int.tmod (wrap64 (a1_0)) t644), .int .i64 (Int.tmod (wrap64 ((wrap64 ((Int.tmod (wrap64 (a1_0)) t644) + 1)) + (Int.tmod (wrap64 (a1_1)) (wrap64 (t644 - 1))))) t644)] from (k71_mkM _ _ _ (⟨Int.tmod (wrap64 (a1_0)) t644, Int.tmod (wrap64 ((wrap64 ((Int.tmod (wrap64 (a1_0)) t644) + 1)) + (Int.tmod (wrap64 (a1_1)) (wrap64 (t644 - 1))))) t644⟩ : S71) )) (Reps.none _ _)))
                  intro v660 w29 ho30 hb hg_ hnew_
                  clear hg_ hnew_
                  (first | rw [← Ny659.out] at ho30 | (simp only [Int.reduceToNat] at ho30; rw [← Ny659.out] at ho30))
                  have n0_ := Aside0.mk (Kd.R_elder' (by (with_reducible repeat (first | apply Kd.R_alloc | apply Kd.R_drewN | apply Kd.R_drew)); exact HO648.out) (Kd.R_base ho30) hb)
                  have n1_ := Aside0.mk (Kd.N_elder' (by (with_reducible repeat (first | apply Kd.N_alloc | apply Kd.N_drewN | apply Kd.N_drew)); exact HO651.out) (Kd.R_base ho30) hb)
                  have n2_ := Aside0.mk (Kd.R_elder' (by (with_reducible repeat (first | apply Kd.R_alloc | apply Kd.R_drewN | apply Kd.R_drew)); exact HO658.out) (Kd.R_base ho30) hb)
                  have n3_ := Aside0.mk (Kd.R_lower (Kd.R_new' (Kd.R_new' ho30 (Kd.R_lt (by (with_reducible repeat (first | apply Kd.R_alloc | apply Kd.R_drewN | apply Kd.R_drew)); exact HO648.out))) (Kd.R_lt (by (with_reducible repeat (first | apply Kd.R_alloc | apply Kd.R_drewN | apply Kd.R_drew)); exact HO658.out))) (below_size (by repeat (first | (with_reducible first | exact HB.out | apply below_alloc | apply pw_below_drewN | apply below_drew1 | refine below_set ?_ GE642.out | refine below_set ?_ GE643.out) | exact HB.out))))
                  have n4_ := Aside0.mk (blk_below (g := gb642) (o := .cells #[.int .u8 a0_0, .int .u8 a0_1, .int .u8 a0_2, .slice A0_3 l0_3.length c0_3] 66 (0, 0)) (by (with_reducible repeat (first | refine blk_drewN ?_ _ | refine blk_drew ?_ | refine blk_alloc ?_ _)); exact BK642.out) hb)
                  have n5_ := Aside0.mk (blk_below (g := gb643) (o := .cells #[.int .u8 a1_0, .int .u8 a1_1] 67 (0, 0)) (by (with_reducible repeat (first | refine blk_drewN ?_ _ | refine blk_drew ?_ | refine blk_alloc ?_ _)); exact BK643.out) hb)
                  have n6_ := Aside0.mk (below_step (by repeat (first | (with_reducible first | exact HB.out | apply below_alloc | apply pw_below_drewN | apply below_drew1 | refine below_set ?_ GE642.out | refine below_set ?_ GE643.out) | exact HB.out)) hb)
                  clear HO648
                  clear HO651
                  clear HO658
                  clear BK642
                  clear BK643
                  clear HB
                  have HO648 := n0_
                  have HO651 := n1_
                  have HO658 := n2_
                  have HO661 := n3_
                  have BK642 := n4_
                  have BK643 := n5_
                  have HB := n6_
                  clear n0_ n1_ n2_ n3_ n4_ n5_ n6_
                  clear hb ho30
                  refine hK.out _ _ ⟨(blk_cell BK643.out 0).trans rfl, (blk_cell BK643.out 1).trans rfl⟩ (fun hHeld => ?_)
                  clear hK K
                  refine norm_ (a' := ?_) ?_ ?_
                  rotate_left
                  · show Act.put _ (some 57) _ = _
                    simp only [Act.put, List.setIfInBounds_toArray, List.set_cons_zero, List.set_cons_succ, i64_w, i32_w]
                    rfl
                  exact norm_ (by simp only [putAll, Act.put, List.setIfInBounds_toArray, List.set_cons_zero, List.set_cons_succ]) (hCont (v654, v657, v660) _ ⟨hHeld, (by (with_reducible repeat (first | apply Kd.R_alloc | apply Kd.R_drewN | apply Kd.R_drew)); exact Kd.R_mono HO648.out (fun _ hk => ⟨hk.1.2, hk.2⟩)), (by (with_reducible repeat (first | apply Kd.N_alloc | apply Kd.N_drewN | apply Kd.N_drew)); exact Kd.N_mono HO651.out (fun _ hk => ⟨hk.1.1.1, ⟨hk.1.2, ⟨hk.2, ⟨hk.1.1.2.1, hk.1.1.2.2⟩⟩⟩⟩)), (by (with_reducible repeat (first | apply Kd.R_alloc | apply Kd.R_drewN | apply Kd.R_drew)); exact HO658.out), (by (with_reducible repeat (first | apply Kd.R_alloc | apply Kd.R_drewN | apply Kd.R_drew)); exact Kd.R_mono HO661.out (fun _ hk => ⟨hk.1.2, hk.2⟩)), (by (with_reducible repeat (first | refine blk_drewN ?_ _ | refine blk_drew ?_ | refine blk_alloc ?_ _)); exact BK642.out), (by (with_reducible repeat (first | refine blk_drewN ?_ _ | refine blk_drew ?_ | refine blk_alloc ?_ _)); exact BK643.out), (by repeat (first | (with_reducible first | exact HB.out | apply below_alloc | apply pw_below_drewN | apply below_drew1 | refine below_set ?_ GE642.out | refine below_set ?_ GE643.out) | exact HB.out))⟩)
                · skip
                  refine Kd.R_lit_step k71 _ 71 ?hg (N := 57) ?hd (xs := ([(⟨Int.tmod (wrap64 (a1_0)) t644, Int.tmod (wrap64 ((wrap64 ((Int.tmod (wrap64 (a1_0)) t644) + 1)) + (Int.tmod (wrap64 (a1_1)) (wrap64 (t644 - 1))))) t644⟩ : S71)] : List (S71))) (inner := [.int .i64 (Int.tmod (wrap64 (a1_0)) t644), .int .i64 (Int.tmod (wrap64 ((wrap64 ((Int.tmod (wrap64 (a1_0)) t644) + 1)) + (Int.tmod (wrap64 (a1_1)) (wrap64 (t644 - 1))))) t644)]) (ok := fun _ => True) (okp := fun _ => True) ?hr ?hp (fun _ hk => hk) trivial (Below.refl _ _) (Nat.le_refl _) (by simp) ?_; (case hd => rfl); (case hg => rfl); (case hr => first | (go_simp; done) | (go_simp; rfl)); (case hp => exact (Reps.c2 (show Kd.M k71 _ _ _ (⟨Int.tmod (wrap64 (a1_0)) t644, Int.tmod (wrap64 ((wrap64 ((Int.tmod (wrap64 (a1_0)) t644) + 1)) + (Int.tmod (wrap64 (a1_1)) (wrap64 (t644 - 1))))) t644⟩ : S71) [.int .i64 (Int.tmod (wrap64 (a1_0)) t644), .int .i64 (Int.tmod (wrap64 ((wrap64 ((Int.tmod (wrap64 (a1_0)) t644) + 1)) + (Int.tmod (wrap64 (a1_1)) (wrap64 (t644 - 1))))) t644)] from (k71_mkM _ _ _ (⟨Int.tmod (wrap64 (a1_0)) t644, Int.tmod (wrap64 ((wrap64 ((Int.tmod (wrap64 (a1_0)) t644) + 1)) + (Int.tmod (wrap64 (a1_1)) (wrap64 (t644 - 1))))) t644⟩ : S71) )) (Reps.none _ _)))
                  intro v660 w28 ho29 hb hg_ hnew_
                  clear hg_ hnew_
                  (first | rw [← Ny659.out] at ho29 | (simp only [Int.reduceToNat] at ho29; rw [← Ny659.out] at ho29))
                  have n0_ := Aside0.mk (Kd.R_elder' (by (with_reducible repeat (first | apply Kd.R_alloc | apply Kd.R_drewN | apply Kd.R_drew)); exact HO648.out) (Kd.R_base ho29) hb)
                  have n1_ := Aside0.mk (Kd.N_elder' (by (with_reducible repeat (first | apply Kd.N_alloc | apply Kd.N_drewN | apply Kd.N_drew)); exact HO651.out) (Kd.R_base ho29) hb)
                  have n2_ := Aside0.mk (Kd.R_elder' (by (with_reducible repeat (first | apply Kd.R_alloc | apply Kd.R_drewN | apply Kd.R_drew)); exact HO655.out) (Kd.R_base ho29) hb)
                  have n3_ := Aside0.mk (Kd.R_lower (Kd.R_new' (Kd.R_new' ho29 (Kd.R_lt (by (with_reducible repeat (first | apply Kd.R_alloc | apply Kd.R_drewN | apply Kd.R_drew)); exact HO648.out))) (Kd.R_lt (by (with_reducible repeat (first | apply Kd.R_alloc | apply Kd.R_drewN | apply Kd.R_drew)); exact HO655.out))) (below_size (by repeat (first | (with_reducible first | exact HB.out | apply below_alloc | apply pw_below_drewN | apply below_drew1 | refine below_set ?_ GE642.out | refine below_set ?_ GE643.out) | exact HB.out))))
                  have n4_ := Aside0.mk (blk_below (g := gb642) (o := .cells #[.int .u8 a0_0, .int .u8 a0_1, .int .u8 a0_2, .slice A0_3 l0_3.length c0_3] 66 (0, 0)) (by (with_reducible repeat (first | refine blk_drewN ?_ _ | refine blk_drew ?_ | refine blk_alloc ?_ _)); exact BK642.out) hb)
                  have n5_ := Aside0.mk (blk_below (g := gb643) (o := .cells #[.int .u8 a1_0, .int .u8 a1_1] 67 (0, 0)) (by (with_reducible repeat (first | refine blk_drewN ?_ _ | refine blk_drew ?_ | refine blk_alloc ?_ _)); exact BK643.out) hb)
                  have n6_ := Aside0.mk (below_step (by repeat (first | (with_reducible first | exact HB.out | apply below_alloc | apply pw_below_drewN | apply below_drew1 | refine below_set ?_ GE642.out | refine below_set ?_ GE643.out) | exact HB.out)) hb)
                  clear HO648
                  clear HO651
                  clear HO655
                  clear BK642
                  clear BK643
                  clear HB
                  have HO648 := n0_
                  have HO651 := n1_
                  have HO655 := n2_
                  have HO661 := n3_
                  have BK642 := n4_
                  have BK643 := n5_
                  have HB := n6_
                  clear n0_ n1_ n2_ n3_ n4_ n5_ n6_
                  clear hb ho29
                  refine hK.out _ _ ⟨(blk_cell BK643.out 0).trans rfl, (blk_cell BK643.out 1).trans rfl⟩ (fun hHeld => ?_)
                  clear hK K
                  refine norm_ (a' := ?_) ?_ ?_
                  rotate_left
                  · show Act.put _ (some 57) _ = _
                    simp only [Act.put, List.setIfInBounds_toArray, List.set_cons_zero, List.set_cons_succ, i64_w, i32_w]
                    rfl
                  refine one_ (i := 2) (N := some 43) #[true, true, true, true, true, true, true, true, true, true, true, true, true, true, true, true, true, false, false] rfl rfl (one_of HT_.out (by kernel_rfl)) (by decide) (fun K hK => ?_)
                  refine Kd.R_append_rows_step k71 (w0 := w) w.heap.size (by rfl) (.tmp 41) (.tmp 42) 22 71 (.agg #[(.int .i64 0), (.int .i64 0)]) 16 rfl Try.underlying22 info71 rfl (by decide) (by omega) v654 y653 t646 _ _ _ (fun k_ => some k_ ≠ (.slice Ao24 t646.length co24 : Value).ownBlock ∧ some k_ ≠ (v660 : Value).ownBlock) (fun _ => False) rfl rfl ?aO ?aR (fun _ _ h => h) (fun _ h => h.elim) ?aF ?aB ?aS ?aL ?_
                  (case aR => repeat (first | exact (Kd.R_reads' HO648.out).2.2 | (with_reducible refine Kd.C_alloc ?_ _) | (with_reducible refine Kd.C_drewN ?_ _) | (with_reducible refine Kd.C_drew ?_)))
                  (case aB => exact (by repeat (first | (with_reducible first | exact HB.out | apply below_alloc | apply pw_below_drewN | apply below_drew1 | refine below_set ?_ GE642.out | refine below_set ?_ GE643.out) | exact HB.out)))
                  (case aF => exact (fun k_ hk => ⟨Kd.fresh' (Kd.R_lt (by (with_reducible repeat (first | apply Kd.R_alloc | apply Kd.R_drewN | apply Kd.R_drew)); exact HO648.out)) k_ hk, Kd.fresh' (Kd.R_lt (by (with_reducible repeat (first | apply Kd.R_alloc | apply Kd.R_drewN | apply Kd.R_drew)); exact HO661.out)) k_ hk⟩))
                  (case aO => exact (by (with_reducible repeat (first | apply Kd.R_alloc | apply Kd.R_drewN | apply Kd.R_drew)); exact Kd.R_mono HO655.out (fun _ hk => ⟨hk.1.2, hk.2⟩)))
                  (case aS => exact (below_size (by repeat (first | (with_reducible first | exact HB.out | apply below_alloc | apply pw_below_drewN | apply below_drew1 | refine below_set ?_ GE642.out | refine below_set ?_ GE643.out) | exact HB.out))))
                  (case aL => have := LMc13.out; omega)
                  intro v657 w30 ho hb hg hat
                  rw [← Ny656.out] at ho
                  have n0_ := Aside0.mk (blk_grown (g := gb642) (o := .cells #[.int .u8 a0_0, .int .u8 a0_1, .int .u8 a0_2, .slice A0_3 l0_3.length c0_3] 66 (0, 0)) (by (with_reducible repeat (first | refine blk_drewN ?_ _ | refine blk_drew ?_ | refine blk_alloc ?_ _)); exact BK642.out) hg (Kd.R_ne HO655.out BK642.out (by decide)))
                  have n1_ := Aside0.mk (blk_grown (g := gb643) (o := .cells #[.int .u8 a1_0, .int .u8 a1_1] 67 (0, 0)) (by (with_reducible repeat (first | refine blk_drewN ?_ _ | refine blk_drew ?_ | refine blk_alloc ?_ _)); exact BK643.out) hg (Kd.R_ne HO655.out BK643.out (by decide)))
                  have n2_ := Aside0.mk (Kd.R_after (ok := (fun k_ => some k_ ≠ (v660 : Value).ownBlock)) (by (with_reducible repeat (first | apply Kd.R_alloc | apply Kd.R_drewN | apply Kd.R_drew)); exact Kd.R_mono HO648.out (fun _ hk => ⟨hk.2, hk.1.2⟩)) hg hat)
                  have n3_ := Aside0.mk (Kd.N_afterv (ok := (fun k_ => some k_ ≠ (.slice Ao24 t646.length co24 : Value).ownBlock ∧ some k_ ≠ (v660 : Value).ownBlock ∧ k_ ≠ gb642 ∧ k_ ≠ gb643)) (by (with_reducible repeat (first | apply Kd.N_alloc | apply Kd.N_drewN | apply Kd.N_drew)); exact Kd.N_mono HO651.out (fun _ hk => ⟨⟨hk.1.1.1, ⟨hk.2, ⟨hk.1.1.2.1, hk.1.1.2.2⟩⟩⟩, hk.1.2⟩)) hg hat)
                  have n4_ := Aside0.mk (Kd.R_after (ok := (fun k_ => some k_ ≠ (.slice Ao24 t646.length co24 : Value).ownBlock)) (by (with_reducible repeat (first | apply Kd.R_alloc | apply Kd.R_drewN | apply Kd.R_drew)); exact Kd.R_mono HO661.out (fun _ hk => ⟨hk.1.2, hk.2⟩)) hg hat)
                  have n5_ := Aside0.mk (hb)
                  have n6_ := Aside0.mk (ho)
                  clear BK642
                  clear BK643
                  clear HO648
                  clear HO651
                  clear HO661
                  clear HB
                  clear HO655
                  have BK642 := n0_
                  have BK643 := n1_
                  have HO648 := n2_
                  have HO651 := n3_
                  have HO661 := n4_
                  have HB := n5_
                  have HO658 := n6_
                  clear n0_ n1_ n2_ n3_ n4_ n5_ n6_
                  clear ho hb hg hat
                  refine hK.out _ _ ⟨(blk_cell BK643.out 0).trans rfl, (blk_cell BK643.out 1).trans rfl⟩ (fun hHeld => ?_)
                  clear hK K
                  refine norm_ (a' := ?_) ?_ ?_
                  rotate_left
                  · show Act.put _ (some 43) _ = _
                    simp only [Act.put, List.setIfInBounds_toArray, List.set_cons_zero, List.set_cons_succ, i64_w, i32_w]
                    rfl
                  exact norm_ (by simp only [putAll, Act.put, List.setIfInBounds_toArray, List.set_cons_zero, List.set_cons_succ]) (hCont (v654, v657, v660) _ ⟨hHeld, (by (with_reducible repeat (first | apply Kd.R_alloc | apply Kd.R_drewN | apply Kd.R_drew)); exact Kd.R_mono HO648.out (fun _ hk => ⟨hk.2, hk.1⟩)), (by (with_reducible repeat (first | apply Kd.N_alloc | apply Kd.N_drewN | apply Kd.N_drew)); exact Kd.N_mono HO651.out (fun _ hk => ⟨hk.1.1, ⟨hk.2, ⟨hk.1.2.1, ⟨hk.1.2.2.1, hk.1.2.2.2⟩⟩⟩⟩)), (by (with_reducible repeat (first | apply Kd.R_alloc | apply Kd.R_drewN | apply Kd.R_drew)); exact HO658.out), (by (with_reducible repeat (first | apply Kd.R_alloc | apply Kd.R_drewN | apply Kd.R_drew)); exact HO661.out), (by (with_reducible repeat (first | refine blk_drewN ?_ _ | refine blk_drew ?_ | refine blk_alloc ?_ _)); exact BK642.out), (by (with_reducible repeat (first | refine blk_drewN ?_ _ | refine blk_drew ?_ | refine blk_alloc ?_ _)); exact BK643.out), (by repeat (first | (with_reducible first | exact HB.out | apply below_alloc | apply pw_below_drewN | apply below_drew1 | refine below_set ?_ GE642.out | refine below_set ?_ GE643.out) | exact HB.out))⟩)
              · skip
                refine Kd.R_lit_step k71 _ 71 ?hg (N := 57) ?hd (xs := ([(⟨Int.tmod (wrap64 (a1_0)) t644, Int.tmod (wrap64 ((wrap64 ((Int.tmod (wrap64 (a1_0)) t644) + 1)) + (Int.tmod (wrap64 (a1_1)) (wrap64 (t644 - 1))))) t644⟩ : S71)] : List (S71))) (inner := [.int .i64 (Int.tmod (wrap64 (a1_0)) t644), .int .i64 (Int.tmod (wrap64 ((wrap64 ((Int.tmod (wrap64 (a1_0)) t644) + 1)) + (Int.tmod (wrap64 (a1_1)) (wrap64 (t644 - 1))))) t644)]) (ok := fun _ => True) (okp := fun _ => True) ?hr ?hp (fun _ hk => hk) trivial (Below.refl _ _) (Nat.le_refl _) (by simp) ?_; (case hd => rfl); (case hg => rfl); (case hr => first | (go_simp; done) | (go_simp; rfl)); (case hp => exact (Reps.c2 (show Kd.M k71 _ _ _ (⟨Int.tmod (wrap64 (a1_0)) t644, Int.tmod (wrap64 ((wrap64 ((Int.tmod (wrap64 (a1_0)) t644) + 1)) + (Int.tmod (wrap64 (a1_1)) (wrap64 (t644 - 1))))) t644⟩ : S71) [.int .i64 (Int.tmod (wrap64 (a1_0)) t644), .int .i64 (Int.tmod (wrap64 ((wrap64 ((Int.tmod (wrap64 (a1_0)) t644) + 1)) + (Int.tmod (wrap64 (a1_1)) (wrap64 (t644 - 1))))) t644)] from (k71_mkM _ _ _ (⟨Int.tmod (wrap64 (a1_0)) t644, Int.tmod (wrap64 ((wrap64 ((Int.tmod (wrap64 (a1_0)) t644) + 1)) + (Int.tmod (wrap64 (a1_1)) (wrap64 (t644 - 1))))) t644⟩ : S71) )) (Reps.none _ _)))
                intro v660 w26 ho27 hb hg_ hnew_
                clear hg_ hnew_
                (first | rw [← Ny659.out] at ho27 | (simp only [Int.reduceToNat] at ho27; rw [← Ny659.out] at ho27))
                have n0_ := Aside0.mk (Kd.R_elder' (by (with_reducible repeat (first | apply Kd.R_alloc | apply Kd.R_drewN | apply Kd.R_drew)); exact HO648.out) (Kd.R_base ho27) hb)
                have n1_ := Aside0.mk (Kd.N_elder' (by (with_reducible repeat (first | apply Kd.N_alloc | apply Kd.N_drewN | apply Kd.N_drew)); exact HO651.out) (Kd.R_base ho27) hb)
                have n2_ := Aside0.mk (Kd.R_lower (Kd.R_new' ho27 (Kd.R_lt (by (with_reducible repeat (first | apply Kd.R_alloc | apply Kd.R_drewN | apply Kd.R_drew)); exact HO648.out))) (below_size (by repeat (first | (with_reducible first | exact HB.out | apply below_alloc | apply pw_below_drewN | apply below_drew1 | refine below_set ?_ GE642.out | refine below_set ?_ GE643.out) | exact HB.out))))
                have n3_ := Aside0.mk (blk_below (g := gb642) (o := .cells #[.int .u8 a0_0, .int .u8 a0_1, .int .u8 a0_2, .slice A0_3 l0_3.length c0_3] 66 (0, 0)) (by (with_reducible repeat (first | refine blk_drewN ?_ _ | refine blk_drew ?_ | refine blk_alloc ?_ _)); exact BK642.out) hb)
                have n4_ := Aside0.mk (blk_below (g := gb643) (o := .cells #[.int .u8 a1_0, .int .u8 a1_1] 67 (0, 0)) (by (with_reducible repeat (first | refine blk_drewN ?_ _ | refine blk_drew ?_ | refine blk_alloc ?_ _)); exact BK643.out) hb)
                have n5_ := Aside0.mk (below_step (by repeat (first | (with_reducible first | exact HB.out | apply below_alloc | apply pw_below_drewN | apply below_drew1 | refine below_set ?_ GE642.out | refine below_set ?_ GE643.out) | exact HB.out)) hb)
                clear HO648
                clear HO651
                clear BK642
                clear BK643
                clear HB
                have HO648 := n0_
                have HO651 := n1_
                have HO661 := n2_
                have BK642 := n3_
                have BK643 := n4_
                have HB := n5_
                clear n0_ n1_ n2_ n3_ n4_ n5_
                clear hb ho27
                refine hK.out _ _ ⟨(blk_cell BK643.out 0).trans rfl, (blk_cell BK643.out 1).trans rfl⟩ (fun hHeld => ?_)
                clear hK K
                refine norm_ (a' := ?_) ?_ ?_
                rotate_left
                · show Act.put _ (some 57) _ = _
                  simp only [Act.put, List.setIfInBounds_toArray, List.set_cons_zero, List.set_cons_succ, i64_w, i32_w]
                  rfl
                refine one_ (i := 0) (N := some 41) #[true, true, false, true, true, true, true, true, true, true, true, true, true, true, true, true, true, false, false] rfl rfl (one_of HT_.out (by kernel_rfl)) (by decide) (fun K hK => ?_)
                refine Kd.R_lit_step k71 _ 71 ?hg (N := 41) ?hd (xs := ([] : List (S71))) (inner := []) (ok := fun _ => True) (okp := fun _ => True) ?hr ?hp (fun _ hk => hk) trivial (Below.refl _ _) (Nat.le_refl _) (by simp) ?_; (case hd => rfl); (case hg => rfl); (case hr => first | (go_simp; done) | (go_simp; rfl)); (case hp => exact (Reps.none _ _))
                intro v654 w28 ho29 hb hg_ hnew_
                clear hg_ hnew_
                (first | rw [← Ny653.out] at ho29 | (simp only [Int.reduceToNat] at ho29; rw [← Ny653.out] at ho29))
                have n0_ := Aside0.mk (Kd.R_elder' (by (with_reducible repeat (first | apply Kd.R_alloc | apply Kd.R_drewN | apply Kd.R_drew)); exact HO648.out) (Kd.R_base ho29) hb)
                have n1_ := Aside0.mk (Kd.N_elder' (by (with_reducible repeat (first | apply Kd.N_alloc | apply Kd.N_drewN | apply Kd.N_drew)); exact HO651.out) (Kd.R_base ho29) hb)
                have n2_ := Aside0.mk (Kd.R_elder' (by (with_reducible repeat (first | apply Kd.R_alloc | apply Kd.R_drewN | apply Kd.R_drew)); exact HO661.out) (Kd.R_base ho29) hb)
                have n3_ := Aside0.mk (Kd.R_lower (Kd.R_new' (Kd.R_new' ho29 (Kd.R_lt (by (with_reducible repeat (first | apply Kd.R_alloc | apply Kd.R_drewN | apply Kd.R_drew)); exact HO648.out))) (Kd.R_lt (by (with_reducible repeat (first | apply Kd.R_alloc | apply Kd.R_drewN | apply Kd.R_drew)); exact HO661.out))) (below_size (by repeat (first | (with_reducible first | exact HB.out | apply below_alloc | apply pw_below_drewN | apply below_drew1 | refine below_set ?_ GE642.out | refine below_set ?_ GE643.out) | exact HB.out))))
                have n4_ := Aside0.mk (blk_below (g := gb642) (o := .cells #[.int .u8 a0_0, .int .u8 a0_1, .int .u8 a0_2, .slice A0_3 l0_3.length c0_3] 66 (0, 0)) (by (with_reducible repeat (first | refine blk_drewN ?_ _ | refine blk_drew ?_ | refine blk_alloc ?_ _)); exact BK642.out) hb)
                have n5_ := Aside0.mk (blk_below (g := gb643) (o := .cells #[.int .u8 a1_0, .int .u8 a1_1] 67 (0, 0)) (by (with_reducible repeat (first | refine blk_drewN ?_ _ | refine blk_drew ?_ | refine blk_alloc ?_ _)); exact BK643.out) hb)
                have n6_ := Aside0.mk (below_step (by repeat (first | (with_reducible first | exact HB.out | apply below_alloc | apply pw_below_drewN | apply below_drew1 | refine below_set ?_ GE642.out | refine below_set ?_ GE643.out) | exact HB.out)) hb)
                clear HO648
                clear HO651
                clear HO661
                clear BK642
                clear BK643
                clear HB
                have HO648 := n0_
                have HO651 := n1_
                have HO661 := n2_
                have HO655 := n3_
                have BK642 := n4_
                have BK643 := n5_
                have HB := n6_
                clear n0_ n1_ n2_ n3_ n4_ n5_ n6_
                clear hb ho29
                refine hK.out _ _ ⟨(blk_cell BK643.out 0).trans rfl, (blk_cell BK643.out 1).trans rfl⟩ (fun hHeld => ?_)
                clear hK K
                refine norm_ (a' := ?_) ?_ ?_
                rotate_left
                · show Act.put _ (some 41) _ = _
                  simp only [Act.put, List.setIfInBounds_toArray, List.set_cons_zero, List.set_cons_succ, i64_w, i32_w]
                  rfl
                refine one_ (i := 2) (N := some 43) #[true, true, true, true, true, true, true, true, true, true, true, true, true, true, true, true, true, false, false] rfl rfl (one_of HT_.out (by kernel_rfl)) (by decide) (fun K hK => ?_)
                refine Kd.R_append_rows_step k71 (w0 := w) w.heap.size (by rfl) (.tmp 41) (.tmp 42) 22 71 (.agg #[(.int .i64 0), (.int .i64 0)]) 16 rfl Try.underlying22 info71 rfl (by decide) (by omega) v654 y653 t646 _ _ _ (fun k_ => some k_ ≠ (.slice Ao24 t646.length co24 : Value).ownBlock ∧ some k_ ≠ (v660 : Value).ownBlock) (fun _ => False) rfl rfl ?aO ?aR (fun _ _ h => h) (fun _ h => h.elim) ?aF ?aB ?aS ?aL ?_
                (case aR => repeat (first | exact (Kd.R_reads' HO648.out).2.2 | (with_reducible refine Kd.C_alloc ?_ _) | (with_reducible refine Kd.C_drewN ?_ _) | (with_reducible refine Kd.C_drew ?_)))
                (case aB => exact (by repeat (first | (with_reducible first | exact HB.out | apply below_alloc | apply pw_below_drewN | apply below_drew1 | refine below_set ?_ GE642.out | refine below_set ?_ GE643.out) | exact HB.out)))
                (case aF => exact (fun k_ hk => ⟨Kd.fresh' (Kd.R_lt (by (with_reducible repeat (first | apply Kd.R_alloc | apply Kd.R_drewN | apply Kd.R_drew)); exact HO648.out)) k_ hk, Kd.fresh' (Kd.R_lt (by (with_reducible repeat (first | apply Kd.R_alloc | apply Kd.R_drewN | apply Kd.R_drew)); exact HO661.out)) k_ hk⟩))
                (case aO => exact (by (with_reducible repeat (first | apply Kd.R_alloc | apply Kd.R_drewN | apply Kd.R_drew)); exact Kd.R_mono HO655.out (fun _ hk => ⟨hk.1.2, hk.2⟩)))
                (case aS => exact (below_size (by repeat (first | (with_reducible first | exact HB.out | apply below_alloc | apply pw_below_drewN | apply below_drew1 | refine below_set ?_ GE642.out | refine below_set ?_ GE643.out) | exact HB.out))))
                (case aL => have := LMc13.out; omega)
                intro v657 w30 ho hb hg hat
                rw [← Ny656.out] at ho
                have n0_ := Aside0.mk (blk_grown (g := gb642) (o := .cells #[.int .u8 a0_0, .int .u8 a0_1, .int .u8 a0_2, .slice A0_3 l0_3.length c0_3] 66 (0, 0)) (by (with_reducible repeat (first | refine blk_drewN ?_ _ | refine blk_drew ?_ | refine blk_alloc ?_ _)); exact BK642.out) hg (Kd.R_ne HO655.out BK642.out (by decide)))
                have n1_ := Aside0.mk (blk_grown (g := gb643) (o := .cells #[.int .u8 a1_0, .int .u8 a1_1] 67 (0, 0)) (by (with_reducible repeat (first | refine blk_drewN ?_ _ | refine blk_drew ?_ | refine blk_alloc ?_ _)); exact BK643.out) hg (Kd.R_ne HO655.out BK643.out (by decide)))
                have n2_ := Aside0.mk (Kd.R_after (ok := (fun k_ => some k_ ≠ (v660 : Value).ownBlock)) (by (with_reducible repeat (first | apply Kd.R_alloc | apply Kd.R_drewN | apply Kd.R_drew)); exact Kd.R_mono HO648.out (fun _ hk => ⟨hk.1.2, hk.2⟩)) hg hat)
                have n3_ := Aside0.mk (Kd.N_afterv (ok := (fun k_ => some k_ ≠ (.slice Ao24 t646.length co24 : Value).ownBlock ∧ some k_ ≠ (v660 : Value).ownBlock ∧ k_ ≠ gb642 ∧ k_ ≠ gb643)) (by (with_reducible repeat (first | apply Kd.N_alloc | apply Kd.N_drewN | apply Kd.N_drew)); exact Kd.N_mono HO651.out (fun _ hk => ⟨⟨hk.1.1.1, ⟨hk.1.2, ⟨hk.1.1.2.1, hk.1.1.2.2⟩⟩⟩, hk.2⟩)) hg hat)
                have n4_ := Aside0.mk (Kd.R_after (ok := (fun k_ => some k_ ≠ (.slice Ao24 t646.length co24 : Value).ownBlock)) (by (with_reducible repeat (first | apply Kd.R_alloc | apply Kd.R_drewN | apply Kd.R_drew)); exact Kd.R_mono HO661.out (fun _ hk => ⟨hk.1.2, hk.2⟩)) hg hat)
                have n5_ := Aside0.mk (hb)
                have n6_ := Aside0.mk (ho)
                clear BK642
                clear BK643
                clear HO648
                clear HO651
                clear HO661
                clear HB
                clear HO655
                have BK642 := n0_
                have BK643 := n1_
                have HO648 := n2_
                have HO651 := n3_
                have HO661 := n4_
                have HB := n5_
                have HO658 := n6_
                clear n0_ n1_ n2_ n3_ n4_ n5_ n6_
                clear ho hb hg hat
                refine hK.out _ _ ⟨(blk_cell BK643.out 0).trans rfl, (blk_cell BK643.out 1).trans rfl⟩ (fun hHeld => ?_)
                clear hK K
                refine norm_ (a' := ?_) ?_ ?_
                rotate_left
                · show Act.put _ (some 43) _ = _
                  simp only [Act.put, List.setIfInBounds_toArray, List.set_cons_zero, List.set_cons_succ, i64_w, i32_w]
                  rfl
                exact norm_ (by simp only [putAll, Act.put, List.setIfInBounds_toArray, List.set_cons_zero, List.set_cons_succ]) (hCont (v654, v657, v660) _ ⟨hHeld, (by (with_reducible repeat (first | apply Kd.R_alloc | apply Kd.R_drewN | apply Kd.R_drew)); exact Kd.R_mono HO648.out (fun _ hk => ⟨hk.2, hk.1⟩)), (by (with_reducible repeat (first | apply Kd.N_alloc | apply Kd.N_drewN | apply Kd.N_drew)); exact Kd.N_mono HO651.out (fun _ hk => ⟨hk.1.1, ⟨hk.2, ⟨hk.1.2.1, ⟨hk.1.2.2.1, hk.1.2.2.2⟩⟩⟩⟩)), (by (with_reducible repeat (first | apply Kd.R_alloc | apply Kd.R_drewN | apply Kd.R_drew)); exact HO658.out), (by (with_reducible repeat (first | apply Kd.R_alloc | apply Kd.R_drewN | apply Kd.R_drew)); exact HO661.out), (by (with_reducible repeat (first | refine blk_drewN ?_ _ | refine blk_drew ?_ | refine blk_alloc ?_ _)); exact BK642.out), (by (with_reducible repeat (first | refine blk_drewN ?_ _ | refine blk_drew ?_ | refine blk_alloc ?_ _)); exact BK643.out), (by repeat (first | (with_reducible first | exact HB.out | apply below_alloc | apply pw_below_drewN | apply below_drew1 | refine below_set ?_ GE642.out | refine below_set ?_ GE643.out) | exact HB.out))⟩)
            rintro ⟨v654, v657, v660⟩ w31 ⟨hS_, h0_, h1_, h2_, h3_, h4_, h5_, h6_⟩
            have n0_ : Aside0 (Kd.R k71 71 w31 w.heap.size (fun k_ => some k_ ≠ (v657 : Value).ownBlock ∧ some k_ ≠ (v660 : Value).ownBlock) (.slice Ao24 t646.length co24) t646) := ⟨h0_⟩
            have n1_ : Aside0 (Kd.N (Kd.slice 3 (Kd.int .i64)) 37 w31 w.heap.size (fun k_ => some k_ ≠ (.slice Ao24 t646.length co24 : Value).ownBlock ∧ some k_ ≠ (v657 : Value).ownBlock ∧ some k_ ≠ (v660 : Value).ownBlock ∧ k_ ≠ gb642 ∧ k_ ≠ gb643) v650 t649) := ⟨h1_⟩
            have n2_ : Aside0 (Kd.R k71 71 w31 w.heap.size (fun k_ => some k_ ≠ (.slice Ao24 t646.length co24 : Value).ownBlock ∧ some k_ ≠ (v660 : Value).ownBlock) v657 y656) := ⟨h2_⟩
            have n3_ : Aside0 (Kd.R k71 71 w31 w.heap.size (fun k_ => some k_ ≠ (.slice Ao24 t646.length co24 : Value).ownBlock ∧ some k_ ≠ (v657 : Value).ownBlock) v660 y659) := ⟨h3_⟩
            have n4_ : Aside0 (w31.heap[gb642]? = some (.cells #[.int .u8 a0_0, .int .u8 a0_1, .int .u8 a0_2, .slice A0_3 l0_3.length c0_3] 66 (0, 0))) := ⟨h4_⟩
            have n5_ : Aside0 (w31.heap[gb643]? = some (.cells #[.int .u8 a1_0, .int .u8 a1_1] 67 (0, 0))) := ⟨h5_⟩
            have n6_ : Aside0 (Below w.heap.size w w31) := ⟨h6_⟩
            clear HO648
            clear HO651
            clear BK642
            clear BK643
            clear HB
            clear h0_ h1_ h2_ h3_ h4_ h5_ h6_
            have HO648 := n0_
            have HO651 := n1_
            have HO658 := n2_
            have HO661 := n3_
            have BK642 := n4_
            have BK643 := n5_
            have HB := n6_
            clear n0_ n1_ n2_ n3_ n4_ n5_ n6_
            have hHeld : w31.cell? ⟨gb643, 0, none⟩ = some (.int .u8 a1_0) ∧ w31.cell? ⟨gb643, 1, none⟩ = some (.int .u8 a1_1) := hS_
            obtain ⟨Ao33, co33, eo33⟩ := Kd.R_slice HO661.out
            (first | subst eo33 | (injection eo33 with f1_ f2_ f3_; have f4_ := f1_.symm; have f5_ := f3_.symm; clear f1_ f2_ f3_; subst f4_; subst f5_))
            refine norm_ (a' := ?_) ?_ ?_
            rotate_left
            · simp only [putAll, Act.put, List.setIfInBounds_toArray, List.set_cons_zero, List.set_cons_succ]
              rfl
            refine one_ (i := 17) (N := some 58) #[true, true, true, true, true, true, true, true, true, true, true, true, true, true, true, true, true, true, false] rfl rfl (one_of HT_.out (by kernel_rfl)) (by decide) (fun K hK => ?_)
            refine Kd.R_append_rows_step k71 (w0 := w) w.heap.size (by rfl) (.tmp 43) (.tmp 57) 22 71 (.agg #[(.int .i64 0), (.int .i64 0)]) 16 rfl Try.underlying22 info71 rfl (by decide) (by omega) v657 y656 y659 _ _ _ (fun k_ => some k_ ≠ (.slice Ao24 t646.length co24 : Value).ownBlock ∧ some k_ ≠ (.slice Ao33 y659.length co33 : Value).ownBlock) (fun _ => False) rfl rfl ?aO ?aR (fun _ _ h => h) (fun _ h => h.elim) ?aF ?aB ?aS ?aL ?_
            (case aR => repeat (first | exact (Kd.R_reads' HO661.out).2.2 | (with_reducible refine Kd.C_alloc ?_ _) | (with_reducible refine Kd.C_drewN ?_ _) | (with_reducible refine Kd.C_drew ?_)))
            (case aB => exact (by repeat (first | (with_reducible first | exact HB.out | apply below_alloc | apply pw_below_drewN | apply below_drew1 | refine below_set ?_ GE642.out | refine below_set ?_ GE643.out) | exact HB.out)))
            (case aF => exact (fun k_ hk => ⟨Kd.fresh' (Kd.R_lt (by (with_reducible repeat (first | apply Kd.R_alloc | apply Kd.R_drewN | apply Kd.R_drew)); exact HO648.out)) k_ hk, Kd.fresh' (Kd.R_lt (by (with_reducible repeat (first | apply Kd.R_alloc | apply Kd.R_drewN | apply Kd.R_drew)); exact HO661.out)) k_ hk⟩))
            (case aO => exact (by (with_reducible repeat (first | apply Kd.R_alloc | apply Kd.R_drewN | apply Kd.R_drew)); exact HO658.out))
            (case aS => exact (below_size (by repeat (first | (with_reducible first | exact HB.out | apply below_alloc | apply pw_below_drewN | apply below_drew1 | refine below_set ?_ GE642.out | refine below_set ?_ GE643.out) | exact HB.out))))
            (case aL => have := LMc15.out; omega)
            intro v663 w32 ho hb hg hat
            rw [← Ny662.out] at ho
            have n0_ := Aside0.mk (blk_grown (g := gb642) (o := .cells #[.int .u8 a0_0, .int .u8 a0_1, .int .u8 a0_2, .slice A0_3 l0_3.length c0_3] 66 (0, 0)) (by (with_reducible repeat (first | refine blk_drewN ?_ _ | refine blk_drew ?_ | refine blk_alloc ?_ _)); exact BK642.out) hg (Kd.R_ne HO658.out BK642.out (by decide)))
            have n1_ := Aside0.mk (blk_grown (g := gb643) (o := .cells #[.int .u8 a1_0, .int .u8 a1_1] 67 (0, 0)) (by (with_reducible repeat (first | refine blk_drewN ?_ _ | refine blk_drew ?_ | refine blk_alloc ?_ _)); exact BK643.out) hg (Kd.R_ne HO658.out BK643.out (by decide)))
            have n2_ := Aside0.mk (Kd.R_after (ok := (fun k_ => some k_ ≠ (.slice Ao33 y659.length co33 : Value).ownBlock)) (by (with_reducible repeat (first | apply Kd.R_alloc | apply Kd.R_drewN | apply Kd.R_drew)); exact Kd.R_mono HO648.out (fun _ hk => ⟨hk.2, hk.1⟩)) hg hat)
            have n3_ := Aside0.mk (Kd.N_afterv (ok := (fun k_ => some k_ ≠ (.slice Ao24 t646.length co24 : Value).ownBlock ∧ some k_ ≠ (.slice Ao33 y659.length co33 : Value).ownBlock ∧ k_ ≠ gb642 ∧ k_ ≠ gb643)) (by (with_reducible repeat (first | apply Kd.N_alloc | apply Kd.N_drewN | apply Kd.N_drew)); exact Kd.N_mono HO651.out (fun _ hk => ⟨⟨hk.1, ⟨hk.2.2.1, ⟨hk.2.2.2.1, hk.2.2.2.2⟩⟩⟩, hk.2.1⟩)) hg hat)
            have n4_ := Aside0.mk (Kd.R_after (ok := (fun k_ => some k_ ≠ (.slice Ao24 t646.length co24 : Value).ownBlock)) (by (with_reducible repeat (first | apply Kd.R_alloc | apply Kd.R_drewN | apply Kd.R_drew)); exact HO661.out) hg hat)
            have n5_ := Aside0.mk (hb)
            have n6_ := Aside0.mk (ho)
            clear BK642
            clear BK643
            clear HO648
            clear HO651
            clear HO661
            clear HB
            clear HO658
            have BK642 := n0_
            have BK643 := n1_
            have HO648 := n2_
            have HO651 := n3_
            have HO661 := n4_
            have HB := n5_
            have HO664 := n6_
            clear n0_ n1_ n2_ n3_ n4_ n5_ n6_
            clear ho hb hg hat
            refine hK.out _ _ ⟨(blk_cell BK643.out 0).trans rfl, (blk_cell BK643.out 1).trans rfl⟩ (fun hHeld => ?_)
            clear hK K
            refine norm_ (a' := ?_) ?_ ?_
            rotate_left
            · show Act.put _ (some 58) _ = _
              simp only [Act.put, List.setIfInBounds_toArray, List.set_cons_zero, List.set_cons_succ, i64_w, i32_w]
              rfl
            refine pure_ (i := 18) (N := some 10) (v := ?_) (a' := ?_) #[true, true, true, true, true, true, true, true, true, true, true, true, true, true, true, true, true, true, true] rfl rfl (any_of HT_.out (by kernel_rfl)) (fun _ _ _ h => h) (Or.inl ⟨by rfl, ?_⟩) ?_ ?_
            rotate_left
            · intro w'
              go_simp
              with_reducible rfl
            rotate_left
            · simp only [Act.put, List.setIfInBounds_toArray, List.set_cons_zero, List.set_cons_succ, i64_w, i32_w]
              rfl
            refine done_ (done_of HT_.out (by kernel_rfl)) ?_
            try go_wp2_with (first | ((with_reducible refine gate_callee (f := 22) rfl ?_); refine goesL_ (some 61) rfl rfl Try.func22 (by kernel_rfl) rfl #[.int .i64 t644, .slice Ao24 t646.length co24] rfl (by (try simp only [List.map_toArray, List.map_cons, List.map_nil]); first | done | rfl | (simp only [List.length_drop, List.length_take]; rfl)) ?_; (with_reducible refine (woggleref09_Sees.calls k t644 _ _ t646 t665 _ ?side1 ?side2 A16.out).mono ?_); (case side1 => repeat (first | exact (Kd.R_reads' HO648.out).2.2 | (with_reducible refine Kd.C_alloc ?_ _) | (with_reducible refine Kd.C_drewN ?_ _) | (with_reducible refine Kd.C_drew ?_))); (case side2 => exact (Kd.R_reads' HO648.out).2.1); rintro e w34 ⟨v666, rfl, ho0, hb⟩; refine ⟨_, rfl, ?_⟩; have n0_ := Aside0.mk (Kd.R_below (by (with_reducible repeat (first | apply Kd.R_alloc | apply Kd.R_drewN | apply Kd.R_drew)); exact HO648.out) hb); have n1_ := Aside0.mk (Kd.N_elder' (by (with_reducible repeat (first | apply Kd.N_alloc | apply Kd.N_drewN | apply Kd.N_drew)); exact HO651.out) (by first | exact Kd.N_base ho0 | exact Kd.N_base (Kd.S_N (Kd.S_bound ho0))) hb); have n2_ := Aside0.mk (Kd.R_below (by (with_reducible repeat (first | apply Kd.R_alloc | apply Kd.R_drewN | apply Kd.R_drew)); exact HO661.out) hb); have n3_ := Aside0.mk (Kd.R_below (by (with_reducible repeat (first | apply Kd.R_alloc | apply Kd.R_drewN | apply Kd.R_drew)); exact HO664.out) hb); have n4_ := Aside0.mk (Kd.N_lower (Kd.N_mono (ok' := fun k_ => some k_ ≠ (.slice Ao24 t646.length co24 : Value).ownBlock ∧ some k_ ≠ (v650 : Value).ownBlock ∧ some k_ ≠ (.slice Ao33 y659.length co33 : Value).ownBlock ∧ some k_ ≠ (v663 : Value).ownBlock ∧ k_ ≠ gb642 ∧ k_ ≠ gb643) (Kd.S_N (Kd.S_bound ho0)) (fun k_ hk_ => ⟨(Kd.fresh' (Kd.R_lt (by (with_reducible repeat (first | apply Kd.R_alloc | apply Kd.R_drewN | apply Kd.R_drew)); exact HO648.out)) k_ hk_.2.1), (Kd.fresh' (Kd.N_lt (by (with_reducible repeat (first | apply Kd.N_alloc | apply Kd.N_drewN | apply Kd.N_drew)); exact HO651.out)) k_ hk_.2.1), (Kd.fresh' (Kd.R_lt (by (with_reducible repeat (first | apply Kd.R_alloc | apply Kd.R_drewN | apply Kd.R_drew)); exact HO661.out)) k_ hk_.2.1), (Kd.fresh' (Kd.R_lt (by (with_reducible repeat (first | apply Kd.R_alloc | apply Kd.R_drewN | apply Kd.R_drew)); exact HO664.out)) k_ hk_.2.1), (Kd.freshB (g := gb642) (o := .cells #[.int .u8 a0_0, .int .u8 a0_1, .int .u8 a0_2, .slice A0_3 l0_3.length c0_3] 66 (0, 0)) (by (with_reducible repeat (first | refine blk_drewN ?_ _ | refine blk_drew ?_ | refine blk_alloc ?_ _)); exact BK642.out) k_ hk_.2.1), (Kd.freshB (g := gb643) (o := .cells #[.int .u8 a1_0, .int .u8 a1_1] 67 (0, 0)) (by (with_reducible repeat (first | refine blk_drewN ?_ _ | refine blk_drew ?_ | refine blk_alloc ?_ _)); exact BK643.out) k_ hk_.2.1)⟩)) (below_size (by repeat (first | (with_reducible first | exact HB.out | apply below_alloc | apply pw_below_drewN | apply below_drew1 | refine below_set ?_ GE642.out | refine below_set ?_ GE643.out) | exact HB.out)))); have n5_ := Aside0.mk (blk_below (g := gb642) (o := .cells #[.int .u8 a0_0, .int .u8 a0_1, .int .u8 a0_2, .slice A0_3 l0_3.length c0_3] 66 (0, 0)) (by (with_reducible repeat (first | refine blk_drewN ?_ _ | refine blk_drew ?_ | refine blk_alloc ?_ _)); exact BK642.out) hb); have n6_ := Aside0.mk (blk_below (g := gb643) (o := .cells #[.int .u8 a1_0, .int .u8 a1_1] 67 (0, 0)) (by (with_reducible repeat (first | refine blk_drewN ?_ _ | refine blk_drew ?_ | refine blk_alloc ?_ _)); exact BK643.out) hb); have n7_ := Aside0.mk (below_step (by repeat (first | (with_reducible first | exact HB.out | apply below_alloc | apply pw_below_drewN | apply below_drew1 | refine below_set ?_ GE642.out | refine below_set ?_ GE643.out) | exact HB.out)) hb); clear HO648; clear HO651; clear HO661; clear HO664; clear BK642; clear BK643; clear HB; have HO648 := n0_; have HO651 := n1_; have HO661 := n2_; have HO664 := n3_; have HO667 := n4_; have BK642 := n5_; have BK643 := n6_; have HB := n7_; clear n0_ n1_ n2_ n3_ n4_ n5_ n6_ n7_; (try clear hb); (try clear hb2); (try clear hk); (try clear hi); (try clear ho0); obtain ⟨Ao35, co35, eo35⟩ := Kd.R_slice HO664.out; subst eo35) | ((with_reducible refine gate_callee (f := 22) rfl ?_); refine goesL_ (some 64) rfl rfl Try.func22 (by kernel_rfl) rfl #[.int .i64 t644, .slice Ao35 y662.length co35] rfl (by (try simp only [List.map_toArray, List.map_cons, List.map_nil]); first | done | rfl | (simp only [List.length_drop, List.length_take]; rfl)) ?_; (with_reducible refine (woggleref09_Sees.calls k t644 _ _ y662 t668 _ ?side1 ?side2 A17.out).mono ?_); (case side1 => repeat (first | exact (Kd.R_reads' HO664.out).2.2 | (with_reducible refine Kd.C_alloc ?_ _) | (with_reducible refine Kd.C_drewN ?_ _) | (with_reducible refine Kd.C_drew ?_))); (case side2 => exact (Kd.R_reads' HO664.out).2.1); rintro e w36 ⟨v669, rfl, ho0, hb⟩; refine ⟨_, rfl, ?_⟩; have n0_ := Aside0.mk (Kd.R_below (by (with_reducible repeat (first | apply Kd.R_alloc | apply Kd.R_drewN | apply Kd.R_drew)); exact HO648.out) hb); have n1_ := Aside0.mk (Kd.N_elder' (by (with_reducible repeat (first | apply Kd.N_alloc | apply Kd.N_drewN | apply Kd.N_drew)); exact HO651.out) (by first | exact Kd.N_base ho0 | exact Kd.N_base (Kd.S_N (Kd.S_bound ho0))) hb); have n2_ := Aside0.mk (Kd.R_below (by (with_reducible repeat (first | apply Kd.R_alloc | apply Kd.R_drewN | apply Kd.R_drew)); exact HO661.out) hb); have n3_ := Aside0.mk (Kd.R_below (by (with_reducible repeat (first | apply Kd.R_alloc | apply Kd.R_drewN | apply Kd.R_drew)); exact HO664.out) hb); have n4_ := Aside0.mk (Kd.N_elder' (by (with_reducible repeat (first | apply Kd.N_alloc | apply Kd.N_drewN | apply Kd.N_drew)); exact HO667.out) (by first | exact Kd.N_base ho0 | exact Kd.N_base (Kd.S_N (Kd.S_bound ho0))) hb); have n5_ := Aside0.mk (Kd.N_lower (Kd.N_mono (ok' := fun k_ => some k_ ≠ (.slice Ao24 t646.length co24 : Value).ownBlock ∧ some k_ ≠ (v650 : Value).ownBlock ∧ some k_ ≠ (.slice Ao33 y659.length co33 : Value).ownBlock ∧ some k_ ≠ (.slice Ao35 y662.length co35 : Value).ownBlock ∧ some k_ ≠ (v666 : Value).ownBlock ∧ k_ ≠ gb642 ∧ k_ ≠ gb643) (Kd.S_N (Kd.S_bound ho0)) (fun k_ hk_ => ⟨(Kd.fresh' (Kd.R_lt (by (with_reducible repeat (first | apply Kd.R_alloc | apply Kd.R_drewN | apply Kd.R_drew)); exact HO648.out)) k_ hk_.2.1), (Kd.fresh' (Kd.N_lt (by (with_reducible repeat (first | apply Kd.N_alloc | apply Kd.N_drewN | apply Kd.N_drew)); exact HO651.out)) k_ hk_.2.1), (Kd.fresh' (Kd.R_lt (by (with_reducible repeat (first | apply Kd.R_alloc | apply Kd.R_drewN | apply Kd.R_drew)); exact HO661.out)) k_ hk_.2.1), (Kd.fresh' (Kd.R_lt (by (with_reducible repeat (first | apply Kd.R_alloc | apply Kd.R_drewN | apply Kd.R_drew)); exact HO664.out)) k_ hk_.2.1), (Kd.fresh' (Kd.N_lt (by (with_reducible repeat (first | apply Kd.N_alloc | apply Kd.N_drewN | apply Kd.N_drew)); exact HO667.out)) k_ hk_.2.1), (Kd.freshB (g := gb642) (o := .cells #[.int .u8 a0_0, .int .u8 a0_1, .int .u8 a0_2, .slice A0_3 l0_3.length c0_3] 66 (0, 0)) (by (with_reducible repeat (first | refine blk_drewN ?_ _ | refine blk_drew ?_ | refine blk_alloc ?_ _)); exact BK642.out) k_ hk_.2.1), (Kd.freshB (g := gb643) (o := .cells #[.int .u8 a1_0, .int .u8 a1_1] 67 (0, 0)) (by (with_reducible repeat (first | refine blk_drewN ?_ _ | refine blk_drew ?_ | refine blk_alloc ?_ _)); exact BK643.out) k_ hk_.2.1)⟩)) (below_size (by repeat (first | (with_reducible first | exact HB.out | apply below_alloc | apply pw_below_drewN | apply below_drew1 | refine below_set ?_ GE642.out | refine below_set ?_ GE643.out) | exact HB.out)))); have n6_ := Aside0.mk (blk_below (g := gb642) (o := .cells #[.int .u8 a0_0, .int .u8 a0_1, .int .u8 a0_2, .slice A0_3 l0_3.length c0_3] 66 (0, 0)) (by (with_reducible repeat (first | refine blk_drewN ?_ _ | refine blk_drew ?_ | refine blk_alloc ?_ _)); exact BK642.out) hb); have n7_ := Aside0.mk (blk_below (g := gb643) (o := .cells #[.int .u8 a1_0, .int .u8 a1_1] 67 (0, 0)) (by (with_reducible repeat (first | refine blk_drewN ?_ _ | refine blk_drew ?_ | refine blk_alloc ?_ _)); exact BK643.out) hb); have n8_ := Aside0.mk (below_step (by repeat (first | (with_reducible first | exact HB.out | apply below_alloc | apply pw_below_drewN | apply below_drew1 | refine below_set ?_ GE642.out | refine below_set ?_ GE643.out) | exact HB.out)) hb); clear HO648; clear HO651; clear HO661; clear HO664; clear HO667; clear BK642; clear BK643; clear HB; have HO648 := n0_; have HO651 := n1_; have HO661 := n2_; have HO664 := n3_; have HO667 := n4_; have HO670 := n5_; have BK642 := n6_; have BK643 := n7_; have HB := n8_; clear n0_ n1_ n2_ n3_ n4_ n5_ n6_ n7_ n8_; (try clear hb); (try clear hb2); (try clear hk); (try clear hi); (try clear ho0)) | ((with_reducible refine gate_dst (N := 65) rfl ?_); refine Kd.N_lit (Kd.slice 3 (Kd.int .i64)) _ 37 ?hg (N' := 65) ?hd (xs := ([] : List (List Int))) (inner := []) (ok := (fun k_ => some k_ ≠ (.slice Ao24 t646.length co24 : Value).ownBlock ∧ some k_ ≠ (v650 : Value).ownBlock ∧ some k_ ≠ (.slice Ao33 y659.length co33 : Value).ownBlock ∧ some k_ ≠ (.slice Ao35 y662.length co35 : Value).ownBlock ∧ some k_ ≠ (v666 : Value).ownBlock ∧ some k_ ≠ (v669 : Value).ownBlock ∧ k_ ≠ gb642 ∧ k_ ≠ gb643)) (okp := (fun k_ => some k_ ≠ (.slice Ao24 t646.length co24 : Value).ownBlock ∧ some k_ ≠ (v650 : Value).ownBlock ∧ some k_ ≠ (.slice Ao33 y659.length co33 : Value).ownBlock ∧ some k_ ≠ (.slice Ao35 y662.length co35 : Value).ownBlock ∧ some k_ ≠ (v666 : Value).ownBlock ∧ some k_ ≠ (v669 : Value).ownBlock ∧ k_ ≠ gb642 ∧ k_ ≠ gb643)) ?hr ?hp (fun _ hk => hk) ((show ∀ k_, w36.heap.size ≤ k_ → (fun k_ => some k_ ≠ (.slice Ao24 t646.length co24 : Value).ownBlock ∧ some k_ ≠ (v650 : Value).ownBlock ∧ some k_ ≠ (.slice Ao33 y659.length co33 : Value).ownBlock ∧ some k_ ≠ (.slice Ao35 y662.length co35 : Value).ownBlock ∧ some k_ ≠ (v666 : Value).ownBlock ∧ some k_ ≠ (v669 : Value).ownBlock ∧ k_ ≠ gb642 ∧ k_ ≠ gb643) k_ from fun k_ hk => ⟨Kd.fresh' (Kd.R_lt (by (with_reducible repeat (first | apply Kd.R_alloc | apply Kd.R_drewN | apply Kd.R_drew)); exact HO648.out)) k_ hk, Kd.fresh' (Kd.N_lt (by (with_reducible repeat (first | apply Kd.N_alloc | apply Kd.N_drewN | apply Kd.N_drew)); exact HO651.out)) k_ hk, Kd.fresh' (Kd.R_lt (by (with_reducible repeat (first | apply Kd.R_alloc | apply Kd.R_drewN | apply Kd.R_drew)); exact HO661.out)) k_ hk, Kd.fresh' (Kd.R_lt (by (with_reducible repeat (first | apply Kd.R_alloc | apply Kd.R_drewN | apply Kd.R_drew)); exact HO664.out)) k_ hk, Kd.fresh' (Kd.N_lt (by (with_reducible repeat (first | apply Kd.N_alloc | apply Kd.N_drewN | apply Kd.N_drew)); exact HO667.out)) k_ hk, Kd.fresh' (Kd.N_lt (by (with_reducible repeat (first | apply Kd.N_alloc | apply Kd.N_drewN | apply Kd.N_drew)); exact HO670.out)) k_ hk, Kd.freshB (g := gb642) (o := .cells #[.int .u8 a0_0, .int .u8 a0_1, .int .u8 a0_2, .slice A0_3 l0_3.length c0_3] 66 (0, 0)) (by (with_reducible repeat (first | refine blk_drewN ?_ _ | refine blk_drew ?_ | refine blk_alloc ?_ _)); exact BK642.out) k_ hk, Kd.freshB (g := gb643) (o := .cells #[.int .u8 a1_0, .int .u8 a1_1] 67 (0, 0)) (by (with_reducible repeat (first | refine blk_drewN ?_ _ | refine blk_drew ?_ | refine blk_alloc ?_ _)); exact BK643.out) k_ hk⟩) _ (Nat.le_refl _)) (Below.refl _ _) (Nat.le_refl _) (by simp) ?_; (case hd => rfl); (case hg => rfl); (case hr => first | (go_simp; done) | (go_simp; rfl)); (case hp => exact (Reps.none _ _)); intro v672 w37 ho38 hb hg_ hnew_; clear hg_ hnew_; (first | rw [← Ny671.out] at ho38 | (simp only [Int.reduceToNat] at ho38; rw [← Ny671.out] at ho38)); have n0_ := Aside0.mk (Kd.R_below (by (with_reducible repeat (first | apply Kd.R_alloc | apply Kd.R_drewN | apply Kd.R_drew)); exact HO648.out) hb); have n1_ := Aside0.mk (Kd.N_elder' (by (with_reducible repeat (first | apply Kd.N_alloc | apply Kd.N_drewN | apply Kd.N_drew)); exact HO651.out) (Kd.N_base ho38) hb); have n2_ := Aside0.mk (Kd.R_below (by (with_reducible repeat (first | apply Kd.R_alloc | apply Kd.R_drewN | apply Kd.R_drew)); exact HO661.out) hb); have n3_ := Aside0.mk (Kd.R_below (by (with_reducible repeat (first | apply Kd.R_alloc | apply Kd.R_drewN | apply Kd.R_drew)); exact HO664.out) hb); have n4_ := Aside0.mk (Kd.N_elder' (by (with_reducible repeat (first | apply Kd.N_alloc | apply Kd.N_drewN | apply Kd.N_drew)); exact HO667.out) (Kd.N_base ho38) hb); have n5_ := Aside0.mk (Kd.N_elder' (by (with_reducible repeat (first | apply Kd.N_alloc | apply Kd.N_drewN | apply Kd.N_drew)); exact HO670.out) (Kd.N_base ho38) hb); have n6_ := Aside0.mk (Kd.N_lower ho38 (below_size (by repeat (first | (with_reducible first | exact HB.out | apply below_alloc | apply pw_below_drewN | apply below_drew1 | refine below_set ?_ GE642.out | refine below_set ?_ GE643.out) | exact HB.out)))); have n7_ := Aside0.mk (blk_below (g := gb642) (o := .cells #[.int .u8 a0_0, .int .u8 a0_1, .int .u8 a0_2, .slice A0_3 l0_3.length c0_3] 66 (0, 0)) (by (with_reducible repeat (first | refine blk_drewN ?_ _ | refine blk_drew ?_ | refine blk_alloc ?_ _)); exact BK642.out) hb); have n8_ := Aside0.mk (blk_below (g := gb643) (o := .cells #[.int .u8 a1_0, .int .u8 a1_1] 67 (0, 0)) (by (with_reducible repeat (first | refine blk_drewN ?_ _ | refine blk_drew ?_ | refine blk_alloc ?_ _)); exact BK643.out) hb); have n9_ := Aside0.mk (below_step (by repeat (first | (with_reducible first | exact HB.out | apply below_alloc | apply pw_below_drewN | apply below_drew1 | refine below_set ?_ GE642.out | refine below_set ?_ GE643.out) | exact HB.out)) hb); clear HO648; clear HO651; clear HO661; clear HO664; clear HO667; clear HO670; clear BK642; clear BK643; clear HB; have HO648 := n0_; have HO651 := n1_; have HO661 := n2_; have HO664 := n3_; have HO667 := n4_; have HO670 := n5_; have HO673 := n6_; have BK642 := n7_; have BK643 := n8_; have HB := n9_; clear n0_ n1_ n2_ n3_ n4_ n5_ n6_ n7_ n8_ n9_; clear hb ho38))
            go_loopg [13, 14] k (fun kq v13 v14 w' => ∃ (x13_1 : List (List Int)) (x14_1 : Int), v14 = .int .i64 x14_1 ∧ Aside0 (wogglelaw09_HatMore.l0 kq t644 t645 t646 t649 y662 t665 t668 x13_1 x14_1 = some r) ∧ Aside0 (kq ≤ k) ∧ Aside0 (Kd.R k71 71 w' w.heap.size (fun k_ => some k_ ≠ ((.slice Ao35 y662.length co35) : Value).ownBlock) (.slice Ao24 t646.length co24) t646) ∧ Aside0 (Kd.N (Kd.slice 3 (Kd.int .i64)) 37 w' w.heap.size (fun k_ => some k_ ≠ ((.slice Ao24 t646.length co24) : Value).ownBlock ∧ some k_ ≠ ((.slice Ao35 y662.length co35) : Value).ownBlock ∧ some k_ ≠ (v666 : Value).ownBlock ∧ some k_ ≠ (v669 : Value).ownBlock ∧ some k_ ≠ (v13 : Value).ownBlock ∧ k_ ≠ gb642 ∧ k_ ≠ gb643) v650 t649) ∧ Aside0 (Kd.R k71 71 w' w.heap.size (fun k_ => some k_ ≠ ((.slice Ao24 t646.length co24) : Value).ownBlock) (.slice Ao35 y662.length co35) y662) ∧ Aside0 (Kd.N (Kd.slice 3 (Kd.int .i64)) 37 w' w.heap.size (fun k_ => some k_ ≠ ((.slice Ao24 t646.length co24) : Value).ownBlock ∧ some k_ ≠ (v650 : Value).ownBlock ∧ some k_ ≠ ((.slice Ao35 y662.length co35) : Value).ownBlock ∧ some k_ ≠ (v669 : Value).ownBlock ∧ some k_ ≠ (v13 : Value).ownBlock ∧ k_ ≠ gb642 ∧ k_ ≠ gb643) v666 t665) ∧ Aside0 (Kd.N (Kd.slice 3 (Kd.int .i64)) 37 w' w.heap.size (fun k_ => some k_ ≠ ((.slice Ao24 t646.length co24) : Value).ownBlock ∧ some k_ ≠ (v650 : Value).ownBlock ∧ some k_ ≠ ((.slice Ao35 y662.length co35) : Value).ownBlock ∧ some k_ ≠ (v666 : Value).ownBlock ∧ some k_ ≠ (v13 : Value).ownBlock ∧ k_ ≠ gb642 ∧ k_ ≠ gb643) v669 t668) ∧ Aside0 (Kd.N (Kd.slice 3 (Kd.int .i64)) 37 w' w.heap.size (fun k_ => some k_ ≠ ((.slice Ao24 t646.length co24) : Value).ownBlock ∧ some k_ ≠ (v650 : Value).ownBlock ∧ some k_ ≠ ((.slice Ao35 y662.length co35) : Value).ownBlock ∧ some k_ ≠ (v666 : Value).ownBlock ∧ some k_ ≠ (v669 : Value).ownBlock ∧ k_ ≠ gb642 ∧ k_ ≠ gb643) v13 x13_1) ∧ Aside0 (w'.heap[gb642]? = some (.cells #[.int .u8 a0_0, .int .u8 a0_1, .int .u8 a0_2, (.slice A0_3 l0_3.length c0_3)] 66 (0, 0))) ∧ Aside0 (w'.heap[gb643]? = some (.cells #[.int .u8 a1_0, .int .u8 a1_1] 67 (0, 0))) ∧ Aside0 (Below w.heap.size w w'))
            case atStart => exact ⟨(y671), (0), (by first | rfl | (simp; done) | (simp [*]; done)), H', ⟨Nat.le_refl _⟩, ⟨by (with_reducible repeat (first | apply Kd.R_alloc | apply Kd.R_drewN | apply Kd.R_drew)); exact Kd.R_mono HO648.out (fun _ hk => hk.2)⟩, ⟨by (with_reducible repeat (first | apply Kd.N_alloc | apply Kd.N_drewN | apply Kd.N_drew)); exact Kd.N_mono HO651.out (fun _ hk => ⟨hk.1.1.1.1.1, ⟨hk.1.1.1.2, ⟨hk.1.1.2, ⟨hk.1.2, ⟨hk.2, ⟨hk.1.1.1.1.2.2.1, hk.1.1.1.1.2.2.2⟩⟩⟩⟩⟩⟩)⟩, ⟨by (with_reducible repeat (first | apply Kd.R_alloc | apply Kd.R_drewN | apply Kd.R_drew)); exact Kd.R_mono HO664.out (fun _ hk => hk.1)⟩, ⟨by (with_reducible repeat (first | apply Kd.N_alloc | apply Kd.N_drewN | apply Kd.N_drew)); exact Kd.N_mono HO667.out (fun _ hk => ⟨hk.1.1.1, ⟨hk.1.1.2.1, ⟨hk.1.1.2.2.2.1, ⟨hk.1.2, ⟨hk.2, ⟨hk.1.1.2.2.2.2.1, hk.1.1.2.2.2.2.2⟩⟩⟩⟩⟩⟩)⟩, ⟨by (with_reducible repeat (first | apply Kd.N_alloc | apply Kd.N_drewN | apply Kd.N_drew)); exact Kd.N_mono HO670.out (fun _ hk => ⟨hk.1.1, ⟨hk.1.2.1, ⟨hk.1.2.2.2.1, ⟨hk.1.2.2.2.2.1, ⟨hk.2, ⟨hk.1.2.2.2.2.2.1, hk.1.2.2.2.2.2.2⟩⟩⟩⟩⟩⟩)⟩, ⟨by (with_reducible repeat (first | apply Kd.N_alloc | apply Kd.N_drewN | apply Kd.N_drew)); exact Kd.N_mono HO673.out (fun _ hk => ⟨hk.1, ⟨hk.2.1, ⟨hk.2.2.2.1, ⟨hk.2.2.2.2.1, ⟨hk.2.2.2.2.2.1, ⟨hk.2.2.2.2.2.2.1, hk.2.2.2.2.2.2.2⟩⟩⟩⟩⟩⟩)⟩, ⟨by (with_reducible repeat (first | refine blk_drewN ?_ _ | refine blk_drew ?_ | refine blk_alloc ?_ _)); exact BK642.out⟩, ⟨by (with_reducible repeat (first | refine blk_drewN ?_ _ | refine blk_drew ?_ | refine blk_alloc ?_ _)); exact BK643.out⟩, ⟨by repeat (first | (with_reducible first | exact HB.out | apply below_alloc | apply pw_below_drewN | apply below_drew1 | refine below_set ?_ GE642.out | refine below_set ?_ GE643.out) | exact HB.out)⟩⟩
            case round =>
              clear H'
              try clear c1
              try clear c2
              try clear p2
              try clear c4
              try clear c4b0
              try clear p6
              try clear c8
              try clear c12
              try clear c12b0
              try clear c12b1
              try clear c13
              try clear c14
              try clear c14b0
              try clear c14b1
              try clear c15
              try clear c20
              try clear c22
              try clear hcz21_0
              try clear hcz21_1
              try clear hcz21_2
              try clear hcz21_3
              try clear hcz23_0
              try clear hcz23_1
              try clear hcz9_0
              try clear hcz9_1
              try clear hcz9_2
              try clear hcz9_3
              try clear hfz21_0
              try clear hfz21_1
              try clear hfz21_2
              try clear hfz21_3
              try clear hfz23_0
              try clear hfz23_1
              try clear hfz9_0
              try clear hfz9_1
              try clear hfz9_2
              try clear hfz9_3
              obtain ⟨x13_1, x14_1, rfl, HA, HK1, HO_7, HO_8, HO_10, HO_11, HO_12, HO_13, BK642, BK643, HB⟩ := hrel
              cases gk with
              | zero => exact absurd HA.out (by simp [wogglelaw09_HatMore.l0])
              | succ k1 =>
                have H := HA.out
                clear HA
                simp only [wogglelaw09_HatMore.l0] at H
                by_cases c39 : x14_1 < t644
                · rw [if_pos c39] at H
                  have c39b0 : decide (x14_1 < t644) = true := decide_eq_true c39
                  clear c39
                  obtain ⟨y674, hy674⟩ : ∃ y_ : List Int, y_ = (([] : List Int)) := ⟨_, rfl⟩
                  replace H : (wogglelaw09_HatMore.l1 k1 t644 t645 t646 t649 y662 t665 t668 x13_1 x14_1 y674 0) = some r := by first | (rw [hy674]; with_reducible exact H) | (have H2_ := (Option.bind_some _ _).symm.trans H; rw [hy674]; with_reducible exact H2_) | (have H2_ := (Option.bind_some _ _).symm.trans H; with_reducible exact H2_) | with_reducible exact H | (rw [hy674]; exact H) | exact H
                  have Ny674 := Aside0.mk hy674
                  clear hy674
                  have H' := Aside0.mk H
                  clear H
                  go_wp2_with (first | ((with_reducible refine gate_dst (N := 71) rfl ?_); refine Kd.R_lit (Kd.int .i64) _ 3 ?hg (N := 71) ?hd (xs := ([] : List Int)) (inner := []) (ok := fun _ => True) (okp := fun _ => True) ?hr ?hp (fun _ hk => hk) trivial (Below.refl _ _) (Nat.le_refl _) (by simp) ?_; (case hd => rfl); (case hg => rfl); (case hr => first | (go_simp; done) | (go_simp; rfl)); (case hp => exact (Reps.none _ _)); intro v675 w40 ho41 hb hg_ hnew_; clear hg_ hnew_; (first | rw [← Ny674.out] at ho41 | (simp only [Int.reduceToNat] at ho41; rw [← Ny674.out] at ho41)); have n0_ := Aside0.mk (Kd.R_below (by (with_reducible repeat (first | apply Kd.R_alloc | apply Kd.R_drewN | apply Kd.R_drew)); exact HO_7.out) hb); have n1_ := Aside0.mk (Kd.N_elder' (by (with_reducible repeat (first | apply Kd.N_alloc | apply Kd.N_drewN | apply Kd.N_drew)); exact HO_8.out) (Kd.R_base ho41) hb); have n2_ := Aside0.mk (Kd.R_below (by (with_reducible repeat (first | apply Kd.R_alloc | apply Kd.R_drewN | apply Kd.R_drew)); exact HO_10.out) hb); have n3_ := Aside0.mk (Kd.N_elder' (by (with_reducible repeat (first | apply Kd.N_alloc | apply Kd.N_drewN | apply Kd.N_drew)); exact HO_11.out) (Kd.R_base ho41) hb); have n4_ := Aside0.mk (Kd.N_elder' (by (with_reducible repeat (first | apply Kd.N_alloc | apply Kd.N_drewN | apply Kd.N_drew)); exact HO_12.out) (Kd.R_base ho41) hb); have n5_ := Aside0.mk (Kd.N_elder' (by (with_reducible repeat (first | apply Kd.N_alloc | apply Kd.N_drewN | apply Kd.N_drew)); exact HO_13.out) (Kd.R_base ho41) hb); have n6_ := Aside0.mk (Kd.R_lower ho41 (below_size (by repeat (first | (with_reducible first | exact HB.out | apply below_alloc | apply pw_below_drewN | apply below_drew1 | refine below_set ?_ GE642.out | refine below_set ?_ GE643.out) | exact HB.out)))); have n7_ := Aside0.mk (blk_below (g := gb642) (o := .cells #[.int .u8 a0_0, .int .u8 a0_1, .int .u8 a0_2, .slice A0_3 l0_3.length c0_3] 66 (0, 0)) (by (with_reducible repeat (first | refine blk_drewN ?_ _ | refine blk_drew ?_ | refine blk_alloc ?_ _)); exact BK642.out) hb); have n8_ := Aside0.mk (blk_below (g := gb643) (o := .cells #[.int .u8 a1_0, .int .u8 a1_1] 67 (0, 0)) (by (with_reducible repeat (first | refine blk_drewN ?_ _ | refine blk_drew ?_ | refine blk_alloc ?_ _)); exact BK643.out) hb); have n9_ := Aside0.mk (below_step (by repeat (first | (with_reducible first | exact HB.out | apply below_alloc | apply pw_below_drewN | apply below_drew1 | refine below_set ?_ GE642.out | refine below_set ?_ GE643.out) | exact HB.out)) hb); clear HO_7; clear HO_8; clear HO_10; clear HO_11; clear HO_12; clear HO_13; clear BK642; clear BK643; clear HB; have HO_7 := n0_; have HO_8 := n1_; have HO_10 := n2_; have HO_11 := n3_; have HO_12 := n4_; have HO_13 := n5_; have HO676 := n6_; have BK642 := n7_; have BK643 := n8_; have HB := n9_; clear n0_ n1_ n2_ n3_ n4_ n5_ n6_ n7_ n8_ n9_; clear hb ho41))
                  go_loopg [15, 16] k1 (fun kq v15 v16 w' => ∃ (x15_2 : List Int) (x16_2 : Int), v16 = .int .i64 x16_2 ∧ Aside0 (wogglelaw09_HatMore.l1 kq t644 t645 t646 t649 y662 t665 t668 x13_1 x14_1 x15_2 x16_2 = some r) ∧ Aside0 (kq ≤ k1) ∧ Aside0 (Kd.R k71 71 w' w.heap.size (fun k_ => some k_ ≠ ((.slice Ao35 y662.length co35) : Value).ownBlock) (.slice Ao24 t646.length co24) t646) ∧ Aside0 (Kd.N (Kd.slice 3 (Kd.int .i64)) 37 w' w.heap.size (fun k_ => some k_ ≠ ((.slice Ao24 t646.length co24) : Value).ownBlock ∧ some k_ ≠ ((.slice Ao35 y662.length co35) : Value).ownBlock ∧ some k_ ≠ (v666 : Value).ownBlock ∧ some k_ ≠ (v669 : Value).ownBlock ∧ some k_ ≠ (u13 : Value).ownBlock ∧ some k_ ≠ (v15 : Value).ownBlock ∧ k_ ≠ gb642 ∧ k_ ≠ gb643) v650 t649) ∧ Aside0 (Kd.R k71 71 w' w.heap.size (fun k_ => some k_ ≠ ((.slice Ao24 t646.length co24) : Value).ownBlock) (.slice Ao35 y662.length co35) y662) ∧ Aside0 (Kd.N (Kd.slice 3 (Kd.int .i64)) 37 w' w.heap.size (fun k_ => some k_ ≠ ((.slice Ao24 t646.length co24) : Value).ownBlock ∧ some k_ ≠ (v650 : Value).ownBlock ∧ some k_ ≠ ((.slice Ao35 y662.length co35) : Value).ownBlock ∧ some k_ ≠ (v669 : Value).ownBlock ∧ some k_ ≠ (u13 : Value).ownBlock ∧ some k_ ≠ (v15 : Value).ownBlock ∧ k_ ≠ gb642 ∧ k_ ≠ gb643) v666 t665) ∧ Aside0 (Kd.N (Kd.slice 3 (Kd.int .i64)) 37 w' w.heap.size (fun k_ => some k_ ≠ ((.slice Ao24 t646.length co24) : Value).ownBlock ∧ some k_ ≠ (v650 : Value).ownBlock ∧ some k_ ≠ ((.slice Ao35 y662.length co35) : Value).ownBlock ∧ some k_ ≠ (v666 : Value).ownBlock ∧ some k_ ≠ (u13 : Value).ownBlock ∧ some k_ ≠ (v15 : Value).ownBlock ∧ k_ ≠ gb642 ∧ k_ ≠ gb643) v669 t668) ∧ Aside0 (Kd.N (Kd.slice 3 (Kd.int .i64)) 37 w' w.heap.size (fun k_ => some k_ ≠ ((.slice Ao24 t646.length co24) : Value).ownBlock ∧ some k_ ≠ (v650 : Value).ownBlock ∧ some k_ ≠ ((.slice Ao35 y662.length co35) : Value).ownBlock ∧ some k_ ≠ (v666 : Value).ownBlock ∧ some k_ ≠ (v669 : Value).ownBlock ∧ some k_ ≠ (v15 : Value).ownBlock ∧ k_ ≠ gb642 ∧ k_ ≠ gb643) u13 x13_1) ∧ Aside0 (Kd.R (Kd.int .i64) 3 w' w.heap.size (fun _ => True) v15 x15_2) ∧ Aside0 (w'.heap[gb642]? = some (.cells #[.int .u8 a0_0, .int .u8 a0_1, .int .u8 a0_2, (.slice A0_3 l0_3.length c0_3)] 66 (0, 0))) ∧ Aside0 (w'.heap[gb643]? = some (.cells #[.int .u8 a1_0, .int .u8 a1_1] 67 (0, 0))) ∧ Aside0 (Below w.heap.size w w'))
                  case atStart => exact ⟨(y674), (0), (by first | rfl | (simp; done) | (simp [*]; done)), H', ⟨Nat.le_refl _⟩, ⟨by (with_reducible repeat (first | apply Kd.R_alloc | apply Kd.R_drewN | apply Kd.R_drew)); exact HO_7.out⟩, ⟨by (with_reducible repeat (first | apply Kd.N_alloc | apply Kd.N_drewN | apply Kd.N_drew)); exact Kd.N_mono HO_8.out (fun _ hk => ⟨hk.1.1, ⟨hk.1.2.1, ⟨hk.1.2.2.1, ⟨hk.1.2.2.2.1, ⟨hk.1.2.2.2.2.1, ⟨hk.2, ⟨hk.1.2.2.2.2.2.1, hk.1.2.2.2.2.2.2⟩⟩⟩⟩⟩⟩⟩)⟩, ⟨by (with_reducible repeat (first | apply Kd.R_alloc | apply Kd.R_drewN | apply Kd.R_drew)); exact HO_10.out⟩, ⟨by (with_reducible repeat (first | apply Kd.N_alloc | apply Kd.N_drewN | apply Kd.N_drew)); exact Kd.N_mono HO_11.out (fun _ hk => ⟨hk.1.1, ⟨hk.1.2.1, ⟨hk.1.2.2.1, ⟨hk.1.2.2.2.1, ⟨hk.1.2.2.2.2.1, ⟨hk.2, ⟨hk.1.2.2.2.2.2.1, hk.1.2.2.2.2.2.2⟩⟩⟩⟩⟩⟩⟩)⟩, ⟨by (with_reducible repeat (first | apply Kd.N_alloc | apply Kd.N_drewN | apply Kd.N_drew)); exact Kd.N_mono HO_12.out (fun _ hk => ⟨hk.1.1, ⟨hk.1.2.1, ⟨hk.1.2.2.1, ⟨hk.1.2.2.2.1, ⟨hk.1.2.2.2.2.1, ⟨hk.2, ⟨hk.1.2.2.2.2.2.1, hk.1.2.2.2.2.2.2⟩⟩⟩⟩⟩⟩⟩)⟩, ⟨by (with_reducible repeat (first | apply Kd.N_alloc | apply Kd.N_drewN | apply Kd.N_drew)); exact Kd.N_mono HO_13.out (fun _ hk => ⟨hk.1.1, ⟨hk.1.2.1, ⟨hk.1.2.2.1, ⟨hk.1.2.2.2.1, ⟨hk.1.2.2.2.2.1, ⟨hk.2, ⟨hk.1.2.2.2.2.2.1, hk.1.2.2.2.2.2.2⟩⟩⟩⟩⟩⟩⟩)⟩, ⟨by (with_reducible repeat (first | apply Kd.R_alloc | apply Kd.R_drewN | apply Kd.R_drew)); exact HO676.out⟩, ⟨by (with_reducible repeat (first | refine blk_drewN ?_ _ | refine blk_drew ?_ | refine blk_alloc ?_ _)); exact BK642.out⟩, ⟨by (with_reducible repeat (first | refine blk_drewN ?_ _ | refine blk_drew ?_ | refine blk_alloc ?_ _)); exact BK643.out⟩, ⟨by repeat (first | (with_reducible first | exact HB.out | apply below_alloc | apply pw_below_drewN | apply below_drew1 | refine below_set ?_ GE642.out | refine below_set ?_ GE643.out) | exact HB.out)⟩⟩
                  case round =>
                    clear H'
                    try clear c1
                    try clear c2
                    try clear p2
                    try clear c3
                    try clear c4
                    try clear c4b0
                    try clear p6
                    try clear c8
                    try clear c12
                    try clear c12b0
                    try clear c12b1
                    try clear c13
                    try clear c14
                    try clear c14b0
                    try clear c14b1
                    try clear c15
                    try clear c20
                    try clear c22
                    try clear c39
                    try clear c39b0
                    try clear hcz21_0
                    try clear hcz21_1
                    try clear hcz21_2
                    try clear hcz21_3
                    try clear hcz23_0
                    try clear hcz23_1
                    try clear hcz9_0
                    try clear hcz9_1
                    try clear hcz9_2
                    try clear hcz9_3
                    try clear hfz21_0
                    try clear hfz21_1
                    try clear hfz21_2
                    try clear hfz21_3
                    try clear hfz23_0
                    try clear hfz23_1
                    try clear hfz9_0
                    try clear hfz9_1
                    try clear hfz9_2
                    try clear hfz9_3
                    try clear p2
                    try clear p6
                    obtain ⟨x15_2, x16_2, rfl, HA, HK2, HO_7, HO_8, HO_10, HO_11, HO_12, HO_13, HO_15, BK642, BK643, HB⟩ := hrel
                    cases gk with
                    | zero => exact absurd HA.out (by simp [wogglelaw09_HatMore.l1])
                    | succ k2 =>
                      have H := HA.out
                      clear HA
                      simp only [wogglelaw09_HatMore.l1] at H
                      by_cases c42 : 0 ≤ x14_1
                      · rw [if_pos c42] at H
                        have c42b0 : decide (0 ≤ x14_1) = true := decide_eq_true c42
                        clear c42
                        by_cases c43 : x14_1 < (t668.length : Int)
                        · rw [if_pos c43] at H
                          have c43b0 : decide (x14_1 < (t668.length : Int)) = true := decide_eq_true c43
                          clear c43
                          replace H := Option.bind_eq_some_iff.mp H
                          obtain ⟨t678, A440, H⟩ := H
                          replace H : (if x16_2 < t678 then (if 0 ≤ t644 then (if (t644 : Int).toNat ≤ 35184372088832 then (wogglelaw09_HatMore.l2 k2 t644 t645 t646 t649 y662 t665 t668 x13_1 x14_1 x15_2 x16_2 (List.replicate (t644 : Int).toNat 0) x16_2 0) else (none)) else (none)) else ((some (([x15_2] : List (List Int)) : List (List Int))).bind fun y679 => (if x13_1.length + y679.length < 5864062014805 then (wogglelaw09_HatMore.l0 k2 t644 t645 t646 t649 y662 t665 t668 (x13_1 ++ y679) (wrap64 (x14_1 + 1))) else (none)))) = some r := H
                          have A44 := Aside0.mk A440
                          clear A440
                          by_cases c45 : x16_2 < t678
                          · rw [if_pos c45] at H
                            have c45b0 : decide (x16_2 < t678) = true := decide_eq_true c45
                            clear c45
                            by_cases c46 : 0 ≤ t644
                            · rw [if_pos c46] at H
                              have c46b0 := eq_true c46
                              have c46b1 : decide (0 ≤ t644) = true := decide_eq_true c46
                              clear c46
                              by_cases c47 : (t644 : Int).toNat ≤ 35184372088832
                              · rw [if_pos c47] at H
                                have c47b0 := eq_true c47
                                have c47b1 : decide ((t644 : Int).toNat ≤ 35184372088832) = true := decide_eq_true c47
                                clear c47
                                obtain ⟨y685, hy685⟩ : ∃ y_ : List Int, y_ = (List.replicate (t644 : Int).toNat 0) := ⟨_, rfl⟩
                                replace H : (wogglelaw09_HatMore.l2 k2 t644 t645 t646 t649 y662 t665 t668 x13_1 x14_1 x15_2 x16_2 y685 x16_2 0) = some r := by first | (rw [hy685]; with_reducible exact H) | (have H2_ := (Option.bind_some _ _).symm.trans H; rw [hy685]; with_reducible exact H2_) | (have H2_ := (Option.bind_some _ _).symm.trans H; with_reducible exact H2_) | with_reducible exact H | (rw [hy685]; exact H) | exact H
                                have Ny685 := Aside0.mk hy685
                                clear hy685
                                have H' := Aside0.mk H
                                clear H
                                obtain ⟨Ao48, co48, eo48⟩ := Kd.N_slice HO_12.out
                                subst eo48
                                have p677 : 0 ≤ (x14_1 : Int) := of_decide_eq_true (by first | (with_reducible assumption) | assumption)
                                have q677 : x14_1 < (t668.length : Int) := of_decide_eq_true (by first | (with_reducible assumption) | assumption)
                                obtain ⟨ad677, A677_0, c677_0, e677, hx677_0, hl677_0, hi677_0⟩ := at_L2 (Kd.N_reads' HO_12.out).2.2 x14_1 p677 q677
                                cases e677
                                obtain ⟨ce677, hce677, hMe677, hcc677⟩ := Kd.N_get HO_12.out [] x14_1 p677 (by first | exact q677 | exact of_decide_eq_true (by first | (with_reducible assumption) | assumption) | (have e_ := (Kd.N_reads' HO_12.out).1; omega))
                                obtain ⟨ua677_0, uc677_0, rfl, ul677_0, ge677_0⟩ := Kd.FK_slice_open hMe677
                                have hv677_0 := hcc677 0 _ rfl
                                rw [Nat.add_zero, show ((Kd.slice 3 (Kd.int .i64))).sz = 1 from rfl, Nat.mul_one] at hv677_0
                                replace hv677_0 := Option.some.inj (hv677_0.symm.trans hx677_0)
                                injection hv677_0 with hva_ hvn_ hvc_
                                rw [hva_] at ge677_0
                                rw [hvc_] at ul677_0
                                have HL677_0 := Aside0.mk (show Kd.V (Kd.int .i64) 3 _ w.heap.size _ _ (rd_L2 t668 x14_1) from Kd.V_mk ul677_0 ge677_0)
                                clear hva_ hvn_ hvc_ ge677_0 ul677_0
                                clear hcc677 hce677
                                have HR677_0 := Aside0.mk hi677_0
                                have HC677_0 := Aside0.mk hl677_0
                                clear hi677_0 hl677_0
                                replace p677 := eq_true p677
                                replace q677 := eq_true q677
                                go_wp2_with (first | ((with_reducible refine gate_callee (f := 45) rfl ?_); refine goesL_ (some 79) rfl rfl Try.func45 (by kernel_rfl) rfl #[.int .i64 t645, .int .i64 ((rd_L2 t668 x14_1).length : Int)] rfl (by (try simp only [List.map_toArray, List.map_cons, List.map_nil]); first | done | rfl | (simp only [List.length_drop, List.length_take]; rfl)) ?_; (with_reducible refine (woggleref09_Power.calls k2 t645 ((rd_L2 t668 x14_1).length : Int) t678 _ A44.out).mono ?_); rintro e w' ⟨rfl, ⟨nd, rfl⟩⟩; refine ⟨_, rfl, ?_⟩) | ((with_reducible refine gate_dst (N := 84) rfl ?_); refine Kd.R_make (Kd.int .i64) _ 3 rfl (N := 84) rfl 37 _ _ rfl t644 rfl rfl Try.underlying37 (.int .i64 0) 8 info3 rfl (by decide) (by omega) 0 (ok := fun _ => True) (okp := fun _ => True) rfl (fun _ hk => hk) trivial (of_decide_eq_true (by first | (with_reducible assumption) | assumption)) (Nat.le_trans (Nat.mul_le_mul_right _ (of_decide_eq_true (by first | (with_reducible assumption) | assumption) : t644.toNat ≤ 35184372088832)) (by omega)) (Below.refl _ _) (Nat.le_refl _) ?_; intro v686 w49 ho50 hb hg_ hnew_; clear hg_ hnew_; (first | rw [← Ny685.out] at ho50 | (simp only [Int.reduceToNat] at ho50; rw [← Ny685.out] at ho50)); have n0_ := Aside0.mk (Kd.R_below (by (with_reducible repeat (first | apply Kd.R_alloc | apply Kd.R_drewN | apply Kd.R_drew)); exact HO_7.out) hb); have n1_ := Aside0.mk (Kd.N_elder' (by (with_reducible repeat (first | apply Kd.N_alloc | apply Kd.N_drewN | apply Kd.N_drew)); exact HO_8.out) (Kd.R_base ho50) hb); have n2_ := Aside0.mk (Kd.R_below (by (with_reducible repeat (first | apply Kd.R_alloc | apply Kd.R_drewN | apply Kd.R_drew)); exact HO_10.out) hb); have n3_ := Aside0.mk (Kd.N_elder' (by (with_reducible repeat (first | apply Kd.N_alloc | apply Kd.N_drewN | apply Kd.N_drew)); exact HO_11.out) (Kd.R_base ho50) hb); have n4_ := Aside0.mk (Kd.N_elder' (by (with_reducible repeat (first | apply Kd.N_alloc | apply Kd.N_drewN | apply Kd.N_drew)); exact HO_12.out) (Kd.R_base ho50) hb); have n5_ := Aside0.mk (Kd.N_elder' (by (with_reducible repeat (first | apply Kd.N_alloc | apply Kd.N_drewN | apply Kd.N_drew)); exact HO_13.out) (Kd.R_base ho50) hb); have n6_ := Aside0.mk (Kd.R_elder' (by (with_reducible repeat (first | apply Kd.R_alloc | apply Kd.R_drewN | apply Kd.R_drew)); exact HO_15.out) (Kd.R_base ho50) hb); have n7_ := Aside0.mk (Kd.V_elder' (by (with_reducible repeat (first | apply Kd.V_alloc | apply Kd.V_drewN | apply Kd.V_drew)); exact HL677_0.out) (Kd.R_base ho50) hb); have n8_ := Aside0.mk (Kd.R_lower (Kd.R_new' ho50 (Kd.R_lt (by (with_reducible repeat (first | apply Kd.R_alloc | apply Kd.R_drewN | apply Kd.R_drew)); exact HO_15.out))) (below_size (by repeat (first | (with_reducible first | exact HB.out | apply below_alloc | apply pw_below_drewN | apply below_drew1 | refine below_set ?_ GE642.out | refine below_set ?_ GE643.out) | exact HB.out)))); have n9_ := Aside0.mk (blk_below (g := gb642) (o := .cells #[.int .u8 a0_0, .int .u8 a0_1, .int .u8 a0_2, .slice A0_3 l0_3.length c0_3] 66 (0, 0)) (by (with_reducible repeat (first | refine blk_drewN ?_ _ | refine blk_drew ?_ | refine blk_alloc ?_ _)); exact BK642.out) hb); have n10_ := Aside0.mk (blk_below (g := gb643) (o := .cells #[.int .u8 a1_0, .int .u8 a1_1] 67 (0, 0)) (by (with_reducible repeat (first | refine blk_drewN ?_ _ | refine blk_drew ?_ | refine blk_alloc ?_ _)); exact BK643.out) hb); have n11_ := Aside0.mk (Kd.C_below (by first | (with_reducible exact HR677_0.out) | (with_reducible exact Kd.C_drewN HR677_0.out _) | exact Kd.C_drewN HR677_0.out _ | repeat (first | (with_reducible exact HR677_0.out) | (with_reducible refine Kd.C_alloc ?_ _) | (with_reducible refine Kd.C_drewN ?_ _) | (with_reducible refine Kd.C_drew ?_) | exact HR677_0.out)) hb); have n12_ := Aside0.mk (below_step (by repeat (first | (with_reducible first | exact HB.out | apply below_alloc | apply pw_below_drewN | apply below_drew1 | refine below_set ?_ GE642.out | refine below_set ?_ GE643.out) | exact HB.out)) hb); clear HO_7; clear HO_8; clear HO_10; clear HO_11; clear HO_12; clear HO_13; clear HO_15; clear HL677_0; clear BK642; clear BK643; clear HR677_0; clear HB; have HO_7 := n0_; have HO_8 := n1_; have HO_10 := n2_; have HO_11 := n3_; have HO_12 := n4_; have HO_13 := n5_; have HO_15 := n6_; have HL677_0 := n7_; have HO687 := n8_; have BK642 := n9_; have BK643 := n10_; have HR677_0 := n11_; have HB := n12_; clear n0_ n1_ n2_ n3_ n4_ n5_ n6_ n7_ n8_ n9_ n10_ n11_ n12_; clear hb ho50))
                                go_loopg [18, 19] k2 (fun kq v18 v19 w' => ∃ (x17_3 : List Int) (x18_3 : Int) (x19_3 : Int), v18 = .int .i64 x18_3 ∧ v19 = .int .i64 x19_3 ∧ Aside0 (wogglelaw09_HatMore.l2 kq t644 t645 t646 t649 y662 t665 t668 x13_1 x14_1 x15_2 x16_2 x17_3 x18_3 x19_3 = some r) ∧ Aside0 (kq ≤ k2) ∧ Aside0 (Kd.R k71 71 w' w.heap.size (fun k_ => some k_ ≠ ((.slice Ao35 y662.length co35) : Value).ownBlock) (.slice Ao24 t646.length co24) t646) ∧ Aside0 (Kd.N (Kd.slice 3 (Kd.int .i64)) 37 w' w.heap.size (fun k_ => some k_ ≠ ((.slice Ao24 t646.length co24) : Value).ownBlock ∧ some k_ ≠ ((.slice Ao35 y662.length co35) : Value).ownBlock ∧ some k_ ≠ (v666 : Value).ownBlock ∧ some k_ ≠ ((.slice (some ad677) t668.length co48) : Value).ownBlock ∧ some k_ ≠ (u13 : Value).ownBlock ∧ some k_ ≠ (u15 : Value).ownBlock ∧ some k_ ≠ (v686 : Value).ownBlock ∧ k_ ≠ gb642 ∧ k_ ≠ gb643) v650 t649) ∧ Aside0 (Kd.R k71 71 w' w.heap.size (fun k_ => some k_ ≠ ((.slice Ao24 t646.length co24) : Value).ownBlock) (.slice Ao35 y662.length co35) y662) ∧ Aside0 (Kd.N (Kd.slice 3 (Kd.int .i64)) 37 w' w.heap.size (fun k_ => some k_ ≠ ((.slice Ao24 t646.length co24) : Value).ownBlock ∧ some k_ ≠ (v650 : Value).ownBlock ∧ some k_ ≠ ((.slice Ao35 y662.length co35) : Value).ownBlock ∧ some k_ ≠ ((.slice (some ad677) t668.length co48) : Value).ownBlock ∧ some k_ ≠ (u13 : Value).ownBlock ∧ some k_ ≠ (u15 : Value).ownBlock ∧ some k_ ≠ (v686 : Value).ownBlock ∧ k_ ≠ gb642 ∧ k_ ≠ gb643) v666 t665) ∧ Aside0 (Kd.N (Kd.slice 3 (Kd.int .i64)) 37 w' w.heap.size (fun k_ => some k_ ≠ ((.slice Ao24 t646.length co24) : Value).ownBlock ∧ some k_ ≠ (v650 : Value).ownBlock ∧ some k_ ≠ ((.slice Ao35 y662.length co35) : Value).ownBlock ∧ some k_ ≠ (v666 : Value).ownBlock ∧ some k_ ≠ (u13 : Value).ownBlock ∧ some k_ ≠ (u15 : Value).ownBlock ∧ some k_ ≠ (v686 : Value).ownBlock ∧ k_ ≠ gb642 ∧ k_ ≠ gb643) (.slice (some ad677) t668.length co48) t668) ∧ Aside0 (Kd.N (Kd.slice 3 (Kd.int .i64)) 37 w' w.heap.size (fun k_ => some k_ ≠ ((.slice Ao24 t646.length co24) : Value).ownBlock ∧ some k_ ≠ (v650 : Value).ownBlock ∧ some k_ ≠ ((.slice Ao35 y662.length co35) : Value).ownBlock ∧ some k_ ≠ (v666 : Value).ownBlock ∧ some k_ ≠ ((.slice (some ad677) t668.length co48) : Value).ownBlock ∧ some k_ ≠ (u15 : Value).ownBlock ∧ some k_ ≠ (v686 : Value).ownBlock ∧ k_ ≠ gb642 ∧ k_ ≠ gb643) u13 x13_1) ∧ Aside0 (Kd.R (Kd.int .i64) 3 w' w.heap.size (fun k_ => some k_ ≠ (v686 : Value).ownBlock) u15 x15_2) ∧ Aside0 (Kd.R (Kd.int .i64) 3 w' w.heap.size (fun k_ => some k_ ≠ (u15 : Value).ownBlock) v686 x17_3) ∧ Aside0 (w'.heap[gb642]? = some (.cells #[.int .u8 a0_0, .int .u8 a0_1, .int .u8 a0_2, (.slice A0_3 l0_3.length c0_3)] 66 (0, 0))) ∧ Aside0 (w'.heap[gb643]? = some (.cells #[.int .u8 a1_0, .int .u8 a1_1] 67 (0, 0))) ∧ Aside0 (Below w.heap.size w w'))
                                case atStart => exact ⟨(y685), (x16_2), (0), (by first | rfl | (simp; done) | (simp [*]; done)), (by first | rfl | (simp; done) | (simp [*]; done)), H', ⟨Nat.le_refl _⟩, ⟨by (with_reducible repeat (first | apply Kd.R_alloc | apply Kd.R_drewN | apply Kd.R_drew)); exact HO_7.out⟩, ⟨by (with_reducible repeat (first | apply Kd.N_alloc | apply Kd.N_drewN | apply Kd.N_drew)); exact Kd.N_mono HO_8.out (fun _ hk => ⟨hk.1.1, ⟨hk.1.2.1, ⟨hk.1.2.2.1, ⟨hk.1.2.2.2.1, ⟨hk.1.2.2.2.2.1, ⟨hk.1.2.2.2.2.2.1, ⟨hk.2, ⟨hk.1.2.2.2.2.2.2.1, hk.1.2.2.2.2.2.2.2⟩⟩⟩⟩⟩⟩⟩⟩)⟩, ⟨by (with_reducible repeat (first | apply Kd.R_alloc | apply Kd.R_drewN | apply Kd.R_drew)); exact HO_10.out⟩, ⟨by (with_reducible repeat (first | apply Kd.N_alloc | apply Kd.N_drewN | apply Kd.N_drew)); exact Kd.N_mono HO_11.out (fun _ hk => ⟨hk.1.1, ⟨hk.1.2.1, ⟨hk.1.2.2.1, ⟨hk.1.2.2.2.1, ⟨hk.1.2.2.2.2.1, ⟨hk.1.2.2.2.2.2.1, ⟨hk.2, ⟨hk.1.2.2.2.2.2.2.1, hk.1.2.2.2.2.2.2.2⟩⟩⟩⟩⟩⟩⟩⟩)⟩, ⟨by (with_reducible repeat (first | apply Kd.N_alloc | apply Kd.N_drewN | apply Kd.N_drew)); exact Kd.N_mono HO_12.out (fun _ hk => ⟨hk.1.1, ⟨hk.1.2.1, ⟨hk.1.2.2.1, ⟨hk.1.2.2.2.1, ⟨hk.1.2.2.2.2.1, ⟨hk.1.2.2.2.2.2.1, ⟨hk.2, ⟨hk.1.2.2.2.2.2.2.1, hk.1.2.2.2.2.2.2.2⟩⟩⟩⟩⟩⟩⟩⟩)⟩, ⟨by (with_reducible repeat (first | apply Kd.N_alloc | apply Kd.N_drewN | apply Kd.N_drew)); exact Kd.N_mono HO_13.out (fun _ hk => ⟨hk.1.1, ⟨hk.1.2.1, ⟨hk.1.2.2.1, ⟨hk.1.2.2.2.1, ⟨hk.1.2.2.2.2.1, ⟨hk.1.2.2.2.2.2.1, ⟨hk.2, ⟨hk.1.2.2.2.2.2.2.1, hk.1.2.2.2.2.2.2.2⟩⟩⟩⟩⟩⟩⟩⟩)⟩, ⟨by (with_reducible repeat (first | apply Kd.R_alloc | apply Kd.R_drewN | apply Kd.R_drew)); exact Kd.R_mono HO_15.out (fun _ hk => hk.2)⟩, ⟨by (with_reducible repeat (first | apply Kd.R_alloc | apply Kd.R_drewN | apply Kd.R_drew)); exact Kd.R_mono HO687.out (fun _ hk => hk.2)⟩, ⟨by (with_reducible repeat (first | refine blk_drewN ?_ _ | refine blk_drew ?_ | refine blk_alloc ?_ _)); exact BK642.out⟩, ⟨by (with_reducible repeat (first | refine blk_drewN ?_ _ | refine blk_drew ?_ | refine blk_alloc ?_ _)); exact BK643.out⟩, ⟨by repeat (first | (with_reducible first | exact HB.out | apply below_alloc | apply pw_below_drewN | apply below_drew1 | refine below_set ?_ GE642.out | refine below_set ?_ GE643.out) | exact HB.out)⟩⟩
                                case round =>
                                  clear H'
                                  try clear c1
                                  try clear c2
                                  try clear p2
                                  try clear c3
                                  try clear c4
                                  try clear c4b0
                                  try clear c6
                                  try clear p6
                                  try clear q6
                                  try clear hx6
                                  try clear c8
                                  try clear c12
                                  try clear c12b0
                                  try clear c12b1
                                  try clear c13
                                  try clear c14
                                  try clear c14b0
                                  try clear c14b1
                                  try clear c15
                                  try clear c20
                                  try clear c22
                                  try clear c39
                                  try clear c39b0
                                  try clear c42
                                  try clear c42b0
                                  try clear c43
                                  try clear c43b0
                                  try clear c45
                                  try clear c45b0
                                  try clear c46
                                  try clear c46b0
                                  try clear c46b1
                                  try clear c47
                                  try clear c47b0
                                  try clear c47b1
                                  try clear hcz21_0
                                  try clear hcz21_1
                                  try clear hcz21_2
                                  try clear hcz21_3
                                  try clear hcz23_0
                                  try clear hcz23_1
                                  try clear hcz9_0
                                  try clear hcz9_1
                                  try clear hcz9_2
                                  try clear hcz9_3
                                  try clear hfz21_0
                                  try clear hfz21_1
                                  try clear hfz21_2
                                  try clear hfz21_3
                                  try clear hfz23_0
                                  try clear hfz23_1
                                  try clear hfz9_0
                                  try clear hfz9_1
                                  try clear hfz9_2
                                  try clear hfz9_3
                                  try clear hx677_0
                                  try clear p2
                                  try clear p6
                                  try clear p677
                                  try clear q677
                                  obtain ⟨x17_3, x18_3, x19_3, rfl, rfl, HA, HK3, HO_7, HO_8, HO_10, HO_11, HO_12, HO_13, HO_15, HO_17, BK642, BK643, HB⟩ := hrel
                                  cases gk with
                                  | zero => exact absurd HA.out (by simp [wogglelaw09_HatMore.l2])
                                  | succ k3 =>
                                    have H := HA.out
                                    clear HA
                                    simp only [wogglelaw09_HatMore.l2] at H
                                    by_cases c51 : 0 ≤ x14_1
                                    · rw [if_pos c51] at H
                                      have c51b0 : decide (0 ≤ x14_1) = true := decide_eq_true c51
                                      clear c51
                                      by_cases c52 : x14_1 < (t668.length : Int)
                                      · rw [if_pos c52] at H
                                        have c52b0 : decide (x14_1 < (t668.length : Int)) = true := decide_eq_true c52
                                        clear c52
                                        by_cases c53 : x19_3 < ((rd_L2 t668 x14_1).length : Int)
                                        · rw [if_pos c53] at H
                                          have c53b0 : decide (x19_3 < ((rd_L2 t668 x14_1).length : Int)) = true := decide_eq_true c53
                                          clear c53
                                          by_cases c54 : 0 ≤ x19_3
                                          · rw [if_pos c54] at H
                                            have c54b0 : decide (0 ≤ x19_3) = true := decide_eq_true c54
                                            clear c54
                                            by_cases c55 : t645 = 0
                                            · rw [if_pos c55] at H
                                              exact absurd H (by simp)
                                            · rw [if_neg c55] at H
                                              have c55b0 : (t645 == 0) = false := beq_eq_false_iff_ne.mpr c55
                                              have c55b1 : (t645 != 0) = true := bne_iff_ne.mpr c55
                                              by_cases c56 : 0 ≤ (rd (rd_L2 t668 x14_1) x19_3)
                                              · rw [if_pos c56] at H
                                                have c56b0 : decide (0 ≤ (rd (rd_L2 t668 x14_1) x19_3)) = true := decide_eq_true c56
                                                clear c56
                                                by_cases c57 : (rd (rd_L2 t668 x14_1) x19_3) < (x17_3.length : Int)
                                                · rw [if_pos c57] at H
                                                  have c57b0 : decide ((rd (rd_L2 t668 x14_1) x19_3) < (x17_3.length : Int)) = true := decide_eq_true c57
                                                  clear c57
                                                  obtain ⟨y691, hy691⟩ : ∃ y_ : List Int, y_ = (x17_3.set ((rd (rd_L2 t668 x14_1) x19_3) : Int).toNat (Int.tmod x18_3 t645)) := ⟨_, rfl⟩
                                                  replace H : (wogglelaw09_HatMore.l2 k3 t644 t645 t646 t649 y662 t665 t668 x13_1 x14_1 x15_2 x16_2 y691 (wrap64 (Int.tdiv x18_3 t645)) (wrap64 (x19_3 + 1))) = some r := by first | (rw [hy691]; with_reducible exact H) | (have H2_ := (Option.bind_some _ _).symm.trans H; rw [hy691]; with_reducible exact H2_) | (have H2_ := (Option.bind_some _ _).symm.trans H; with_reducible exact H2_) | with_reducible exact H | (rw [hy691]; exact H) | exact H
                                                  have Ny691 := Aside0.mk hy691
                                                  clear hy691
                                                  have H' := Aside0.mk H
                                                  clear H
                                                  have p688 : 0 ≤ (x14_1 : Int) := of_decide_eq_true (by first | (with_reducible assumption) | assumption)
                                                  have q688 : x14_1 < (t668.length : Int) := of_decide_eq_true (by first | (with_reducible assumption) | assumption)
                                                  obtain ⟨ad688, A688_0, c688_0, e688, hx688_0, hl688_0, hi688_0⟩ := at_L2 (Kd.N_reads' HO_12.out).2.2 x14_1 p688 q688
                                                  obtain rfl : ad677 = ad688 := (by injection e688)
                                                  obtain ⟨ce688, hce688, hMe688, hcc688⟩ := Kd.N_get HO_12.out [] x14_1 p688 (by first | exact q688 | exact of_decide_eq_true (by first | (with_reducible assumption) | assumption) | (have e_ := (Kd.N_reads' HO_12.out).1; omega))
                                                  obtain ⟨ua688_0, uc688_0, rfl, ul688_0, ge688_0⟩ := Kd.FK_slice_open hMe688
                                                  have hv688_0 := hcc688 0 _ rfl
                                                  rw [Nat.add_zero, show ((Kd.slice 3 (Kd.int .i64))).sz = 1 from rfl, Nat.mul_one] at hv688_0
                                                  replace hv688_0 := Option.some.inj (hv688_0.symm.trans hx688_0)
                                                  injection hv688_0 with hva_ hvn_ hvc_
                                                  rw [hva_] at ge688_0
                                                  rw [hvc_] at ul688_0
                                                  have HL688_0 := Aside0.mk (show Kd.V (Kd.int .i64) 3 _ w.heap.size _ _ (rd_L2 t668 x14_1) from Kd.V_mk ul688_0 ge688_0)
                                                  clear hva_ hvn_ hvc_ ge688_0 ul688_0
                                                  clear hcc688 hce688
                                                  have HR688_0 := Aside0.mk hi688_0
                                                  have HC688_0 := Aside0.mk hl688_0
                                                  clear hi688_0 hl688_0
                                                  replace p688 := eq_true p688
                                                  replace q688 := eq_true q688
                                                  try go_wp2
                                                  have n0_ := Aside0.mk (Kd.R_drew HO_7.out)
                                                  have n1_ := Aside0.mk (Kd.N_drew HO_8.out)
                                                  have n2_ := Aside0.mk (Kd.R_drew HO_10.out)
                                                  have n3_ := Aside0.mk (Kd.N_drew HO_11.out)
                                                  have n4_ := Aside0.mk (Kd.N_drew HO_12.out)
                                                  have n5_ := Aside0.mk (Kd.N_drew HO_13.out)
                                                  have n6_ := Aside0.mk (Kd.R_drew HO_15.out)
                                                  have n7_ := Aside0.mk (Kd.R_drew HO_17.out)
                                                  have n8_ := Aside0.mk (Kd.V_drew HL688_0.out)
                                                  have n9_ := Aside0.mk (blk_drew BK642.out)
                                                  have n10_ := Aside0.mk (blk_drew BK643.out)
                                                  have n11_ := Aside0.mk (Kd.C_drew HR688_0.out)
                                                  have n12_ := Aside0.mk (below_drew1 HB.out)
                                                  clear HO_7
                                                  clear HO_8
                                                  clear HO_10
                                                  clear HO_11
                                                  clear HO_12
                                                  clear HO_13
                                                  clear HO_15
                                                  clear HO_17
                                                  clear HL688_0
                                                  clear BK642
                                                  clear BK643
                                                  clear HR688_0
                                                  clear HB
                                                  have HO_7 := n0_
                                                  have HO_8 := n1_
                                                  have HO_10 := n2_
                                                  have HO_11 := n3_
                                                  have HO_12 := n4_
                                                  have HO_13 := n5_
                                                  have HO_15 := n6_
                                                  have HO_17 := n7_
                                                  have HL688_0 := n8_
                                                  have BK642 := n9_
                                                  have BK643 := n10_
                                                  have HR688_0 := n11_
                                                  have HB := n12_
                                                  clear n0_ n1_ n2_ n3_ n4_ n5_ n6_ n7_ n8_ n9_ n10_ n11_ n12_
                                                  have p689 : 0 ≤ (x14_1 : Int) := of_decide_eq_true (by first | (with_reducible assumption) | assumption)
                                                  have q689 : x14_1 < (t668.length : Int) := of_decide_eq_true (by first | (with_reducible assumption) | assumption)
                                                  obtain ⟨ad689, A689_0, c689_0, e689, hx689_0, hl689_0, hi689_0⟩ := at_L2 (Kd.N_reads' HO_12.out).2.2 x14_1 p689 q689
                                                  obtain rfl : ad677 = ad689 := (by injection e689)
                                                  obtain ⟨ce689, hce689, hMe689, hcc689⟩ := Kd.N_get HO_12.out [] x14_1 p689 (by first | exact q689 | exact of_decide_eq_true (by first | (with_reducible assumption) | assumption) | (have e_ := (Kd.N_reads' HO_12.out).1; omega))
                                                  obtain ⟨ua689_0, uc689_0, rfl, ul689_0, ge689_0⟩ := Kd.FK_slice_open hMe689
                                                  have hv689_0 := hcc689 0 _ rfl
                                                  rw [Nat.add_zero, show ((Kd.slice 3 (Kd.int .i64))).sz = 1 from rfl, Nat.mul_one] at hv689_0
                                                  replace hv689_0 := Option.some.inj (hv689_0.symm.trans hx689_0)
                                                  injection hv689_0 with hva_ hvn_ hvc_
                                                  rw [hva_] at ge689_0
                                                  rw [hvc_] at ul689_0
                                                  have HL689_0 := Aside0.mk (show Kd.V (Kd.int .i64) 3 _ w.heap.size _ _ (rd_L2 t668 x14_1) from Kd.V_mk ul689_0 ge689_0)
                                                  clear hva_ hvn_ hvc_ ge689_0 ul689_0
                                                  clear hcc689 hce689
                                                  have HR689_0 := Aside0.mk hi689_0
                                                  have HC689_0 := Aside0.mk hl689_0
                                                  clear hi689_0 hl689_0
                                                  replace p689 := eq_true p689
                                                  replace q689 := eq_true q689
                                                  have p690 : 0 ≤ (x19_3 : Int) := of_decide_eq_true (by first | (with_reducible assumption) | assumption)
                                                  have q690 : x19_3 < ((rd_L2 t668 x14_1).length : Int) := of_decide_eq_true (by first | (with_reducible assumption) | assumption)
                                                  obtain ⟨ad690, e690, hx690_0⟩ := Kd.at_int (by first | (with_reducible exact HR689_0.out) | (with_reducible exact Kd.C_drewN HR689_0.out _) | exact Kd.C_drewN HR689_0.out _ | repeat (first | (with_reducible exact HR689_0.out) | (with_reducible refine Kd.C_alloc ?_ _) | (with_reducible refine Kd.C_drewN ?_ _) | (with_reducible refine Kd.C_drew ?_) | exact HR689_0.out)) x19_3 p690 q690
                                                  cases e690
                                                  replace p690 := eq_true p690
                                                  replace q690 := eq_true q690
                                                  have p58 : 0 ≤ ((rd (rd_L2 t668 x14_1) x19_3) : Int) := of_decide_eq_true (by first | (with_reducible assumption) | assumption)
                                                  have q58 : ((rd (rd_L2 t668 x14_1) x19_3) : Int) < ((x17_3.length : Int) : Int) := of_decide_eq_true (by first | (with_reducible assumption) | assumption)
                                                  obtain ⟨go58, co58, eo58, gb58, gl58, cl58, HG58⟩ := Kd.R_form HO_17.out (by omega)
                                                  (first | cases eo58 | (injection eo58 with ea_ en_ ec_; (first | subst ea_ | (injection ea_ with ea_; subst ea_)); subst ec_; clear en_))
                                                  have GB58 := Aside0.mk gb58
                                                  have GG58 := Aside0.mk HG58
                                                  clear gb58 gl58 HG58
                                                  obtain ⟨hx58_0, hf58_0⟩ := Kd.R_celln 0 HO_17.out ((rd (rd_L2 t668 x14_1) x19_3) : Int) p58 q58
                                                  replace p58 := eq_true p58
                                                  replace q58 := eq_true q58
                                                  have HP60 := Kd.R_putn HO_17.out ((rd (rd_L2 t668 x14_1) x19_3) : Int) (Int.tmod x18_3 t645)
                                                  rw [← Ny691.out] at HP60
                                                  have HQ60 := Aside0.mk HP60
                                                  clear HP60
                                                  refine start_ (n := 13) (S := fun w' => w'.cell? (ad677.add (x14_1).toNat) = some (.slice (some ad690) (rd_L2 t668 x14_1).length c689_0) ∧ w'.cell? (ad690.add (x19_3).toNat) = some (.int .i64 (rd (rd_L2 t668 x14_1) x19_3))) (ds := [12]) #[false, false, false, false, false, false, false, false, false, false, false, false, false] (by kernel_rfl) rfl rfl ⟨hx689_0, hx690_0⟩ (fun hHeld => ?_); refine with_tabW wogglelaw09_HatMore.tab18 wogglelaw09_HatMore.bits18 (fun HT_ HW_ => ?_)
                                                  generalize wr.drew = w59 at HO_7 HO_8 HO_10 HO_11 HO_12 HO_13 HO_15 HO_17 HL688_0 BK642 BK643 HR688_0 HB GG58 HL689_0 HQ60 HR689_0 hf58_0 hx58_0 hx689_0 hx690_0 hHeld ⊢
                                                  refine pure_ (i := 0) (N := some 95) (v := ?_) (a' := ?_) #[true, false, false, false, false, false, false, false, false, false, false, false, false] rfl rfl (any_of HT_.out (by kernel_rfl)) (fun _ _ _ h => h) (Or.inl ⟨by rfl, ?_⟩) ?_ ?_
                                                  rotate_left
                                                  · intro w'
                                                    go_simp
                                                    with_reducible rfl
                                                  rotate_left
                                                  · simp only [Act.put, List.setIfInBounds_toArray, List.set_cons_zero, List.set_cons_succ, i64_w, i32_w]
                                                    rfl
                                                  refine pure_ (i := 1) (N := some 96) (v := ?_) (a' := ?_) #[true, true, false, false, false, false, false, false, false, false, false, false, false] rfl rfl (any_of HT_.out (by kernel_rfl)) (fun _ _ _ h => h) (Or.inl ⟨by rfl, ?_⟩) ?_ ?_
                                                  rotate_left
                                                  · intro w'
                                                    go_simp
                                                    with_reducible rfl
                                                  rotate_left
                                                  · simp only [Act.put, List.setIfInBounds_toArray, List.set_cons_zero, List.set_cons_succ, i64_w, i32_w]
                                                    rfl
                                                  refine pure_ (i := 2) (N := some 97) (v := ?_) (a' := ?_) #[true, true, true, false, false, false, false, false, false, false, false, false, false] rfl rfl (any_of HT_.out (by kernel_rfl)) (fun _ _ _ h => h) (Or.inl ⟨by rfl, ?_⟩) ?_ ?_
                                                  rotate_left
                                                  · intro w'
                                                    go_simp
                                                    with_reducible rfl
                                                  rotate_left
                                                  · simp only [Act.put, List.setIfInBounds_toArray, List.set_cons_zero, List.set_cons_succ, i64_w, i32_w]
                                                    rfl
                                                  refine pure_ (i := 3) (N := some 98) (v := ?_) (a' := ?_) #[true, true, true, true, false, false, false, false, false, false, false, false, false] rfl rfl (any_of HT_.out (by kernel_rfl)) (fun _ _ _ h => h) (Or.inl ⟨by rfl, ?_⟩) ?_ ?_
                                                  rotate_left
                                                  · intro w'
                                                    go_simp
                                                    with_reducible rfl
                                                  rotate_left
                                                  · simp only [Act.put, List.setIfInBounds_toArray, List.set_cons_zero, List.set_cons_succ, i64_w, i32_w]
                                                    rfl
                                                  refine pure_ (i := 5) (N := some 100) (v := ?_) (a' := ?_) #[true, true, true, true, false, true, false, false, false, false, false, false, false] rfl rfl (any_of HT_.out (by kernel_rfl)) (fun _ _ _ h => h) (Or.inl ⟨by rfl, ?_⟩) ?_ ?_
                                                  rotate_left
                                                  · intro w'
                                                    go_simp
                                                    with_reducible rfl
                                                  rotate_left
                                                  · simp only [Act.put, List.setIfInBounds_toArray, List.set_cons_zero, List.set_cons_succ, i64_w, i32_w]
                                                    rfl
                                                  refine pure_ (i := 8) (N := some 103) (v := ?_) (a' := ?_) #[true, true, true, true, false, true, false, false, true, false, false, false, false] rfl rfl (any_of HT_.out (by kernel_rfl)) (fun _ _ _ h => h) (Or.inl ⟨by rfl, ?_⟩) ?_ ?_
                                                  rotate_left
                                                  · intro w'
                                                    go_simp
                                                    with_reducible rfl
                                                  rotate_left
                                                  · simp only [Act.put, List.setIfInBounds_toArray, List.set_cons_zero, List.set_cons_succ, i64_w, i32_w]
                                                    rfl
                                                  refine pure_ (i := 9) (N := some 104) (v := ?_) (a' := ?_) #[true, true, true, true, false, true, false, false, true, true, false, false, false] rfl rfl (any_of HT_.out (by kernel_rfl)) (fun _ _ _ h => h) (Or.inl ⟨by rfl, ?_⟩) ?_ ?_
                                                  rotate_left
                                                  · intro w'
                                                    go_simp
                                                    with_reducible rfl
                                                  rotate_left
                                                  · simp only [Act.put, List.setIfInBounds_toArray, List.set_cons_zero, List.set_cons_succ, i64_w, i32_w]
                                                    rfl
                                                  refine pure_ (i := 10) (N := some 105) (v := ?_) (a' := ?_) #[true, true, true, true, false, true, false, false, true, true, true, false, false] rfl rfl (any_of HT_.out (by kernel_rfl)) (fun _ _ _ h => h) (Or.inl ⟨by rfl, ?_⟩) ?_ ?_
                                                  rotate_left
                                                  · intro w'
                                                    go_simp
                                                    with_reducible rfl
                                                  rotate_left
                                                  · simp only [Act.put, List.setIfInBounds_toArray, List.set_cons_zero, List.set_cons_succ, i64_w, i32_w]
                                                    rfl
                                                  refine take_ (i := 4) (N := some 99) (v := ?_) (a' := ?_) #[true, true, true, true, true, true, false, false, true, true, true, false, false] rfl rfl (take_ofW HT_.out HW_.out (by kernel_rfl)) (fun _ _ _ h => h) (Or.inl ⟨by rfl, ?_⟩) hHeld ?_ ?_
                                                  rotate_left
                                                  · rintro w' ⟨s0, s1⟩
                                                    go_simp
                                                    with_reducible rfl
                                                  rotate_left
                                                  · simp only [Act.put, List.setIfInBounds_toArray, List.set_cons_zero, List.set_cons_succ, i64_w, i32_w]
                                                    rfl
                                                  refine pure_ (i := 6) (N := some 101) (v := ?_) (a' := ?_) #[true, true, true, true, true, true, true, false, true, true, true, false, false] rfl rfl (any_of HT_.out (by kernel_rfl)) (fun _ _ _ h => h) (Or.inl ⟨by rfl, ?_⟩) ?_ ?_
                                                  rotate_left
                                                  · intro w'
                                                    go_simp
                                                    with_reducible rfl
                                                  rotate_left
                                                  · simp only [Act.put, List.setIfInBounds_toArray, List.set_cons_zero, List.set_cons_succ, i64_w, i32_w]
                                                    rfl
                                                  refine take_ (i := 7) (N := some 102) (v := ?_) (a' := ?_) #[true, true, true, true, true, true, true, true, true, true, true, false, false] rfl rfl (take_ofW HT_.out HW_.out (by kernel_rfl)) (fun _ _ _ h => h) (Or.inl ⟨by rfl, ?_⟩) hHeld ?_ ?_
                                                  rotate_left
                                                  · rintro w' ⟨s0, s1⟩
                                                    go_simp
                                                    with_reducible rfl
                                                  rotate_left
                                                  · simp only [Act.put, List.setIfInBounds_toArray, List.set_cons_zero, List.set_cons_succ, i64_w, i32_w]
                                                    rfl
                                                  refine pure_ (i := 11) (N := some 106) (v := ?_) (a' := ?_) #[true, true, true, true, true, true, true, true, true, true, true, true, false] rfl rfl (any_of HT_.out (by kernel_rfl)) (fun _ _ _ h => h) (Or.inl ⟨by rfl, ?_⟩) ?_ ?_
                                                  rotate_left
                                                  · intro w'
                                                    go_simp
                                                    with_reducible rfl
                                                  rotate_left
                                                  · simp only [Act.put, List.setIfInBounds_toArray, List.set_cons_zero, List.set_cons_succ, i64_w, i32_w]
                                                    rfl
                                                  refine last_ (i := 12) (N := none) #[true, true, true, true, true, true, true, true, true, true, true, true, true] rfl rfl (one_of HT_.out (by kernel_rfl)) (by decide) (fun K hK => ?_)
                                                  refine skip_ (w1 := ?_) (by rfl) rfl ?_ ?_
                                                  rotate_left
                                                  · go_simp
                                                    rfl
                                                  refine hK.out _ _ ?_
                                                  clear hK K
                                                  refine done_ (done_of HT_.out (by kernel_rfl)) ?_
                                                  try go_wp2
                                                  go_roundg k3
                                                  case measure => have := HK1.out; have := HK2.out; have := HK3.out; omega
                                                  case rel => exact ⟨(y691), (wrap64 (Int.tdiv x18_3 t645)), (wrap64 (x19_3 + 1)), (by first | rfl | (simp; done) | (simp [*]; done)), (by first | rfl | (simp; done) | (simp [*]; done)), H', ⟨by have := HK1.out; have := HK2.out; have := HK3.out; omega⟩, ⟨by (with_reducible repeat (first | apply Kd.R_alloc | apply Kd.R_drewN | apply Kd.R_drew)); exact Kd.R_mono (Kd.R_far (p := ⟨go58, ((rd (rd_L2 t668 x14_1) x19_3) : Int).toNat, none⟩) (Kd.R_types HO_7.out GG58.out (by decide)) (fun _ hk => hk.2) (.int .i64 (Int.tmod x18_3 t645))) (fun _ hk => hk.1)⟩, ⟨by (with_reducible repeat (first | apply Kd.N_alloc | apply Kd.N_drewN | apply Kd.N_drew)); exact Kd.N_mono (Kd.N_far (p := ⟨go58, ((rd (rd_L2 t668 x14_1) x19_3) : Int).toNat, none⟩) (Kd.N_mono HO_8.out (fun k_ hk => (⟨hk, fun e_ => hk.2.2.2.2.2.2.1 (by rw [e_]; rfl)⟩ : _ ∧ k_ ≠ go58))) (fun _ hk => hk.2) (.int .i64 (Int.tmod x18_3 t645))) (fun _ hk => ⟨hk.1.1, ⟨hk.1.2.1, ⟨hk.1.2.2.1, ⟨hk.1.2.2.2.1, ⟨hk.1.2.2.2.2.1, ⟨hk.1.2.2.2.2.2.1, ⟨hk.1.2.2.2.2.2.2.1, ⟨hk.1.2.2.2.2.2.2.2.1, hk.1.2.2.2.2.2.2.2.2⟩⟩⟩⟩⟩⟩⟩⟩)⟩, ⟨by (with_reducible repeat (first | apply Kd.R_alloc | apply Kd.R_drewN | apply Kd.R_drew)); exact Kd.R_mono (Kd.R_far (p := ⟨go58, ((rd (rd_L2 t668 x14_1) x19_3) : Int).toNat, none⟩) (Kd.R_types HO_10.out GG58.out (by decide)) (fun _ hk => hk.2) (.int .i64 (Int.tmod x18_3 t645))) (fun _ hk => hk.1)⟩, ⟨by (with_reducible repeat (first | apply Kd.N_alloc | apply Kd.N_drewN | apply Kd.N_drew)); exact Kd.N_mono (Kd.N_far (p := ⟨go58, ((rd (rd_L2 t668 x14_1) x19_3) : Int).toNat, none⟩) (Kd.N_mono HO_11.out (fun k_ hk => (⟨hk, fun e_ => hk.2.2.2.2.2.2.1 (by rw [e_]; rfl)⟩ : _ ∧ k_ ≠ go58))) (fun _ hk => hk.2) (.int .i64 (Int.tmod x18_3 t645))) (fun _ hk => ⟨hk.1.1, ⟨hk.1.2.1, ⟨hk.1.2.2.1, ⟨hk.1.2.2.2.1, ⟨hk.1.2.2.2.2.1, ⟨hk.1.2.2.2.2.2.1, ⟨hk.1.2.2.2.2.2.2.1, ⟨hk.1.2.2.2.2.2.2.2.1, hk.1.2.2.2.2.2.2.2.2⟩⟩⟩⟩⟩⟩⟩⟩)⟩, ⟨by (with_reducible repeat (first | apply Kd.N_alloc | apply Kd.N_drewN | apply Kd.N_drew)); exact Kd.N_mono (Kd.N_far (p := ⟨go58, ((rd (rd_L2 t668 x14_1) x19_3) : Int).toNat, none⟩) (Kd.N_mono HO_12.out (fun k_ hk => (⟨hk, fun e_ => hk.2.2.2.2.2.2.1 (by rw [e_]; rfl)⟩ : _ ∧ k_ ≠ go58))) (fun _ hk => hk.2) (.int .i64 (Int.tmod x18_3 t645))) (fun _ hk => ⟨hk.1.1, ⟨hk.1.2.1, ⟨hk.1.2.2.1, ⟨hk.1.2.2.2.1, ⟨hk.1.2.2.2.2.1, ⟨hk.1.2.2.2.2.2.1, ⟨hk.1.2.2.2.2.2.2.1, ⟨hk.1.2.2.2.2.2.2.2.1, hk.1.2.2.2.2.2.2.2.2⟩⟩⟩⟩⟩⟩⟩⟩)⟩, ⟨by (with_reducible repeat (first | apply Kd.N_alloc | apply Kd.N_drewN | apply Kd.N_drew)); exact Kd.N_mono (Kd.N_far (p := ⟨go58, ((rd (rd_L2 t668 x14_1) x19_3) : Int).toNat, none⟩) (Kd.N_mono HO_13.out (fun k_ hk => (⟨hk, fun e_ => hk.2.2.2.2.2.2.1 (by rw [e_]; rfl)⟩ : _ ∧ k_ ≠ go58))) (fun _ hk => hk.2) (.int .i64 (Int.tmod x18_3 t645))) (fun _ hk => ⟨hk.1.1, ⟨hk.1.2.1, ⟨hk.1.2.2.1, ⟨hk.1.2.2.2.1, ⟨hk.1.2.2.2.2.1, ⟨hk.1.2.2.2.2.2.1, ⟨hk.1.2.2.2.2.2.2.1, ⟨hk.1.2.2.2.2.2.2.2.1, hk.1.2.2.2.2.2.2.2.2⟩⟩⟩⟩⟩⟩⟩⟩)⟩, ⟨by (with_reducible repeat (first | apply Kd.R_alloc | apply Kd.R_drewN | apply Kd.R_drew)); exact Kd.R_mono (Kd.R_far (p := ⟨go58, ((rd (rd_L2 t668 x14_1) x19_3) : Int).toNat, none⟩) (Kd.R_mono HO_15.out (fun k_ hk => (⟨hk, fun e_ => hk (by rw [e_]; rfl)⟩ : _ ∧ k_ ≠ go58))) (fun _ hk => hk.2) (.int .i64 (Int.tmod x18_3 t645))) (fun _ hk => hk.1)⟩, ⟨by (with_reducible repeat (first | apply Kd.R_alloc | apply Kd.R_drewN | apply Kd.R_drew)); exact HQ60.out⟩, ⟨by (with_reducible repeat (first | refine blk_drewN ?_ _ | refine blk_drew ?_ | refine blk_alloc ?_ _)); refine blk_far ?_ (by have h_ := Kd.R_ne HO_17.out BK642.out (by decide); intro e_; exact h_ (by rw [e_]; rfl)) _; (with_reducible repeat (first | refine blk_drewN ?_ _ | refine blk_drew ?_ | refine blk_alloc ?_ _)); exact BK642.out⟩, ⟨by (with_reducible repeat (first | refine blk_drewN ?_ _ | refine blk_drew ?_ | refine blk_alloc ?_ _)); refine blk_far ?_ (by have h_ := Kd.R_ne HO_17.out BK643.out (by decide); intro e_; exact h_ (by rw [e_]; rfl)) _; (with_reducible repeat (first | refine blk_drewN ?_ _ | refine blk_drew ?_ | refine blk_alloc ?_ _)); exact BK643.out⟩, ⟨by repeat (first | (with_reducible first | exact HB.out | apply below_alloc | apply pw_below_drewN | apply below_drew1 | refine below_set ?_ GB58.out | refine below_set ?_ GE642.out | refine below_set ?_ GE643.out) | exact HB.out)⟩⟩
                                                · rw [if_neg c57] at H
                                                  exact absurd H (by simp)
                                              · rw [if_neg c56] at H
                                                exact absurd H (by simp)
                                          · rw [if_neg c54] at H
                                            exact absurd H (by simp)
                                        · rw [if_neg c53] at H
                                          have c53b0 : decide (x19_3 < ((rd_L2 t668 x14_1).length : Int)) = false := decide_eq_false c53
                                          clear c53
                                          by_cases c61 : x14_1 < (t665.length : Int)
                                          · rw [if_pos c61] at H
                                            have c61b0 : decide (x14_1 < (t665.length : Int)) = true := decide_eq_true c61
                                            clear c61
                                            have H' := Aside0.mk H
                                            clear H
                                            have p688 : 0 ≤ (x14_1 : Int) := of_decide_eq_true (by first | (with_reducible assumption) | assumption)
                                            have q688 : x14_1 < (t668.length : Int) := of_decide_eq_true (by first | (with_reducible assumption) | assumption)
                                            obtain ⟨ad688, A688_0, c688_0, e688, hx688_0, hl688_0, hi688_0⟩ := at_L2 (Kd.N_reads' HO_12.out).2.2 x14_1 p688 q688
                                            obtain rfl : ad677 = ad688 := (by injection e688)
                                            obtain ⟨ce688, hce688, hMe688, hcc688⟩ := Kd.N_get HO_12.out [] x14_1 p688 (by first | exact q688 | exact of_decide_eq_true (by first | (with_reducible assumption) | assumption) | (have e_ := (Kd.N_reads' HO_12.out).1; omega))
                                            obtain ⟨ua688_0, uc688_0, rfl, ul688_0, ge688_0⟩ := Kd.FK_slice_open hMe688
                                            have hv688_0 := hcc688 0 _ rfl
                                            rw [Nat.add_zero, show ((Kd.slice 3 (Kd.int .i64))).sz = 1 from rfl, Nat.mul_one] at hv688_0
                                            replace hv688_0 := Option.some.inj (hv688_0.symm.trans hx688_0)
                                            injection hv688_0 with hva_ hvn_ hvc_
                                            rw [hva_] at ge688_0
                                            rw [hvc_] at ul688_0
                                            have HL688_0 := Aside0.mk (show Kd.V (Kd.int .i64) 3 _ w.heap.size _ _ (rd_L2 t668 x14_1) from Kd.V_mk ul688_0 ge688_0)
                                            clear hva_ hvn_ hvc_ ge688_0 ul688_0
                                            clear hcc688 hce688
                                            have HR688_0 := Aside0.mk hi688_0
                                            have HC688_0 := Aside0.mk hl688_0
                                            clear hi688_0 hl688_0
                                            replace p688 := eq_true p688
                                            replace q688 := eq_true q688
                                            obtain ⟨Ao62, co62, eo62⟩ := Kd.N_slice HO_11.out
                                            subst eo62
                                            have p692 : 0 ≤ (x14_1 : Int) := of_decide_eq_true (by first | (with_reducible assumption) | assumption)
                                            have q692 : x14_1 < (t665.length : Int) := of_decide_eq_true (by first | (with_reducible assumption) | assumption)
                                            obtain ⟨ad692, A692_0, c692_0, e692, hx692_0, hl692_0, hi692_0⟩ := at_L2 (Kd.N_reads' HO_11.out).2.2 x14_1 p692 q692
                                            cases e692
                                            obtain ⟨ce692, hce692, hMe692, hcc692⟩ := Kd.N_get HO_11.out [] x14_1 p692 (by first | exact q692 | exact of_decide_eq_true (by first | (with_reducible assumption) | assumption) | (have e_ := (Kd.N_reads' HO_11.out).1; omega))
                                            obtain ⟨ua692_0, uc692_0, rfl, ul692_0, ge692_0⟩ := Kd.FK_slice_open hMe692
                                            have hv692_0 := hcc692 0 _ rfl
                                            rw [Nat.add_zero, show ((Kd.slice 3 (Kd.int .i64))).sz = 1 from rfl, Nat.mul_one] at hv692_0
                                            replace hv692_0 := Option.some.inj (hv692_0.symm.trans hx692_0)
                                            injection hv692_0 with hva_ hvn_ hvc_
                                            rw [hva_] at ge692_0
                                            rw [hvc_] at ul692_0
                                            have HL692_0 := Aside0.mk (show Kd.V (Kd.int .i64) 3 _ w.heap.size _ _ (rd_L2 t665 x14_1) from Kd.V_mk ul692_0 ge692_0)
                                            clear hva_ hvn_ hvc_ ge692_0 ul692_0
                                            clear hcc692 hce692
                                            have HR692_0 := Aside0.mk hi692_0
                                            have HC692_0 := Aside0.mk hl692_0
                                            clear hi692_0 hl692_0
                                            replace p692 := eq_true p692
                                            replace q692 := eq_true q692
                                            go_wp2
                                            go_loopg [20, 21] k3 (fun kq v20 v21 w' => ∃ (x20_4 : Int) (x21_4 : Int), v20 = .int .i64 x20_4 ∧ v21 = .int .i64 x21_4 ∧ Aside0 (wogglelaw09_HatMore.l3 kq t644 t645 t646 t649 y662 t665 t668 x13_1 x14_1 x15_2 x16_2 x17_3 x20_4 x21_4 = some r) ∧ Aside0 (kq ≤ k3) ∧ Aside0 (Kd.R k71 71 w' w.heap.size (fun k_ => some k_ ≠ ((.slice Ao35 y662.length co35) : Value).ownBlock) (.slice Ao24 t646.length co24) t646) ∧ Aside0 (Kd.N (Kd.slice 3 (Kd.int .i64)) 37 w' w.heap.size (fun k_ => some k_ ≠ ((.slice Ao24 t646.length co24) : Value).ownBlock ∧ some k_ ≠ ((.slice Ao35 y662.length co35) : Value).ownBlock ∧ some k_ ≠ ((.slice (some ad692) t665.length co62) : Value).ownBlock ∧ some k_ ≠ ((.slice (some ad677) t668.length co48) : Value).ownBlock ∧ some k_ ≠ (u13 : Value).ownBlock ∧ some k_ ≠ (u15 : Value).ownBlock ∧ some k_ ≠ (v686 : Value).ownBlock ∧ k_ ≠ gb642 ∧ k_ ≠ gb643) v650 t649) ∧ Aside0 (Kd.R k71 71 w' w.heap.size (fun k_ => some k_ ≠ ((.slice Ao24 t646.length co24) : Value).ownBlock) (.slice Ao35 y662.length co35) y662) ∧ Aside0 (Kd.N (Kd.slice 3 (Kd.int .i64)) 37 w' w.heap.size (fun k_ => some k_ ≠ ((.slice Ao24 t646.length co24) : Value).ownBlock ∧ some k_ ≠ (v650 : Value).ownBlock ∧ some k_ ≠ ((.slice Ao35 y662.length co35) : Value).ownBlock ∧ some k_ ≠ ((.slice (some ad677) t668.length co48) : Value).ownBlock ∧ some k_ ≠ (u13 : Value).ownBlock ∧ some k_ ≠ (u15 : Value).ownBlock ∧ some k_ ≠ (v686 : Value).ownBlock ∧ k_ ≠ gb642 ∧ k_ ≠ gb643) (.slice (some ad692) t665.length co62) t665) ∧ Aside0 (Kd.N (Kd.slice 3 (Kd.int .i64)) 37 w' w.heap.size (fun k_ => some k_ ≠ ((.slice Ao24 t646.length co24) : Value).ownBlock ∧ some k_ ≠ (v650 : Value).ownBlock ∧ some k_ ≠ ((.slice Ao35 y662.length co35) : Value).ownBlock ∧ some k_ ≠ ((.slice (some ad692) t665.length co62) : Value).ownBlock ∧ some k_ ≠ (u13 : Value).ownBlock ∧ some k_ ≠ (u15 : Value).ownBlock ∧ some k_ ≠ (v686 : Value).ownBlock ∧ k_ ≠ gb642 ∧ k_ ≠ gb643) (.slice (some ad677) t668.length co48) t668) ∧ Aside0 (Kd.N (Kd.slice 3 (Kd.int .i64)) 37 w' w.heap.size (fun k_ => some k_ ≠ ((.slice Ao24 t646.length co24) : Value).ownBlock ∧ some k_ ≠ (v650 : Value).ownBlock ∧ some k_ ≠ ((.slice Ao35 y662.length co35) : Value).ownBlock ∧ some k_ ≠ ((.slice (some ad692) t665.length co62) : Value).ownBlock ∧ some k_ ≠ ((.slice (some ad677) t668.length co48) : Value).ownBlock ∧ some k_ ≠ (u15 : Value).ownBlock ∧ some k_ ≠ (v686 : Value).ownBlock ∧ k_ ≠ gb642 ∧ k_ ≠ gb643) u13 x13_1) ∧ Aside0 (Kd.R (Kd.int .i64) 3 w' w.heap.size (fun k_ => some k_ ≠ (v686 : Value).ownBlock) u15 x15_2) ∧ Aside0 (Kd.R (Kd.int .i64) 3 w' w.heap.size (fun k_ => some k_ ≠ (u15 : Value).ownBlock) v686 x17_3) ∧ Aside0 (w'.heap[gb642]? = some (.cells #[.int .u8 a0_0, .int .u8 a0_1, .int .u8 a0_2, (.slice A0_3 l0_3.length c0_3)] 66 (0, 0))) ∧ Aside0 (w'.heap[gb643]? = some (.cells #[.int .u8 a1_0, .int .u8 a1_1] 67 (0, 0))) ∧ Aside0 (Kd.C (Kd.int .i64) w' A688_0 (rd_L2 t668 x14_1).length (rd_L2 t668 x14_1)) ∧ Aside0 (Kd.C (Kd.int .i64) w' A692_0 (rd_L2 t665 x14_1).length (rd_L2 t665 x14_1)) ∧ Aside0 (Below w.heap.size w w'))
                                            case atStart => exact ⟨(0), (wrap64 (((rd_L2 t665 x14_1).length : Int) - 1)), (by first | rfl | (simp; done) | (simp [*]; done)), (by first | rfl | (simp; done) | (simp [*]; done)), H', ⟨Nat.le_refl _⟩, ⟨by (with_reducible repeat (first | apply Kd.R_alloc | apply Kd.R_drewN | apply Kd.R_drew)); exact HO_7.out⟩, ⟨by (with_reducible repeat (first | apply Kd.N_alloc | apply Kd.N_drewN | apply Kd.N_drew)); exact HO_8.out⟩, ⟨by (with_reducible repeat (first | apply Kd.R_alloc | apply Kd.R_drewN | apply Kd.R_drew)); exact HO_10.out⟩, ⟨by (with_reducible repeat (first | apply Kd.N_alloc | apply Kd.N_drewN | apply Kd.N_drew)); exact HO_11.out⟩, ⟨by (with_reducible repeat (first | apply Kd.N_alloc | apply Kd.N_drewN | apply Kd.N_drew)); exact HO_12.out⟩, ⟨by (with_reducible repeat (first | apply Kd.N_alloc | apply Kd.N_drewN | apply Kd.N_drew)); exact HO_13.out⟩, ⟨by (with_reducible repeat (first | apply Kd.R_alloc | apply Kd.R_drewN | apply Kd.R_drew)); exact HO_15.out⟩, ⟨by (with_reducible repeat (first | apply Kd.R_alloc | apply Kd.R_drewN | apply Kd.R_drew)); exact HO_17.out⟩, ⟨by (with_reducible repeat (first | refine blk_drewN ?_ _ | refine blk_drew ?_ | refine blk_alloc ?_ _)); exact BK642.out⟩, ⟨by (with_reducible repeat (first | refine blk_drewN ?_ _ | refine blk_drew ?_ | refine blk_alloc ?_ _)); exact BK643.out⟩, ⟨by repeat (first | (with_reducible exact HR688_0.out) | (with_reducible refine Kd.C_alloc ?_ _) | (with_reducible refine Kd.C_drewN ?_ _) | (with_reducible refine Kd.C_drew ?_) | exact HR688_0.out | exact (Kd.C_below HR688_0.out HB.out))⟩, ⟨by repeat (first | (with_reducible exact HR692_0.out) | (with_reducible refine Kd.C_alloc ?_ _) | (with_reducible refine Kd.C_drewN ?_ _) | (with_reducible refine Kd.C_drew ?_) | exact HR692_0.out | exact (Kd.C_below HR692_0.out HB.out))⟩, ⟨by repeat (first | (with_reducible first | exact HB.out | apply below_alloc | apply pw_below_drewN | apply below_drew1 | refine below_set ?_ GE642.out | refine below_set ?_ GE643.out) | exact HB.out)⟩⟩
                                            case round =>
                                              clear H'
                                              try clear c1
                                              try clear c2
                                              try clear p2
                                              try clear c3
                                              try clear c4
                                              try clear c4b0
                                              try clear c5
                                              try clear p5
                                              try clear q5
                                              try clear hx5
                                              try clear hf5
                                              try clear c6
                                              try clear p6
                                              try clear q6
                                              try clear hx6
                                              try clear c8
                                              try clear c12
                                              try clear c12b0
                                              try clear c12b1
                                              try clear c13
                                              try clear c14
                                              try clear c14b0
                                              try clear c14b1
                                              try clear c15
                                              try clear c20
                                              try clear c22
                                              try clear c39
                                              try clear c39b0
                                              try clear c42
                                              try clear c42b0
                                              try clear c43
                                              try clear c43b0
                                              try clear c45
                                              try clear c45b0
                                              try clear c46
                                              try clear c46b0
                                              try clear c46b1
                                              try clear c47
                                              try clear c47b0
                                              try clear c47b1
                                              try clear c51
                                              try clear c51b0
                                              try clear c52
                                              try clear c52b0
                                              try clear c53
                                              try clear c53b0
                                              try clear c54
                                              try clear c54b0
                                              try clear c55
                                              try clear c55b0
                                              try clear c55b1
                                              try clear c56
                                              try clear c56b0
                                              try clear c57
                                              try clear c57b0
                                              try clear p58
                                              try clear q58
                                              try clear hx58
                                              try clear hf58
                                              try clear c61
                                              try clear c61b0
                                              try clear hcz21_0
                                              try clear hcz21_1
                                              try clear hcz21_2
                                              try clear hcz21_3
                                              try clear hcz23_0
                                              try clear hcz23_1
                                              try clear hcz9_0
                                              try clear hcz9_1
                                              try clear hcz9_2
                                              try clear hcz9_3
                                              try clear hfz21_0
                                              try clear hfz21_1
                                              try clear hfz21_2
                                              try clear hfz21_3
                                              try clear hfz23_0
                                              try clear hfz23_1
                                              try clear hfz9_0
                                              try clear hfz9_1
                                              try clear hfz9_2
                                              try clear hfz9_3
                                              try clear hx58_0
                                              try clear hx677_0
                                              try clear hx688_0
                                              try clear hx689_0
                                              try clear hx690_0
                                              try clear hx692_0
                                              try clear p2
                                              try clear p58
                                              try clear p6
                                              try clear p677
                                              try clear p688
                                              try clear p689
                                              try clear p690
                                              try clear p692
                                              try clear q58
                                              try clear q6
                                              try clear q677
                                              try clear q688
                                              try clear q689
                                              try clear q690
                                              try clear q692
                                              obtain ⟨x20_4, x21_4, rfl, rfl, HA, HK4, HO_7, HO_8, HO_10, HO_11, HO_12, HO_13, HO_15, HO_17, BK642, BK643, HR688_0, HR692_0, HB⟩ := hrel
                                              cases gk with
                                              | zero => exact absurd HA.out (by simp [wogglelaw09_HatMore.l3])
                                              | succ k4 =>
                                                have H := HA.out
                                                clear HA
                                                simp only [wogglelaw09_HatMore.l3] at H
                                                by_cases c63 : x21_4 ≥ 0
                                                · rw [if_pos c63] at H
                                                  have c63b0 : decide (0 ≤ x21_4) = true := decide_eq_true c63
                                                  clear c63
                                                  by_cases c64 : 0 ≤ x14_1
                                                  · rw [if_pos c64] at H
                                                    have c64b0 : decide (0 ≤ x14_1) = true := decide_eq_true c64
                                                    clear c64
                                                    by_cases c65 : x14_1 < (t665.length : Int)
                                                    · rw [if_pos c65] at H
                                                      have c65b0 : decide (x14_1 < (t665.length : Int)) = true := decide_eq_true c65
                                                      clear c65
                                                      by_cases c66 : 0 ≤ x21_4
                                                      · rw [if_pos c66] at H
                                                        have c66b0 : decide (0 ≤ x21_4) = true := decide_eq_true c66
                                                        clear c66
                                                        by_cases c67 : x21_4 < ((rd_L2 t665 x14_1).length : Int)
                                                        · rw [if_pos c67] at H
                                                          have c67b0 : decide (x21_4 < ((rd_L2 t665 x14_1).length : Int)) = true := decide_eq_true c67
                                                          clear c67
                                                          by_cases c68 : 0 ≤ (rd (rd_L2 t665 x14_1) x21_4)
                                                          · rw [if_pos c68] at H
                                                            have c68b0 : decide (0 ≤ (rd (rd_L2 t665 x14_1) x21_4)) = true := decide_eq_true c68
                                                            clear c68
                                                            by_cases c69 : (rd (rd_L2 t665 x14_1) x21_4) < (x17_3.length : Int)
                                                            · rw [if_pos c69] at H
                                                              have c69b0 : decide ((rd (rd_L2 t665 x14_1) x21_4) < (x17_3.length : Int)) = true := decide_eq_true c69
                                                              clear c69
                                                              have H' := Aside0.mk H
                                                              clear H
                                                              have p693 : 0 ≤ (x14_1 : Int) := of_decide_eq_true (by first | (with_reducible assumption) | assumption)
                                                              have q693 : x14_1 < (t665.length : Int) := of_decide_eq_true (by first | (with_reducible assumption) | assumption)
                                                              obtain ⟨ad693, A693_0, c693_0, e693, hx693_0, hl693_0, hi693_0⟩ := at_L2 (Kd.N_reads' HO_11.out).2.2 x14_1 p693 q693
                                                              obtain rfl : ad692 = ad693 := (by injection e693)
                                                              obtain ⟨ce693, hce693, hMe693, hcc693⟩ := Kd.N_get HO_11.out [] x14_1 p693 (by first | exact q693 | exact of_decide_eq_true (by first | (with_reducible assumption) | assumption) | (have e_ := (Kd.N_reads' HO_11.out).1; omega))
                                                              obtain ⟨ua693_0, uc693_0, rfl, ul693_0, ge693_0⟩ := Kd.FK_slice_open hMe693
                                                              have hv693_0 := hcc693 0 _ rfl
                                                              rw [Nat.add_zero, show ((Kd.slice 3 (Kd.int .i64))).sz = 1 from rfl, Nat.mul_one] at hv693_0
                                                              replace hv693_0 := Option.some.inj (hv693_0.symm.trans hx693_0)
                                                              injection hv693_0 with hva_ hvn_ hvc_
                                                              rw [hva_] at ge693_0
                                                              rw [hvc_] at ul693_0
                                                              have HL693_0 := Aside0.mk (show Kd.V (Kd.int .i64) 3 _ w.heap.size _ _ (rd_L2 t665 x14_1) from Kd.V_mk ul693_0 ge693_0)
                                                              clear hva_ hvn_ hvc_ ge693_0 ul693_0
                                                              clear hcc693 hce693
                                                              have HR693_0 := Aside0.mk hi693_0
                                                              have HC693_0 := Aside0.mk hl693_0
                                                              clear hi693_0 hl693_0
                                                              replace p693 := eq_true p693
                                                              replace q693 := eq_true q693
                                                              have p694 : 0 ≤ (x21_4 : Int) := of_decide_eq_true (by first | (with_reducible assumption) | assumption)
                                                              have q694 : x21_4 < ((rd_L2 t665 x14_1).length : Int) := of_decide_eq_true (by first | (with_reducible assumption) | assumption)
                                                              obtain ⟨ad694, e694, hx694_0⟩ := Kd.at_int (by first | (with_reducible exact HR693_0.out) | (with_reducible exact Kd.C_drewN HR693_0.out _) | exact Kd.C_drewN HR693_0.out _ | repeat (first | (with_reducible exact HR693_0.out) | (with_reducible refine Kd.C_alloc ?_ _) | (with_reducible refine Kd.C_drewN ?_ _) | (with_reducible refine Kd.C_drew ?_) | exact HR693_0.out)) x21_4 p694 q694
                                                              cases e694
                                                              replace p694 := eq_true p694
                                                              replace q694 := eq_true q694
                                                              obtain ⟨Ao70, co70, eo70⟩ := Kd.R_slice HO_17.out
                                                              subst eo70
                                                              have p695 : 0 ≤ ((rd (rd_L2 t665 x14_1) x21_4) : Int) := of_decide_eq_true (by first | (with_reducible assumption) | assumption)
                                                              have q695 : (rd (rd_L2 t665 x14_1) x21_4) < (x17_3.length : Int) := of_decide_eq_true (by first | (with_reducible assumption) | assumption)
                                                              obtain ⟨ad695, e695, hx695_0⟩ := Kd.at_int (Kd.R_reads' HO_17.out).2.2 (rd (rd_L2 t665 x14_1) x21_4) p695 q695
                                                              cases e695
                                                              replace p695 := eq_true p695
                                                              replace q695 := eq_true q695
                                                              go_wp2
                                                              go_roundg k4
                                                              case measure => have := HK1.out; have := HK2.out; have := HK3.out; have := HK4.out; omega
                                                              case rel => exact ⟨(wrap64 ((wrap64 (x20_4 * t645)) + (rd x17_3 (rd (rd_L2 t665 x14_1) x21_4)))), (wrap64 (x21_4 - 1)), (by first | rfl | (simp; done) | (simp [*]; done)), (by first | rfl | (simp; done) | (simp [*]; done)), H', ⟨by have := HK1.out; have := HK2.out; have := HK3.out; have := HK4.out; omega⟩, ⟨by (with_reducible repeat (first | apply Kd.R_alloc | apply Kd.R_drewN | apply Kd.R_drew)); exact HO_7.out⟩, ⟨by (with_reducible repeat (first | apply Kd.N_alloc | apply Kd.N_drewN | apply Kd.N_drew)); exact HO_8.out⟩, ⟨by (with_reducible repeat (first | apply Kd.R_alloc | apply Kd.R_drewN | apply Kd.R_drew)); exact HO_10.out⟩, ⟨by (with_reducible repeat (first | apply Kd.N_alloc | apply Kd.N_drewN | apply Kd.N_drew)); exact HO_11.out⟩, ⟨by (with_reducible repeat (first | apply Kd.N_alloc | apply Kd.N_drewN | apply Kd.N_drew)); exact HO_12.out⟩, ⟨by (with_reducible repeat (first | apply Kd.N_alloc | apply Kd.N_drewN | apply Kd.N_drew)); exact HO_13.out⟩, ⟨by (with_reducible repeat (first | apply Kd.R_alloc | apply Kd.R_drewN | apply Kd.R_drew)); exact HO_15.out⟩, ⟨by (with_reducible repeat (first | apply Kd.R_alloc | apply Kd.R_drewN | apply Kd.R_drew)); exact HO_17.out⟩, ⟨by (with_reducible repeat (first | refine blk_drewN ?_ _ | refine blk_drew ?_ | refine blk_alloc ?_ _)); exact BK642.out⟩, ⟨by (with_reducible repeat (first | refine blk_drewN ?_ _ | refine blk_drew ?_ | refine blk_alloc ?_ _)); exact BK643.out⟩, ⟨by repeat (first | (with_reducible exact HR688_0.out) | (with_reducible refine Kd.C_alloc ?_ _) | (with_reducible refine Kd.C_drewN ?_ _) | (with_reducible refine Kd.C_drew ?_) | exact HR688_0.out | exact (Kd.C_below HR688_0.out HB.out))⟩, ⟨by repeat (first | (with_reducible exact HR692_0.out) | (with_reducible refine Kd.C_alloc ?_ _) | (with_reducible refine Kd.C_drewN ?_ _) | (with_reducible refine Kd.C_drew ?_) | exact HR692_0.out | exact (Kd.C_below HR692_0.out HB.out))⟩, ⟨by repeat (first | (with_reducible first | exact HB.out | apply below_alloc | apply pw_below_drewN | apply below_drew1 | refine below_set ?_ GE642.out | refine below_set ?_ GE643.out) | exact HB.out)⟩⟩
                                                            · rw [if_neg c69] at H
                                                              exact absurd H (by simp)
                                                          · rw [if_neg c68] at H
                                                            exact absurd H (by simp)
                                                        · rw [if_neg c67] at H
                                                          exact absurd H (by simp)
                                                      · rw [if_neg c66] at H
                                                        exact absurd H (by simp)
                                                    · rw [if_neg c65] at H
                                                      exact absurd H (by simp)
                                                  · rw [if_neg c64] at H
                                                    exact absurd H (by simp)
                                                · rw [if_neg c63] at H
                                                  have c63b0 : decide (0 ≤ x21_4) = false := decide_eq_false c63
                                                  clear c63
                                                  by_cases c71 : 0 ≤ x14_1
                                                  · rw [if_pos c71] at H
                                                    have c71b0 : decide (0 ≤ x14_1) = true := decide_eq_true c71
                                                    clear c71
                                                    by_cases c72 : x14_1 < (t649.length : Int)
                                                    · rw [if_pos c72] at H
                                                      have c72b0 : decide (x14_1 < (t649.length : Int)) = true := decide_eq_true c72
                                                      clear c72
                                                      by_cases c73 : 0 ≤ x20_4
                                                      · rw [if_pos c73] at H
                                                        have c73b0 : decide (0 ≤ x20_4) = true := decide_eq_true c73
                                                        clear c73
                                                        by_cases c74 : x20_4 < ((rd_L2 t649 x14_1).length : Int)
                                                        · rw [if_pos c74] at H
                                                          have c74b0 : decide (x20_4 < ((rd_L2 t649 x14_1).length : Int)) = true := decide_eq_true c74
                                                          clear c74
                                                          obtain ⟨y698, hy698⟩ : ∃ y_ : List Int, y_ = (([rd (rd_L2 t649 x14_1) x20_4] : List Int)) := ⟨_, rfl⟩
                                                          replace H : (if x15_2.length + y698.length < 17592186044416 then (wogglelaw09_HatMore.l1 k4 t644 t645 t646 t649 y662 t665 t668 x13_1 x14_1 (x15_2 ++ y698) (wrap64 (x16_2 + 1))) else (none)) = some r := by first | (rw [hy698]; with_reducible exact H) | (have H2_ := (Option.bind_some _ _).symm.trans H; rw [hy698]; with_reducible exact H2_) | (have H2_ := (Option.bind_some _ _).symm.trans H; with_reducible exact H2_) | with_reducible exact H | (rw [hy698]; exact H) | exact H
                                                          have Ny698 := Aside0.mk hy698
                                                          clear hy698
                                                          by_cases c75 : x15_2.length + y698.length < 17592186044416
                                                          · rw [if_pos c75] at H
                                                            have LMc75 := Aside0.mk c75
                                                            clear c75
                                                            obtain ⟨y701, hy701⟩ : ∃ y_ : List Int, y_ = (x15_2 ++ y698) := ⟨_, rfl⟩
                                                            replace H : (wogglelaw09_HatMore.l1 k4 t644 t645 t646 t649 y662 t665 t668 x13_1 x14_1 y701 (wrap64 (x16_2 + 1))) = some r := by first | (rw [hy701]; with_reducible exact H) | (have H2_ := (Option.bind_some _ _).symm.trans H; rw [hy701]; with_reducible exact H2_) | (have H2_ := (Option.bind_some _ _).symm.trans H; with_reducible exact H2_) | with_reducible exact H | (rw [hy701]; exact H) | exact H
                                                            have Ny701 := Aside0.mk hy701
                                                            clear hy701
                                                            have H' := Aside0.mk H
                                                            clear H
                                                            obtain ⟨Ao76, co76, eo76⟩ := Kd.N_slice HO_8.out
                                                            subst eo76
                                                            have p696 : 0 ≤ (x14_1 : Int) := of_decide_eq_true (by first | (with_reducible assumption) | assumption)
                                                            have q696 : x14_1 < (t649.length : Int) := of_decide_eq_true (by first | (with_reducible assumption) | assumption)
                                                            obtain ⟨ad696, A696_0, c696_0, e696, hx696_0, hl696_0, hi696_0⟩ := at_L2 (Kd.N_reads' HO_8.out).2.2 x14_1 p696 q696
                                                            cases e696
                                                            obtain ⟨ce696, hce696, hMe696, hcc696⟩ := Kd.N_get HO_8.out [] x14_1 p696 (by first | exact q696 | exact of_decide_eq_true (by first | (with_reducible assumption) | assumption) | (have e_ := (Kd.N_reads' HO_8.out).1; omega))
                                                            obtain ⟨ua696_0, uc696_0, rfl, ul696_0, ge696_0⟩ := Kd.FK_slice_open hMe696
                                                            have hv696_0 := hcc696 0 _ rfl
                                                            rw [Nat.add_zero, show ((Kd.slice 3 (Kd.int .i64))).sz = 1 from rfl, Nat.mul_one] at hv696_0
                                                            replace hv696_0 := Option.some.inj (hv696_0.symm.trans hx696_0)
                                                            injection hv696_0 with hva_ hvn_ hvc_
                                                            rw [hva_] at ge696_0
                                                            rw [hvc_] at ul696_0
                                                            have HL696_0 := Aside0.mk (show Kd.V (Kd.int .i64) 3 _ w.heap.size _ _ (rd_L2 t649 x14_1) from Kd.V_mk ul696_0 ge696_0)
                                                            clear hva_ hvn_ hvc_ ge696_0 ul696_0
                                                            clear hcc696 hce696
                                                            have HR696_0 := Aside0.mk hi696_0
                                                            have HC696_0 := Aside0.mk hl696_0
                                                            clear hi696_0 hl696_0
                                                            replace p696 := eq_true p696
                                                            replace q696 := eq_true q696
                                                            have p697 : 0 ≤ (x20_4 : Int) := of_decide_eq_true (by first | (with_reducible assumption) | assumption)
                                                            have q697 : x20_4 < ((rd_L2 t649 x14_1).length : Int) := of_decide_eq_true (by first | (with_reducible assumption) | assumption)
                                                            obtain ⟨ad697, e697, hx697_0⟩ := Kd.at_int (by first | (with_reducible exact HR696_0.out) | (with_reducible exact Kd.C_drewN HR696_0.out _) | exact Kd.C_drewN HR696_0.out _ | repeat (first | (with_reducible exact HR696_0.out) | (with_reducible refine Kd.C_alloc ?_ _) | (with_reducible refine Kd.C_drewN ?_ _) | (with_reducible refine Kd.C_drew ?_) | exact HR696_0.out)) x20_4 p697 q697
                                                            cases e697
                                                            replace p697 := eq_true p697
                                                            replace q697 := eq_true q697
                                                            go_wp2_with (first | ((with_reducible refine gate_dst (N := 142) rfl ?_); refine Kd.R_lit (Kd.int .i64) _ 3 ?hg (N := 142) ?hd (xs := ([rd (rd_L2 t649 x14_1) x20_4] : List Int)) (inner := [.int .i64 (rd (rd_L2 t649 x14_1) x20_4)]) (ok := fun _ => True) (okp := fun _ => True) ?hr ?hp (fun _ hk => hk) trivial (Below.refl _ _) (Nat.le_refl _) (by simp) ?_; (case hd => rfl); (case hg => rfl); (case hr => first | (go_simp; done) | (go_simp; rfl)); (case hp => exact (Reps.one (show Kd.M (Kd.int .i64) _ _ _ (rd (rd_L2 t649 x14_1) x20_4) [.int .i64 (rd (rd_L2 t649 x14_1) x20_4)] from rfl) (Reps.none _ _))); intro v699 w77 ho78 hb hg_ hnew_; clear hg_ hnew_; (first | rw [← Ny698.out] at ho78 | (simp only [Int.reduceToNat] at ho78; rw [← Ny698.out] at ho78)); have n0_ := Aside0.mk (Kd.R_below (by (with_reducible repeat (first | apply Kd.R_alloc | apply Kd.R_drewN | apply Kd.R_drew)); exact HO_7.out) hb); have n1_ := Aside0.mk (Kd.N_elder' (by (with_reducible repeat (first | apply Kd.N_alloc | apply Kd.N_drewN | apply Kd.N_drew)); exact HO_8.out) (Kd.R_base ho78) hb); have n2_ := Aside0.mk (Kd.R_below (by (with_reducible repeat (first | apply Kd.R_alloc | apply Kd.R_drewN | apply Kd.R_drew)); exact HO_10.out) hb); have n3_ := Aside0.mk (Kd.N_elder' (by (with_reducible repeat (first | apply Kd.N_alloc | apply Kd.N_drewN | apply Kd.N_drew)); exact HO_11.out) (Kd.R_base ho78) hb); have n4_ := Aside0.mk (Kd.N_elder' (by (with_reducible repeat (first | apply Kd.N_alloc | apply Kd.N_drewN | apply Kd.N_drew)); exact HO_12.out) (Kd.R_base ho78) hb); have n5_ := Aside0.mk (Kd.N_elder' (by (with_reducible repeat (first | apply Kd.N_alloc | apply Kd.N_drewN | apply Kd.N_drew)); exact HO_13.out) (Kd.R_base ho78) hb); have n6_ := Aside0.mk (Kd.R_elder' (by (with_reducible repeat (first | apply Kd.R_alloc | apply Kd.R_drewN | apply Kd.R_drew)); exact HO_15.out) (Kd.R_base ho78) hb); have n7_ := Aside0.mk (Kd.R_elder' (by (with_reducible repeat (first | apply Kd.R_alloc | apply Kd.R_drewN | apply Kd.R_drew)); exact HO_17.out) (Kd.R_base ho78) hb); have n8_ := Aside0.mk (Kd.V_elder' (by (with_reducible repeat (first | apply Kd.V_alloc | apply Kd.V_drewN | apply Kd.V_drew)); exact HL696_0.out) (Kd.R_base ho78) hb); have n9_ := Aside0.mk (Kd.R_lower (Kd.R_new' (Kd.R_new' ho78 (Kd.R_lt (by (with_reducible repeat (first | apply Kd.R_alloc | apply Kd.R_drewN | apply Kd.R_drew)); exact HO_15.out))) (Kd.R_lt (by (with_reducible repeat (first | apply Kd.R_alloc | apply Kd.R_drewN | apply Kd.R_drew)); exact HO_17.out))) (below_size (by repeat (first | (with_reducible first | exact HB.out | apply below_alloc | apply pw_below_drewN | apply below_drew1 | refine below_set ?_ GE642.out | refine below_set ?_ GE643.out) | exact HB.out)))); have n10_ := Aside0.mk (blk_below (g := gb642) (o := .cells #[.int .u8 a0_0, .int .u8 a0_1, .int .u8 a0_2, .slice A0_3 l0_3.length c0_3] 66 (0, 0)) (by (with_reducible repeat (first | refine blk_drewN ?_ _ | refine blk_drew ?_ | refine blk_alloc ?_ _)); exact BK642.out) hb); have n11_ := Aside0.mk (blk_below (g := gb643) (o := .cells #[.int .u8 a1_0, .int .u8 a1_1] 67 (0, 0)) (by (with_reducible repeat (first | refine blk_drewN ?_ _ | refine blk_drew ?_ | refine blk_alloc ?_ _)); exact BK643.out) hb); have n12_ := Aside0.mk (Kd.C_below (by first | (with_reducible exact HR688_0.out) | (with_reducible exact Kd.C_drewN HR688_0.out _) | exact Kd.C_drewN HR688_0.out _ | repeat (first | (with_reducible exact HR688_0.out) | (with_reducible refine Kd.C_alloc ?_ _) | (with_reducible refine Kd.C_drewN ?_ _) | (with_reducible refine Kd.C_drew ?_) | exact HR688_0.out)) hb); have n13_ := Aside0.mk (Kd.C_below (by first | (with_reducible exact HR692_0.out) | (with_reducible exact Kd.C_drewN HR692_0.out _) | exact Kd.C_drewN HR692_0.out _ | repeat (first | (with_reducible exact HR692_0.out) | (with_reducible refine Kd.C_alloc ?_ _) | (with_reducible refine Kd.C_drewN ?_ _) | (with_reducible refine Kd.C_drew ?_) | exact HR692_0.out)) hb); have n14_ := Aside0.mk (Kd.C_below (by first | (with_reducible exact HR696_0.out) | (with_reducible exact Kd.C_drewN HR696_0.out _) | exact Kd.C_drewN HR696_0.out _ | repeat (first | (with_reducible exact HR696_0.out) | (with_reducible refine Kd.C_alloc ?_ _) | (with_reducible refine Kd.C_drewN ?_ _) | (with_reducible refine Kd.C_drew ?_) | exact HR696_0.out)) hb); have n15_ := Aside0.mk (below_step (by repeat (first | (with_reducible first | exact HB.out | apply below_alloc | apply pw_below_drewN | apply below_drew1 | refine below_set ?_ GE642.out | refine below_set ?_ GE643.out) | exact HB.out)) hb); clear HO_7; clear HO_8; clear HO_10; clear HO_11; clear HO_12; clear HO_13; clear HO_15; clear HO_17; clear HL696_0; clear BK642; clear BK643; clear HR688_0; clear HR692_0; clear HR696_0; clear HB; have HO_7 := n0_; have HO_8 := n1_; have HO_10 := n2_; have HO_11 := n3_; have HO_12 := n4_; have HO_13 := n5_; have HO_15 := n6_; have HO_17 := n7_; have HL696_0 := n8_; have HO700 := n9_; have BK642 := n10_; have BK643 := n11_; have HR688_0 := n12_; have HR692_0 := n13_; have HR696_0 := n14_; have HB := n15_; clear n0_ n1_ n2_ n3_ n4_ n5_ n6_ n7_ n8_ n9_ n10_ n11_ n12_ n13_ n14_ n15_; clear hb ho78; obtain ⟨Ao80, co80, eo80⟩ := Kd.R_slice HO700.out; subst eo80) | ((with_reducible refine gate_builtin (b := .append) (xs := #[.tmp 134, .tmp 142]) rfl ?_); at_builtin; refine Kd.R_append_rows (Kd.int .i64) (w0 := w) w.heap.size rfl (.tmp 134) (.tmp 142) 37 3 (.int .i64 0) 8 rfl Try.underlying37 info3 rfl (by decide) (by omega) u15 x15_2 y698 _ _ _ (fun k_ => some k_ ≠ (v686 : Value).ownBlock ∧ some k_ ≠ (.slice Ao80 y698.length co80 : Value).ownBlock) (fun _ => False) rfl rfl ?aO ?aR (fun _ _ h => h) (fun _ h => h.elim) ?aF ?aB ?aS ?aL ?_; (case aR => repeat (first | exact (Kd.R_reads' HO700.out).2.2 | (with_reducible refine Kd.C_alloc ?_ _) | (with_reducible refine Kd.C_drewN ?_ _) | (with_reducible refine Kd.C_drew ?_))); (case aB => exact (by repeat (first | (with_reducible first | exact HB.out | apply below_alloc | apply pw_below_drewN | apply below_drew1 | refine below_set ?_ GE642.out | refine below_set ?_ GE643.out) | exact HB.out))); (case aF => exact (fun k_ hk => ⟨Kd.fresh' (Kd.R_lt (by (with_reducible repeat (first | apply Kd.R_alloc | apply Kd.R_drewN | apply Kd.R_drew)); exact HO_17.out)) k_ hk, Kd.fresh' (Kd.R_lt (by (with_reducible repeat (first | apply Kd.R_alloc | apply Kd.R_drewN | apply Kd.R_drew)); exact HO700.out)) k_ hk⟩)); (case aO => exact (by (with_reducible repeat (first | apply Kd.R_alloc | apply Kd.R_drewN | apply Kd.R_drew)); exact HO_15.out)); (case aS => exact (below_size (by repeat (first | (with_reducible first | exact HB.out | apply below_alloc | apply pw_below_drewN | apply below_drew1 | refine below_set ?_ GE642.out | refine below_set ?_ GE643.out) | exact HB.out)))); (case aL => have := LMc75.out; omega); intro v702 w79 ho hb hg hat; rw [← Ny701.out] at ho; have n0_ := Aside0.mk (Kd.R_over' (by (with_reducible repeat (first | apply Kd.R_alloc | apply Kd.R_drewN | apply Kd.R_drew)); exact HO_7.out) (Kd.R_typed (by (with_reducible repeat (first | apply Kd.R_alloc | apply Kd.R_drewN | apply Kd.R_drew)); exact HO_15.out)) (by decide) hg); have n1_ := Aside0.mk (Kd.N_afterv (ok := (fun k_ => some k_ ≠ (.slice Ao24 t646.length co24 : Value).ownBlock ∧ some k_ ≠ (.slice Ao35 y662.length co35 : Value).ownBlock ∧ some k_ ≠ (.slice (some ad692) t665.length co62 : Value).ownBlock ∧ some k_ ≠ (.slice (some ad677) t668.length co48 : Value).ownBlock ∧ some k_ ≠ (u13 : Value).ownBlock ∧ some k_ ≠ (v686 : Value).ownBlock ∧ some k_ ≠ (.slice Ao80 y698.length co80 : Value).ownBlock ∧ k_ ≠ gb642 ∧ k_ ≠ gb643)) (by (with_reducible repeat (first | apply Kd.N_alloc | apply Kd.N_drewN | apply Kd.N_drew)); exact Kd.N_mono HO_8.out (fun _ hk => ⟨⟨hk.1.1, ⟨hk.1.2.1, ⟨hk.1.2.2.1, ⟨hk.1.2.2.2.1, ⟨hk.1.2.2.2.2.1, ⟨hk.1.2.2.2.2.2.2.1, ⟨hk.2, ⟨hk.1.2.2.2.2.2.2.2.1, hk.1.2.2.2.2.2.2.2.2⟩⟩⟩⟩⟩⟩⟩⟩, hk.1.2.2.2.2.2.1⟩)) hg hat); have n2_ := Aside0.mk (Kd.R_over' (by (with_reducible repeat (first | apply Kd.R_alloc | apply Kd.R_drewN | apply Kd.R_drew)); exact HO_10.out) (Kd.R_typed (by (with_reducible repeat (first | apply Kd.R_alloc | apply Kd.R_drewN | apply Kd.R_drew)); exact HO_15.out)) (by decide) hg); have n3_ := Aside0.mk (Kd.N_afterv (ok := (fun k_ => some k_ ≠ (.slice Ao24 t646.length co24 : Value).ownBlock ∧ some k_ ≠ (.slice (some ad696) t649.length co76 : Value).ownBlock ∧ some k_ ≠ (.slice Ao35 y662.length co35 : Value).ownBlock ∧ some k_ ≠ (.slice (some ad677) t668.length co48 : Value).ownBlock ∧ some k_ ≠ (u13 : Value).ownBlock ∧ some k_ ≠ (v686 : Value).ownBlock ∧ some k_ ≠ (.slice Ao80 y698.length co80 : Value).ownBlock ∧ k_ ≠ gb642 ∧ k_ ≠ gb643)) (by (with_reducible repeat (first | apply Kd.N_alloc | apply Kd.N_drewN | apply Kd.N_drew)); exact Kd.N_mono HO_11.out (fun _ hk => ⟨⟨hk.1.1, ⟨hk.1.2.1, ⟨hk.1.2.2.1, ⟨hk.1.2.2.2.1, ⟨hk.1.2.2.2.2.1, ⟨hk.1.2.2.2.2.2.2.1, ⟨hk.2, ⟨hk.1.2.2.2.2.2.2.2.1, hk.1.2.2.2.2.2.2.2.2⟩⟩⟩⟩⟩⟩⟩⟩, hk.1.2.2.2.2.2.1⟩)) hg hat); have n4_ := Aside0.mk (Kd.N_afterv (ok := (fun k_ => some k_ ≠ (.slice Ao24 t646.length co24 : Value).ownBlock ∧ some k_ ≠ (.slice (some ad696) t649.length co76 : Value).ownBlock ∧ some k_ ≠ (.slice Ao35 y662.length co35 : Value).ownBlock ∧ some k_ ≠ (.slice (some ad692) t665.length co62 : Value).ownBlock ∧ some k_ ≠ (u13 : Value).ownBlock ∧ some k_ ≠ (v686 : Value).ownBlock ∧ some k_ ≠ (.slice Ao80 y698.length co80 : Value).ownBlock ∧ k_ ≠ gb642 ∧ k_ ≠ gb643)) (by (with_reducible repeat (first | apply Kd.N_alloc | apply Kd.N_drewN | apply Kd.N_drew)); exact Kd.N_mono HO_12.out (fun _ hk => ⟨⟨hk.1.1, ⟨hk.1.2.1, ⟨hk.1.2.2.1, ⟨hk.1.2.2.2.1, ⟨hk.1.2.2.2.2.1, ⟨hk.1.2.2.2.2.2.2.1, ⟨hk.2, ⟨hk.1.2.2.2.2.2.2.2.1, hk.1.2.2.2.2.2.2.2.2⟩⟩⟩⟩⟩⟩⟩⟩, hk.1.2.2.2.2.2.1⟩)) hg hat); have n5_ := Aside0.mk (Kd.N_afterv (ok := (fun k_ => some k_ ≠ (.slice Ao24 t646.length co24 : Value).ownBlock ∧ some k_ ≠ (.slice (some ad696) t649.length co76 : Value).ownBlock ∧ some k_ ≠ (.slice Ao35 y662.length co35 : Value).ownBlock ∧ some k_ ≠ (.slice (some ad692) t665.length co62 : Value).ownBlock ∧ some k_ ≠ (.slice (some ad677) t668.length co48 : Value).ownBlock ∧ some k_ ≠ (v686 : Value).ownBlock ∧ some k_ ≠ (.slice Ao80 y698.length co80 : Value).ownBlock ∧ k_ ≠ gb642 ∧ k_ ≠ gb643)) (by (with_reducible repeat (first | apply Kd.N_alloc | apply Kd.N_drewN | apply Kd.N_drew)); exact Kd.N_mono HO_13.out (fun _ hk => ⟨⟨hk.1.1, ⟨hk.1.2.1, ⟨hk.1.2.2.1, ⟨hk.1.2.2.2.1, ⟨hk.1.2.2.2.2.1, ⟨hk.1.2.2.2.2.2.2.1, ⟨hk.2, ⟨hk.1.2.2.2.2.2.2.2.1, hk.1.2.2.2.2.2.2.2.2⟩⟩⟩⟩⟩⟩⟩⟩, hk.1.2.2.2.2.2.1⟩)) hg hat); have n6_ := Aside0.mk (Kd.R_after (ok := (fun k_ => some k_ ≠ (.slice Ao80 y698.length co80 : Value).ownBlock)) (by (with_reducible repeat (first | apply Kd.R_alloc | apply Kd.R_drewN | apply Kd.R_drew)); exact Kd.R_mono HO_17.out (fun _ hk => ⟨hk.2, hk.1⟩)) hg hat); have n7_ := Aside0.mk (blk_grown (g := gb642) (o := .cells #[.int .u8 a0_0, .int .u8 a0_1, .int .u8 a0_2, .slice A0_3 l0_3.length c0_3] 66 (0, 0)) (by (with_reducible repeat (first | refine blk_drewN ?_ _ | refine blk_drew ?_ | refine blk_alloc ?_ _)); exact BK642.out) hg (Kd.R_ne HO_15.out BK642.out (by decide))); have n8_ := Aside0.mk (blk_grown (g := gb643) (o := .cells #[.int .u8 a1_0, .int .u8 a1_1] 67 (0, 0)) (by (with_reducible repeat (first | refine blk_drewN ?_ _ | refine blk_drew ?_ | refine blk_alloc ?_ _)); exact BK643.out) hg (Kd.R_ne HO_15.out BK643.out (by decide))); have n9_ := Aside0.mk (Kd.V_afterv (ok := (fun k_ => some k_ ≠ (.slice Ao24 t646.length co24 : Value).ownBlock ∧ some k_ ≠ (.slice (some ad696) t649.length co76 : Value).ownBlock ∧ some k_ ≠ (.slice Ao35 y662.length co35 : Value).ownBlock ∧ some k_ ≠ (.slice (some ad692) t665.length co62 : Value).ownBlock ∧ some k_ ≠ (.slice (some ad677) t668.length co48 : Value).ownBlock ∧ some k_ ≠ (u13 : Value).ownBlock ∧ some k_ ≠ (v686 : Value).ownBlock ∧ some k_ ≠ (.slice Ao80 y698.length co80 : Value).ownBlock ∧ k_ ≠ gb642 ∧ k_ ≠ gb643)) (by (with_reducible repeat (first | apply Kd.V_alloc | apply Kd.V_drewN | apply Kd.V_drew)); exact Kd.V_mono HL696_0.out (fun _ hk => ⟨⟨hk.1.1.1, ⟨hk.1.2, ⟨hk.1.1.2.1, ⟨hk.1.1.2.2.1, ⟨hk.1.1.2.2.2.1, ⟨hk.1.1.2.2.2.2.1, ⟨hk.1.1.2.2.2.2.2.2.1, ⟨hk.2, ⟨hk.1.1.2.2.2.2.2.2.2.1, hk.1.1.2.2.2.2.2.2.2.2⟩⟩⟩⟩⟩⟩⟩⟩⟩, hk.1.1.2.2.2.2.2.1⟩)) hg hat); have n10_ := Aside0.mk (Kd.R_after (ok := (fun k_ => some k_ ≠ (v686 : Value).ownBlock)) (by (with_reducible repeat (first | apply Kd.R_alloc | apply Kd.R_drewN | apply Kd.R_drew)); exact Kd.R_mono HO700.out (fun _ hk => ⟨hk.2, hk.1.2⟩)) hg hat); have n11_ := Aside0.mk (hb); have n12_ := Aside0.mk (ho); clear HO_7; clear HO_8; clear HO_10; clear HO_11; clear HO_12; clear HO_13; clear HO_17; clear BK642; clear BK643; clear HL696_0; clear HO700; clear HB; clear HO_15; have HO_7 := n0_; have HO_8 := n1_; have HO_10 := n2_; have HO_11 := n3_; have HO_12 := n4_; have HO_13 := n5_; have HO_17 := n6_; have BK642 := n7_; have BK643 := n8_; have HL696_0 := n9_; have HO700 := n10_; have HB := n11_; have HO703 := n12_; clear n0_ n1_ n2_ n3_ n4_ n5_ n6_ n7_ n8_ n9_ n10_ n11_ n12_; clear ho hb hg hat))
                                                            go_roundg k4
                                                            case measure => have := HK1.out; have := HK2.out; have := HK3.out; have := HK4.out; omega
                                                            case rel => exact ⟨(y701), (wrap64 (x16_2 + 1)), (by first | rfl | (simp; done) | (simp [*]; done)), H', ⟨by have := HK1.out; have := HK2.out; have := HK3.out; have := HK4.out; omega⟩, ⟨by (with_reducible repeat (first | apply Kd.R_alloc | apply Kd.R_drewN | apply Kd.R_drew)); exact HO_7.out⟩, ⟨by (with_reducible repeat (first | apply Kd.N_alloc | apply Kd.N_drewN | apply Kd.N_drew)); exact Kd.N_mono HO_8.out (fun _ hk => ⟨hk.1.1, ⟨hk.1.2.1, ⟨hk.1.2.2.1, ⟨hk.1.2.2.2.1, ⟨hk.1.2.2.2.2.1, ⟨hk.2, ⟨hk.1.2.2.2.2.2.2.2.1, hk.1.2.2.2.2.2.2.2.2⟩⟩⟩⟩⟩⟩⟩)⟩, ⟨by (with_reducible repeat (first | apply Kd.R_alloc | apply Kd.R_drewN | apply Kd.R_drew)); exact HO_10.out⟩, ⟨by (with_reducible repeat (first | apply Kd.N_alloc | apply Kd.N_drewN | apply Kd.N_drew)); exact Kd.N_mono HO_11.out (fun _ hk => ⟨hk.1.1, ⟨hk.1.2.1, ⟨hk.1.2.2.1, ⟨hk.1.2.2.2.1, ⟨hk.1.2.2.2.2.1, ⟨hk.2, ⟨hk.1.2.2.2.2.2.2.2.1, hk.1.2.2.2.2.2.2.2.2⟩⟩⟩⟩⟩⟩⟩)⟩, ⟨by (with_reducible repeat (first | apply Kd.N_alloc | apply Kd.N_drewN | apply Kd.N_drew)); exact Kd.N_mono HO_12.out (fun _ hk => ⟨hk.1.1, ⟨hk.1.2.1, ⟨hk.1.2.2.1, ⟨hk.1.2.2.2.1, ⟨hk.1.2.2.2.2.1, ⟨hk.2, ⟨hk.1.2.2.2.2.2.2.2.1, hk.1.2.2.2.2.2.2.2.2⟩⟩⟩⟩⟩⟩⟩)⟩, ⟨by (with_reducible repeat (first | apply Kd.N_alloc | apply Kd.N_drewN | apply Kd.N_drew)); exact Kd.N_mono HO_13.out (fun _ hk => ⟨hk.1.1, ⟨hk.1.2.1, ⟨hk.1.2.2.1, ⟨hk.1.2.2.2.1, ⟨hk.1.2.2.2.2.1, ⟨hk.2, ⟨hk.1.2.2.2.2.2.2.2.1, hk.1.2.2.2.2.2.2.2.2⟩⟩⟩⟩⟩⟩⟩)⟩, ⟨by (with_reducible repeat (first | apply Kd.R_alloc | apply Kd.R_drewN | apply Kd.R_drew)); exact Kd.R_mono HO703.out (fun _ hk => trivial)⟩, ⟨by (with_reducible repeat (first | refine blk_drewN ?_ _ | refine blk_drew ?_ | refine blk_alloc ?_ _)); exact BK642.out⟩, ⟨by (with_reducible repeat (first | refine blk_drewN ?_ _ | refine blk_drew ?_ | refine blk_alloc ?_ _)); exact BK643.out⟩, ⟨by repeat (first | (with_reducible first | exact HB.out | apply below_alloc | apply pw_below_drewN | apply below_drew1 | refine below_set ?_ GE642.out | refine below_set ?_ GE643.out) | exact HB.out)⟩⟩
                                                          · rw [if_neg c75] at H
                                                            exact absurd H (by simp)
                                                        · rw [if_neg c74] at H
                                                          exact absurd H (by simp)
                                                      · rw [if_neg c73] at H
                                                        exact absurd H (by simp)
                                                    · rw [if_neg c72] at H
                                                      exact absurd H (by simp)
                                                  · rw [if_neg c71] at H
                                                    exact absurd H (by simp)
                                          · rw [if_neg c61] at H
                                            exact absurd H (by simp)
                                      · rw [if_neg c52] at H
                                        exact absurd H (by simp)
                                    · rw [if_neg c51] at H
                                      exact absurd H (by simp)
                              · rw [if_neg c47] at H
                                exact absurd H (by simp)
                            · rw [if_neg c46] at H
                              exact absurd H (by simp)
                          · rw [if_neg c45] at H
                            have c45b0 : decide (x16_2 < t678) = false := decide_eq_false c45
                            clear c45
                            obtain ⟨y679, hy679⟩ : ∃ y_ : List (List Int), y_ = (([x15_2] : List (List Int))) := ⟨_, rfl⟩
                            replace H : (if x13_1.length + y679.length < 5864062014805 then (wogglelaw09_HatMore.l0 k2 t644 t645 t646 t649 y662 t665 t668 (x13_1 ++ y679) (wrap64 (x14_1 + 1))) else (none)) = some r := by first | (rw [hy679]; with_reducible exact H) | (have H2_ := (Option.bind_some _ _).symm.trans H; rw [hy679]; with_reducible exact H2_) | (have H2_ := (Option.bind_some _ _).symm.trans H; with_reducible exact H2_) | with_reducible exact H | (rw [hy679]; exact H) | exact H
                            have Ny679 := Aside0.mk hy679
                            clear hy679
                            by_cases c81 : x13_1.length + y679.length < 5864062014805
                            · rw [if_pos c81] at H
                              have LMc81 := Aside0.mk c81
                              clear c81
                              obtain ⟨y682, hy682⟩ : ∃ y_ : List (List Int), y_ = (x13_1 ++ y679) := ⟨_, rfl⟩
                              replace H : (wogglelaw09_HatMore.l0 k2 t644 t645 t646 t649 y662 t665 t668 y682 (wrap64 (x14_1 + 1))) = some r := by first | (rw [hy682]; with_reducible exact H) | (have H2_ := (Option.bind_some _ _).symm.trans H; rw [hy682]; with_reducible exact H2_) | (have H2_ := (Option.bind_some _ _).symm.trans H; with_reducible exact H2_) | with_reducible exact H | (rw [hy682]; exact H) | exact H
                              have Ny682 := Aside0.mk hy682
                              clear hy682
                              have H' := Aside0.mk H
                              clear H
                              obtain ⟨Ao82, co82, eo82⟩ := Kd.N_slice HO_12.out
                              subst eo82
                              have p677 : 0 ≤ (x14_1 : Int) := of_decide_eq_true (by first | (with_reducible assumption) | assumption)
                              have q677 : x14_1 < (t668.length : Int) := of_decide_eq_true (by first | (with_reducible assumption) | assumption)
                              obtain ⟨ad677, A677_0, c677_0, e677, hx677_0, hl677_0, hi677_0⟩ := at_L2 (Kd.N_reads' HO_12.out).2.2 x14_1 p677 q677
                              cases e677
                              obtain ⟨ce677, hce677, hMe677, hcc677⟩ := Kd.N_get HO_12.out [] x14_1 p677 (by first | exact q677 | exact of_decide_eq_true (by first | (with_reducible assumption) | assumption) | (have e_ := (Kd.N_reads' HO_12.out).1; omega))
                              obtain ⟨ua677_0, uc677_0, rfl, ul677_0, ge677_0⟩ := Kd.FK_slice_open hMe677
                              have hv677_0 := hcc677 0 _ rfl
                              rw [Nat.add_zero, show ((Kd.slice 3 (Kd.int .i64))).sz = 1 from rfl, Nat.mul_one] at hv677_0
                              replace hv677_0 := Option.some.inj (hv677_0.symm.trans hx677_0)
                              injection hv677_0 with hva_ hvn_ hvc_
                              rw [hva_] at ge677_0
                              rw [hvc_] at ul677_0
                              have HL677_0 := Aside0.mk (show Kd.V (Kd.int .i64) 3 _ w.heap.size _ _ (rd_L2 t668 x14_1) from Kd.V_mk ul677_0 ge677_0)
                              clear hva_ hvn_ hvc_ ge677_0 ul677_0
                              clear hcc677 hce677
                              have HR677_0 := Aside0.mk hi677_0
                              have HC677_0 := Aside0.mk hl677_0
                              clear hi677_0 hl677_0
                              replace p677 := eq_true p677
                              replace q677 := eq_true q677
                              go_wp2_with (first | ((with_reducible refine gate_callee (f := 45) rfl ?_); refine goesL_ (some 79) rfl rfl Try.func45 (by kernel_rfl) rfl #[.int .i64 t645, .int .i64 ((rd_L2 t668 x14_1).length : Int)] rfl (by (try simp only [List.map_toArray, List.map_cons, List.map_nil]); first | done | rfl | (simp only [List.length_drop, List.length_take]; rfl)) ?_; (with_reducible refine (woggleref09_Power.calls k2 t645 ((rd_L2 t668 x14_1).length : Int) t678 _ A44.out).mono ?_); rintro e w' ⟨rfl, ⟨nd, rfl⟩⟩; refine ⟨_, rfl, ?_⟩; obtain ⟨Ao83, co83, eo83⟩ := Kd.R_slice HO_15.out; subst eo83) | ((with_reducible refine gate_dst (N := 146) rfl ?_); refine Kd.N_lit (Kd.slice 3 (Kd.int .i64)) _ 37 ?hg (N' := 146) ?hd (xs := ([x15_2] : List (List Int))) (inner := [.slice Ao83 x15_2.length co83]) (ok := (fun k_ => some k_ ≠ (.slice Ao24 t646.length co24 : Value).ownBlock ∧ some k_ ≠ (v650 : Value).ownBlock ∧ some k_ ≠ (.slice Ao35 y662.length co35 : Value).ownBlock ∧ some k_ ≠ (v666 : Value).ownBlock ∧ some k_ ≠ (.slice (some ad677) t668.length co82 : Value).ownBlock ∧ some k_ ≠ (u13 : Value).ownBlock ∧ k_ ≠ gb642 ∧ k_ ≠ gb643)) (okp := (fun k_ => some k_ ≠ (.slice Ao24 t646.length co24 : Value).ownBlock ∧ some k_ ≠ (v650 : Value).ownBlock ∧ some k_ ≠ (.slice Ao35 y662.length co35 : Value).ownBlock ∧ some k_ ≠ (v666 : Value).ownBlock ∧ some k_ ≠ (.slice (some ad677) t668.length co82 : Value).ownBlock ∧ some k_ ≠ (u13 : Value).ownBlock ∧ k_ ≠ gb642 ∧ k_ ≠ gb643)) ?hr ?hp (fun _ hk => hk) ((show ∀ k_, wr.heap.size ≤ k_ → (fun k_ => some k_ ≠ (.slice Ao24 t646.length co24 : Value).ownBlock ∧ some k_ ≠ (v650 : Value).ownBlock ∧ some k_ ≠ (.slice Ao35 y662.length co35 : Value).ownBlock ∧ some k_ ≠ (v666 : Value).ownBlock ∧ some k_ ≠ (.slice (some ad677) t668.length co82 : Value).ownBlock ∧ some k_ ≠ (u13 : Value).ownBlock ∧ k_ ≠ gb642 ∧ k_ ≠ gb643) k_ from fun k_ hk => ⟨Kd.fresh' (Kd.R_lt (by (with_reducible repeat (first | apply Kd.R_alloc | apply Kd.R_drewN | apply Kd.R_drew)); exact HO_7.out)) k_ hk, Kd.fresh' (Kd.N_lt (by (with_reducible repeat (first | apply Kd.N_alloc | apply Kd.N_drewN | apply Kd.N_drew)); exact HO_8.out)) k_ hk, Kd.fresh' (Kd.R_lt (by (with_reducible repeat (first | apply Kd.R_alloc | apply Kd.R_drewN | apply Kd.R_drew)); exact HO_10.out)) k_ hk, Kd.fresh' (Kd.N_lt (by (with_reducible repeat (first | apply Kd.N_alloc | apply Kd.N_drewN | apply Kd.N_drew)); exact HO_11.out)) k_ hk, Kd.fresh' (Kd.N_lt (by (with_reducible repeat (first | apply Kd.N_alloc | apply Kd.N_drewN | apply Kd.N_drew)); exact HO_12.out)) k_ hk, Kd.fresh' (Kd.N_lt (by (with_reducible repeat (first | apply Kd.N_alloc | apply Kd.N_drewN | apply Kd.N_drew)); exact HO_13.out)) k_ hk, Kd.freshB (g := gb642) (o := .cells #[.int .u8 a0_0, .int .u8 a0_1, .int .u8 a0_2, .slice A0_3 l0_3.length c0_3] 66 (0, 0)) (by (with_reducible repeat (first | refine blk_drewN ?_ _ | refine blk_drew ?_ | refine blk_alloc ?_ _)); exact BK642.out) k_ hk, Kd.freshB (g := gb643) (o := .cells #[.int .u8 a1_0, .int .u8 a1_1] 67 (0, 0)) (by (with_reducible repeat (first | refine blk_drewN ?_ _ | refine blk_drew ?_ | refine blk_alloc ?_ _)); exact BK643.out) k_ hk⟩) _ (Nat.le_refl _)) (Below.refl _ _) (Nat.le_refl _) (by simp) ?_; (case hd => rfl); (case hg => rfl); (case hr => first | (go_simp; done) | (go_simp; rfl)); (case hp => exact (Reps.one (show Kd.FK (Kd.slice 3 (Kd.int .i64)) _ _ x15_2 [.slice Ao83 x15_2.length co83] from (Kd.FK_slice_mk (Kd.R_reads' (Kd.R_mono (ok' := (fun k_ => some k_ ≠ (.slice Ao24 t646.length co24 : Value).ownBlock ∧ some k_ ≠ (v650 : Value).ownBlock ∧ some k_ ≠ (.slice Ao35 y662.length co35 : Value).ownBlock ∧ some k_ ≠ (v666 : Value).ownBlock ∧ some k_ ≠ (.slice (some ad677) t668.length co82 : Value).ownBlock ∧ some k_ ≠ (u13 : Value).ownBlock ∧ k_ ≠ gb642 ∧ k_ ≠ gb643)) (Kd.R_types (Kd.R_types (Kd.R_apart' (Kd.R_apart' (Kd.R_apart' (Kd.R_apart' (Kd.R_apart' (Kd.R_apart' (HO_15.out) (Kd.R_typed HO_7.out) (by decide)) (Kd.N_typed HO_8.out) (by decide)) (Kd.R_typed HO_10.out) (by decide)) (Kd.N_typed HO_11.out) (by decide)) (Kd.N_typed HO_12.out) (by decide)) (Kd.N_typed HO_13.out) (by decide)) BK642.out (by decide)) BK643.out (by decide)) (fun k_ hk => ⟨hk.1.1.1.1.1.1.1.2, ⟨hk.1.1.1.1.1.1.2, ⟨hk.1.1.1.1.1.2, ⟨hk.1.1.1.1.2, ⟨hk.1.1.1.2, ⟨hk.1.1.2, ⟨hk.1.2, hk.2⟩⟩⟩⟩⟩⟩⟩))).2.1 (Kd.R_F (Kd.R_mono (ok' := (fun k_ => some k_ ≠ (.slice Ao24 t646.length co24 : Value).ownBlock ∧ some k_ ≠ (v650 : Value).ownBlock ∧ some k_ ≠ (.slice Ao35 y662.length co35 : Value).ownBlock ∧ some k_ ≠ (v666 : Value).ownBlock ∧ some k_ ≠ (.slice (some ad677) t668.length co82 : Value).ownBlock ∧ some k_ ≠ (u13 : Value).ownBlock ∧ k_ ≠ gb642 ∧ k_ ≠ gb643)) (Kd.R_types (Kd.R_types (Kd.R_apart' (Kd.R_apart' (Kd.R_apart' (Kd.R_apart' (Kd.R_apart' (Kd.R_apart' (HO_15.out) (Kd.R_typed HO_7.out) (by decide)) (Kd.N_typed HO_8.out) (by decide)) (Kd.R_typed HO_10.out) (by decide)) (Kd.N_typed HO_11.out) (by decide)) (Kd.N_typed HO_12.out) (by decide)) (Kd.N_typed HO_13.out) (by decide)) BK642.out (by decide)) BK643.out (by decide)) (fun k_ hk => ⟨hk.1.1.1.1.1.1.1.2, ⟨hk.1.1.1.1.1.1.2, ⟨hk.1.1.1.1.1.2, ⟨hk.1.1.1.1.2, ⟨hk.1.1.1.2, ⟨hk.1.1.2, ⟨hk.1.2, hk.2⟩⟩⟩⟩⟩⟩⟩))))) (Reps.none _ _))); intro v680 w84 ho85 hb hg_ hnew_; clear hg_ hnew_; (first | rw [← Ny679.out] at ho85 | (simp only [Int.reduceToNat] at ho85; rw [← Ny679.out] at ho85)); have n0_ := Aside0.mk (Kd.R_below (by (with_reducible repeat (first | apply Kd.R_alloc | apply Kd.R_drewN | apply Kd.R_drew)); exact HO_7.out) hb); have n1_ := Aside0.mk (Kd.N_elder' (by (with_reducible repeat (first | apply Kd.N_alloc | apply Kd.N_drewN | apply Kd.N_drew)); exact HO_8.out) (Kd.N_base ho85) hb); have n2_ := Aside0.mk (Kd.R_below (by (with_reducible repeat (first | apply Kd.R_alloc | apply Kd.R_drewN | apply Kd.R_drew)); exact HO_10.out) hb); have n3_ := Aside0.mk (Kd.N_elder' (by (with_reducible repeat (first | apply Kd.N_alloc | apply Kd.N_drewN | apply Kd.N_drew)); exact HO_11.out) (Kd.N_base ho85) hb); have n4_ := Aside0.mk (Kd.N_elder' (by (with_reducible repeat (first | apply Kd.N_alloc | apply Kd.N_drewN | apply Kd.N_drew)); exact HO_12.out) (Kd.N_base ho85) hb); have n5_ := Aside0.mk (Kd.N_elder' (by (with_reducible repeat (first | apply Kd.N_alloc | apply Kd.N_drewN | apply Kd.N_drew)); exact HO_13.out) (Kd.N_base ho85) hb); have n6_ := Aside0.mk (Kd.V_elder' (by (with_reducible repeat (first | apply Kd.V_alloc | apply Kd.V_drewN | apply Kd.V_drew)); exact HL677_0.out) (Kd.N_base ho85) hb); have n7_ := Aside0.mk (Kd.N_lower ho85 (below_size (by repeat (first | (with_reducible first | exact HB.out | apply below_alloc | apply pw_below_drewN | apply below_drew1 | refine below_set ?_ GE642.out | refine below_set ?_ GE643.out) | exact HB.out)))); have n8_ := Aside0.mk (blk_below (g := gb642) (o := .cells #[.int .u8 a0_0, .int .u8 a0_1, .int .u8 a0_2, .slice A0_3 l0_3.length c0_3] 66 (0, 0)) (by (with_reducible repeat (first | refine blk_drewN ?_ _ | refine blk_drew ?_ | refine blk_alloc ?_ _)); exact BK642.out) hb); have n9_ := Aside0.mk (blk_below (g := gb643) (o := .cells #[.int .u8 a1_0, .int .u8 a1_1] 67 (0, 0)) (by (with_reducible repeat (first | refine blk_drewN ?_ _ | refine blk_drew ?_ | refine blk_alloc ?_ _)); exact BK643.out) hb); have n10_ := Aside0.mk (Kd.C_below (by first | (with_reducible exact HR677_0.out) | (with_reducible exact Kd.C_drewN HR677_0.out _) | exact Kd.C_drewN HR677_0.out _ | repeat (first | (with_reducible exact HR677_0.out) | (with_reducible refine Kd.C_alloc ?_ _) | (with_reducible refine Kd.C_drewN ?_ _) | (with_reducible refine Kd.C_drew ?_) | exact HR677_0.out)) hb); have n11_ := Aside0.mk (below_step (by repeat (first | (with_reducible first | exact HB.out | apply below_alloc | apply pw_below_drewN | apply below_drew1 | refine below_set ?_ GE642.out | refine below_set ?_ GE643.out) | exact HB.out)) hb); clear HO_7; clear HO_8; clear HO_10; clear HO_11; clear HO_12; clear HO_13; clear HL677_0; clear BK642; clear BK643; clear HR677_0; clear HB; clear HO_15; have HO_7 := n0_; have HO_8 := n1_; have HO_10 := n2_; have HO_11 := n3_; have HO_12 := n4_; have HO_13 := n5_; have HL677_0 := n6_; have HO681 := n7_; have BK642 := n8_; have BK643 := n9_; have HR677_0 := n10_; have HB := n11_; clear n0_ n1_ n2_ n3_ n4_ n5_ n6_ n7_ n8_ n9_ n10_ n11_; clear hb ho85; obtain ⟨Ao87, co87, eo87⟩ := Kd.N_slice HO681.out; subst eo87) | ((with_reducible refine gate_builtin (b := .append) (xs := #[.tmp 144, .tmp 146]) rfl ?_); at_builtin; refine Kd.N_append_rows (Kd.slice 3 (Kd.int .i64)) (w0 := w) w.heap.size rfl (.tmp 144) (.tmp 146) 27 37 (.slice none 0 0) 24 rfl Try.underlying27 info37 rfl (by decide) (by omega) u13 x13_1 y679 _ _ _ (fun k_ => some k_ ≠ (.slice Ao24 t646.length co24 : Value).ownBlock ∧ some k_ ≠ (v650 : Value).ownBlock ∧ some k_ ≠ (.slice Ao35 y662.length co35 : Value).ownBlock ∧ some k_ ≠ (v666 : Value).ownBlock ∧ some k_ ≠ (.slice (some ad677) t668.length co82 : Value).ownBlock ∧ k_ ≠ gb642 ∧ k_ ≠ gb643) (fun k_ => ((fun k_ => some k_ ≠ (.slice Ao24 t646.length co24 : Value).ownBlock ∧ some k_ ≠ (v650 : Value).ownBlock ∧ some k_ ≠ (.slice Ao35 y662.length co35 : Value).ownBlock ∧ some k_ ≠ (v666 : Value).ownBlock ∧ some k_ ≠ (.slice (some ad677) t668.length co82 : Value).ownBlock ∧ k_ ≠ gb642 ∧ k_ ≠ gb643)) k_ ∧ some k_ ≠ (u13 : Value).ownBlock) rfl rfl ?aO ?aR (fun _ hk => hk) ?aF ?aB ?aS ?aL ?_; (case aR => exact (by skip; exact Kd.N_F (Kd.N_mono (ok' := (fun k_ => ((fun k_ => some k_ ≠ (.slice Ao24 t646.length co24 : Value).ownBlock ∧ some k_ ≠ (v650 : Value).ownBlock ∧ some k_ ≠ (.slice Ao35 y662.length co35 : Value).ownBlock ∧ some k_ ≠ (v666 : Value).ownBlock ∧ some k_ ≠ (.slice (some ad677) t668.length co82 : Value).ownBlock ∧ k_ ≠ gb642 ∧ k_ ≠ gb643)) k_ ∧ some k_ ≠ (u13 : Value).ownBlock)) (HO681.out) (fun k_ hk => ⟨⟨hk.1, ⟨hk.2.1, ⟨hk.2.2.1, ⟨hk.2.2.2.1, ⟨hk.2.2.2.2.1, ⟨hk.2.2.2.2.2.2.1, hk.2.2.2.2.2.2.2⟩⟩⟩⟩⟩⟩, hk.2.2.2.2.2.1⟩)))); (case aB => exact (by repeat (first | (with_reducible first | exact HB.out | apply below_alloc | apply pw_below_drewN | apply below_drew1 | refine below_set ?_ GE642.out | refine below_set ?_ GE643.out) | exact HB.out))); (case aF => exact (fun k_ hk => ⟨Kd.fresh' (Kd.R_lt (by (with_reducible repeat (first | apply Kd.R_alloc | apply Kd.R_drewN | apply Kd.R_drew)); exact HO_7.out)) k_ hk, Kd.fresh' (Kd.N_lt (by (with_reducible repeat (first | apply Kd.N_alloc | apply Kd.N_drewN | apply Kd.N_drew)); exact HO_8.out)) k_ hk, Kd.fresh' (Kd.R_lt (by (with_reducible repeat (first | apply Kd.R_alloc | apply Kd.R_drewN | apply Kd.R_drew)); exact HO_10.out)) k_ hk, Kd.fresh' (Kd.N_lt (by (with_reducible repeat (first | apply Kd.N_alloc | apply Kd.N_drewN | apply Kd.N_drew)); exact HO_11.out)) k_ hk, Kd.fresh' (Kd.N_lt (by (with_reducible repeat (first | apply Kd.N_alloc | apply Kd.N_drewN | apply Kd.N_drew)); exact HO_12.out)) k_ hk, Kd.freshB (g := gb642) (o := .cells #[.int .u8 a0_0, .int .u8 a0_1, .int .u8 a0_2, .slice A0_3 l0_3.length c0_3] 66 (0, 0)) (by (with_reducible repeat (first | refine blk_drewN ?_ _ | refine blk_drew ?_ | refine blk_alloc ?_ _)); exact BK642.out) k_ hk, Kd.freshB (g := gb643) (o := .cells #[.int .u8 a1_0, .int .u8 a1_1] 67 (0, 0)) (by (with_reducible repeat (first | refine blk_drewN ?_ _ | refine blk_drew ?_ | refine blk_alloc ?_ _)); exact BK643.out) k_ hk⟩)); (case aO => exact (by (with_reducible repeat (first | apply Kd.N_alloc | apply Kd.N_drewN | apply Kd.N_drew)); exact Kd.N_mono HO_13.out (fun _ hk => ⟨hk.1.1, ⟨hk.1.2.1, ⟨hk.1.2.2.1, ⟨hk.1.2.2.2.1, ⟨hk.1.2.2.2.2.1, ⟨hk.1.2.2.2.2.2.2.1, hk.1.2.2.2.2.2.2.2⟩⟩⟩⟩⟩⟩))); (case aS => exact (below_size (by repeat (first | (with_reducible first | exact HB.out | apply below_alloc | apply pw_below_drewN | apply below_drew1 | refine below_set ?_ GE642.out | refine below_set ?_ GE643.out) | exact HB.out)))); (case aL => have := LMc81.out; omega); intro v683 w86 ho hb hg hat; rw [← Ny682.out] at ho; have n0_ := Aside0.mk (Kd.R_over' (by (with_reducible repeat (first | apply Kd.R_alloc | apply Kd.R_drewN | apply Kd.R_drew)); exact HO_7.out) (Kd.N_typed (by (with_reducible repeat (first | apply Kd.N_alloc | apply Kd.N_drewN | apply Kd.N_drew)); exact HO_13.out)) (by decide) hg); have n1_ := Aside0.mk (Kd.N_afterv (ok := (fun k_ => some k_ ≠ (.slice Ao24 t646.length co24 : Value).ownBlock ∧ some k_ ≠ (.slice Ao35 y662.length co35 : Value).ownBlock ∧ some k_ ≠ (v666 : Value).ownBlock ∧ some k_ ≠ (.slice (some ad677) t668.length co82 : Value).ownBlock ∧ some k_ ≠ (.slice Ao87 y679.length co87 : Value).ownBlock ∧ k_ ≠ gb642 ∧ k_ ≠ gb643)) (by (with_reducible repeat (first | apply Kd.N_alloc | apply Kd.N_drewN | apply Kd.N_drew)); exact Kd.N_mono HO_8.out (fun _ hk => ⟨⟨hk.1.1, ⟨hk.1.2.1, ⟨hk.1.2.2.1, ⟨hk.1.2.2.2.1, ⟨hk.2, ⟨hk.1.2.2.2.2.2.2.1, hk.1.2.2.2.2.2.2.2⟩⟩⟩⟩⟩⟩, hk.1.2.2.2.2.1⟩)) hg hat); have n2_ := Aside0.mk (Kd.R_over' (by (with_reducible repeat (first | apply Kd.R_alloc | apply Kd.R_drewN | apply Kd.R_drew)); exact HO_10.out) (Kd.N_typed (by (with_reducible repeat (first | apply Kd.N_alloc | apply Kd.N_drewN | apply Kd.N_drew)); exact HO_13.out)) (by decide) hg); have n3_ := Aside0.mk (Kd.N_afterv (ok := (fun k_ => some k_ ≠ (.slice Ao24 t646.length co24 : Value).ownBlock ∧ some k_ ≠ (v650 : Value).ownBlock ∧ some k_ ≠ (.slice Ao35 y662.length co35 : Value).ownBlock ∧ some k_ ≠ (.slice (some ad677) t668.length co82 : Value).ownBlock ∧ some k_ ≠ (.slice Ao87 y679.length co87 : Value).ownBlock ∧ k_ ≠ gb642 ∧ k_ ≠ gb643)) (by (with_reducible repeat (first | apply Kd.N_alloc | apply Kd.N_drewN | apply Kd.N_drew)); exact Kd.N_mono HO_11.out (fun _ hk => ⟨⟨hk.1.1, ⟨hk.1.2.1, ⟨hk.1.2.2.1, ⟨hk.1.2.2.2.1, ⟨hk.2, ⟨hk.1.2.2.2.2.2.2.1, hk.1.2.2.2.2.2.2.2⟩⟩⟩⟩⟩⟩, hk.1.2.2.2.2.1⟩)) hg hat); have n4_ := Aside0.mk (Kd.N_afterv (ok := (fun k_ => some k_ ≠ (.slice Ao24 t646.length co24 : Value).ownBlock ∧ some k_ ≠ (v650 : Value).ownBlock ∧ some k_ ≠ (.slice Ao35 y662.length co35 : Value).ownBlock ∧ some k_ ≠ (v666 : Value).ownBlock ∧ some k_ ≠ (.slice Ao87 y679.length co87 : Value).ownBlock ∧ k_ ≠ gb642 ∧ k_ ≠ gb643)) (by (with_reducible repeat (first | apply Kd.N_alloc | apply Kd.N_drewN | apply Kd.N_drew)); exact Kd.N_mono HO_12.out (fun _ hk => ⟨⟨hk.1.1, ⟨hk.1.2.1, ⟨hk.1.2.2.1, ⟨hk.1.2.2.2.1, ⟨hk.2, ⟨hk.1.2.2.2.2.2.2.1, hk.1.2.2.2.2.2.2.2⟩⟩⟩⟩⟩⟩, hk.1.2.2.2.2.1⟩)) hg hat); have n5_ := Aside0.mk (blk_grown (g := gb642) (o := .cells #[.int .u8 a0_0, .int .u8 a0_1, .int .u8 a0_2, .slice A0_3 l0_3.length c0_3] 66 (0, 0)) (by (with_reducible repeat (first | refine blk_drewN ?_ _ | refine blk_drew ?_ | refine blk_alloc ?_ _)); exact BK642.out) hg (Kd.N_ne HO_13.out BK642.out (by decide))); have n6_ := Aside0.mk (blk_grown (g := gb643) (o := .cells #[.int .u8 a1_0, .int .u8 a1_1] 67 (0, 0)) (by (with_reducible repeat (first | refine blk_drewN ?_ _ | refine blk_drew ?_ | refine blk_alloc ?_ _)); exact BK643.out) hg (Kd.N_ne HO_13.out BK643.out (by decide))); have n7_ := Aside0.mk (Kd.V_afterv (ok := (fun k_ => some k_ ≠ (.slice Ao24 t646.length co24 : Value).ownBlock ∧ some k_ ≠ (v650 : Value).ownBlock ∧ some k_ ≠ (.slice Ao35 y662.length co35 : Value).ownBlock ∧ some k_ ≠ (v666 : Value).ownBlock ∧ some k_ ≠ (.slice (some ad677) t668.length co82 : Value).ownBlock ∧ some k_ ≠ (.slice Ao87 y679.length co87 : Value).ownBlock ∧ k_ ≠ gb642 ∧ k_ ≠ gb643)) (by (with_reducible repeat (first | apply Kd.V_alloc | apply Kd.V_drewN | apply Kd.V_drew)); exact Kd.V_mono HL677_0.out (fun _ hk => ⟨⟨hk.1.1.1, ⟨hk.1.1.2.1, ⟨hk.1.1.2.2.1, ⟨hk.1.1.2.2.2.1, ⟨hk.1.2, ⟨hk.2, ⟨hk.1.1.2.2.2.2.2.2.1, hk.1.1.2.2.2.2.2.2.2⟩⟩⟩⟩⟩⟩⟩, hk.1.1.2.2.2.2.1⟩)) hg hat); have n8_ := Aside0.mk (Kd.N_afterv (ok := (fun k_ => some k_ ≠ (.slice Ao24 t646.length co24 : Value).ownBlock ∧ some k_ ≠ (v650 : Value).ownBlock ∧ some k_ ≠ (.slice Ao35 y662.length co35 : Value).ownBlock ∧ some k_ ≠ (v666 : Value).ownBlock ∧ some k_ ≠ (.slice (some ad677) t668.length co82 : Value).ownBlock ∧ k_ ≠ gb642 ∧ k_ ≠ gb643)) (by (with_reducible repeat (first | apply Kd.N_alloc | apply Kd.N_drewN | apply Kd.N_drew)); exact Kd.N_mono HO681.out (fun _ hk => ⟨⟨hk.1, ⟨hk.2.1, ⟨hk.2.2.1, ⟨hk.2.2.2.1, ⟨hk.2.2.2.2.1, ⟨hk.2.2.2.2.2.2.1, hk.2.2.2.2.2.2.2⟩⟩⟩⟩⟩⟩, hk.2.2.2.2.2.1⟩)) hg hat); have n9_ := Aside0.mk (hb); have n10_ := Aside0.mk (ho); clear HO_7; clear HO_8; clear HO_10; clear HO_11; clear HO_12; clear BK642; clear BK643; clear HL677_0; clear HO681; clear HB; clear HO_13; have HO_7 := n0_; have HO_8 := n1_; have HO_10 := n2_; have HO_11 := n3_; have HO_12 := n4_; have BK642 := n5_; have BK643 := n6_; have HL677_0 := n7_; have HO681 := n8_; have HB := n9_; have HO684 := n10_; clear n0_ n1_ n2_ n3_ n4_ n5_ n6_ n7_ n8_ n9_ n10_; clear ho hb hg hat))
                              go_roundg k2
                              case measure => have := HK1.out; have := HK2.out; omega
                              case rel => exact ⟨(y682), (wrap64 (x14_1 + 1)), (by first | rfl | (simp; done) | (simp [*]; done)), H', ⟨by have := HK1.out; have := HK2.out; omega⟩, ⟨by (with_reducible repeat (first | apply Kd.R_alloc | apply Kd.R_drewN | apply Kd.R_drew)); exact HO_7.out⟩, ⟨by (with_reducible repeat (first | apply Kd.N_alloc | apply Kd.N_drewN | apply Kd.N_drew)); exact Kd.N_mono HO_8.out (fun _ hk => ⟨hk.1.1, ⟨hk.1.2.1, ⟨hk.1.2.2.1, ⟨hk.1.2.2.2.1, ⟨hk.2, ⟨hk.1.2.2.2.2.2.1, hk.1.2.2.2.2.2.2⟩⟩⟩⟩⟩⟩)⟩, ⟨by (with_reducible repeat (first | apply Kd.R_alloc | apply Kd.R_drewN | apply Kd.R_drew)); exact HO_10.out⟩, ⟨by (with_reducible repeat (first | apply Kd.N_alloc | apply Kd.N_drewN | apply Kd.N_drew)); exact Kd.N_mono HO_11.out (fun _ hk => ⟨hk.1.1, ⟨hk.1.2.1, ⟨hk.1.2.2.1, ⟨hk.1.2.2.2.1, ⟨hk.2, ⟨hk.1.2.2.2.2.2.1, hk.1.2.2.2.2.2.2⟩⟩⟩⟩⟩⟩)⟩, ⟨by (with_reducible repeat (first | apply Kd.N_alloc | apply Kd.N_drewN | apply Kd.N_drew)); exact Kd.N_mono HO_12.out (fun _ hk => ⟨hk.1.1, ⟨hk.1.2.1, ⟨hk.1.2.2.1, ⟨hk.1.2.2.2.1, ⟨hk.2, ⟨hk.1.2.2.2.2.2.1, hk.1.2.2.2.2.2.2⟩⟩⟩⟩⟩⟩)⟩, ⟨by (with_reducible repeat (first | apply Kd.N_alloc | apply Kd.N_drewN | apply Kd.N_drew)); exact HO684.out⟩, ⟨by (with_reducible repeat (first | refine blk_drewN ?_ _ | refine blk_drew ?_ | refine blk_alloc ?_ _)); exact BK642.out⟩, ⟨by (with_reducible repeat (first | refine blk_drewN ?_ _ | refine blk_drew ?_ | refine blk_alloc ?_ _)); exact BK643.out⟩, ⟨by repeat (first | (with_reducible first | exact HB.out | apply below_alloc | apply pw_below_drewN | apply below_drew1 | refine below_set ?_ GE642.out | refine below_set ?_ GE643.out) | exact HB.out)⟩⟩
                            · rw [if_neg c81] at H
                              exact absurd H (by simp)
                        · rw [if_neg c43] at H
                          exact absurd H (by simp)
                      · rw [if_neg c42] at H
                        exact absurd H (by simp)
                · rw [if_neg c39] at H
                  have c39b0 : decide (x14_1 < t644) = false := decide_eq_false c39
                  clear c39
                  replace H := Option.bind_eq_some_iff.mp H
                  obtain ⟨⟨t704, t705⟩, A880, H⟩ := H
                  replace H : ((hat_Loses.f k1 t644 t645 y662 x13_1).bind fun bt708 => (if t705 = bt708.2 then ((woggleref01_Same.f k1 t704 bt708.1).bind fun t712 => (if t712 = true then (if t705 = 0 then ((wogglelaw09_lives.f k1).bind fun t713 => (some t713)) else (if t705 = 5 then ((wogglelaw09_lives.f k1).bind fun t714 => (some t714)) else (some false))) else (some false))) else (some false))) = some r := H
                  have A88 := Aside0.mk A880
                  clear A880
                  replace H := Option.bind_eq_some_iff.mp H
                  obtain ⟨⟨t708, t709⟩, A890, H⟩ := H
                  replace H : (if t705 = t709 then ((woggleref01_Same.f k1 t704 t708).bind fun t712 => (if t712 = true then (if t705 = 0 then ((wogglelaw09_lives.f k1).bind fun t713 => (some t713)) else (if t705 = 5 then ((wogglelaw09_lives.f k1).bind fun t714 => (some t714)) else (some false))) else (some false))) else (some false)) = some r := H
                  have A89 := Aside0.mk A890
                  clear A890
                  by_cases c90 : t705 = t709
                  · rw [if_pos c90] at H
                    have c90b0 : (t705 == t709) = true := beq_iff_eq.mpr c90
                    have c90b1 : (t705 != t709) = false := bne_eq_false_iff_eq.mpr c90
                    clear c90
                    replace H := Option.bind_eq_some_iff.mp H
                    obtain ⟨t712, A910, H⟩ := H
                    replace H : (if t712 = true then (if t705 = 0 then ((wogglelaw09_lives.f k1).bind fun t713 => (some t713)) else (if t705 = 5 then ((wogglelaw09_lives.f k1).bind fun t714 => (some t714)) else (some false))) else (some false)) = some r := H
                    have A91 := Aside0.mk A910
                    clear A910
                    by_cases c92 : t712 = true
                    · subst c92
                      have H1 : (if t705 = 0 then ((wogglelaw09_lives.f k1).bind fun t713 => (some t713)) else (if t705 = 5 then ((wogglelaw09_lives.f k1).bind fun t714 => (some t714)) else (some false))) = some r := by rw [if_pos rfl] at H; exact H
                      clear H
                      have H := H1
                      clear H1
                      by_cases c93 : t705 = 0
                      · rw [if_pos c93] at H
                        have c93b0 : (t705 == 0) = true := beq_iff_eq.mpr c93
                        have c93b1 : (t705 != 0) = false := bne_eq_false_iff_eq.mpr c93
                        clear c93
                        replace H := Option.bind_eq_some_iff.mp H
                        obtain ⟨t713, A940, H⟩ := H
                        replace H : (some t713) = some r := H
                        have A94 := Aside0.mk A940
                        clear A940
                        obtain rfl := Option.some.inj H
                        obtain ⟨Ao95, co95, eo95⟩ := Kd.N_slice HO_8.out
                        subst eo95
                        go_wp2_with (first | ((with_reducible refine gate_callee (f := 43) rfl ?_); refine goesL_ (some 153) rfl rfl Try.func43 (by kernel_rfl) rfl #[.int .i64 t644, .int .i64 t645, .slice Ao24 t646.length co24, .slice Ao95 t649.length co95] rfl (by (try simp only [List.map_toArray, List.map_cons, List.map_nil]); first | done | rfl | (simp only [List.length_drop, List.length_take]; rfl)) ?_; (with_reducible refine (hat_Loses.calls k1 t644 t645 _ _ t646 _ _ t649 t704 t705 _ ?side1 ?side2 ?side3 ?side4 A88.out).mono ?_); (case side1 => repeat (first | exact (Kd.R_reads' HO_7.out).2.2 | (with_reducible refine Kd.C_alloc ?_ _) | (with_reducible refine Kd.C_drewN ?_ _) | (with_reducible refine Kd.C_drew ?_))); (case side2 => exact (Kd.R_reads' HO_7.out).2.1); (case side3 => repeat (first | exact (Kd.N_reads' HO_8.out).2.2 | (with_reducible refine Kd.C_alloc ?_ _) | (with_reducible refine Kd.C_drewN ?_ _) | (with_reducible refine Kd.C_drew ?_))); (case side4 => exact (Kd.N_reads' HO_8.out).2.1); rintro e w96 ⟨v706, rfl, ho0, hb⟩; refine ⟨_, rfl, ?_⟩; have n0_ := Aside0.mk (Kd.R_below (by (with_reducible repeat (first | apply Kd.R_alloc | apply Kd.R_drewN | apply Kd.R_drew)); exact HO_7.out) hb); have n1_ := Aside0.mk (Kd.N_elder' (by (with_reducible repeat (first | apply Kd.N_alloc | apply Kd.N_drewN | apply Kd.N_drew)); exact HO_8.out) (Kd.R_base ho0) hb); have n2_ := Aside0.mk (Kd.R_below (by (with_reducible repeat (first | apply Kd.R_alloc | apply Kd.R_drewN | apply Kd.R_drew)); exact HO_10.out) hb); have n3_ := Aside0.mk (Kd.N_elder' (by (with_reducible repeat (first | apply Kd.N_alloc | apply Kd.N_drewN | apply Kd.N_drew)); exact HO_11.out) (Kd.R_base ho0) hb); have n4_ := Aside0.mk (Kd.N_elder' (by (with_reducible repeat (first | apply Kd.N_alloc | apply Kd.N_drewN | apply Kd.N_drew)); exact HO_12.out) (Kd.R_base ho0) hb); have n5_ := Aside0.mk (Kd.N_elder' (by (with_reducible repeat (first | apply Kd.N_alloc | apply Kd.N_drewN | apply Kd.N_drew)); exact HO_13.out) (Kd.R_base ho0) hb); have n6_ := Aside0.mk (Kd.R_lower ho0 (below_size (by repeat (first | (with_reducible first | exact HB.out | apply below_alloc | apply pw_below_drewN | apply below_drew1 | refine below_set ?_ GE642.out | refine below_set ?_ GE643.out) | exact HB.out)))); have n7_ := Aside0.mk (blk_below (g := gb642) (o := .cells #[.int .u8 a0_0, .int .u8 a0_1, .int .u8 a0_2, .slice A0_3 l0_3.length c0_3] 66 (0, 0)) (by (with_reducible repeat (first | refine blk_drewN ?_ _ | refine blk_drew ?_ | refine blk_alloc ?_ _)); exact BK642.out) hb); have n8_ := Aside0.mk (blk_below (g := gb643) (o := .cells #[.int .u8 a1_0, .int .u8 a1_1] 67 (0, 0)) (by (with_reducible repeat (first | refine blk_drewN ?_ _ | refine blk_drew ?_ | refine blk_alloc ?_ _)); exact BK643.out) hb); have n9_ := Aside0.mk (below_step (by repeat (first | (with_reducible first | exact HB.out | apply below_alloc | apply pw_below_drewN | apply below_drew1 | refine below_set ?_ GE642.out | refine below_set ?_ GE643.out) | exact HB.out)) hb); clear HO_7; clear HO_8; clear HO_10; clear HO_11; clear HO_12; clear HO_13; clear BK642; clear BK643; clear HB; have HO_7 := n0_; have HO_8 := n1_; have HO_10 := n2_; have HO_11 := n3_; have HO_12 := n4_; have HO_13 := n5_; have HO707 := n6_; have BK642 := n7_; have BK643 := n8_; have HB := n9_; clear n0_ n1_ n2_ n3_ n4_ n5_ n6_ n7_ n8_ n9_; (try clear hb); (try clear hb2); (try clear hk); (try clear hi); (try clear ho0); obtain ⟨Ao97, co97, eo97⟩ := Kd.N_slice HO_13.out; subst eo97) | ((with_reducible refine gate_callee (f := 43) rfl ?_); refine goesL_ (some 161) rfl rfl Try.func43 (by kernel_rfl) rfl #[.int .i64 t644, .int .i64 t645, .slice Ao35 y662.length co35, .slice Ao97 x13_1.length co97] rfl (by (try simp only [List.map_toArray, List.map_cons, List.map_nil]); first | done | rfl | (simp only [List.length_drop, List.length_take]; rfl)) ?_; (with_reducible refine (hat_Loses.calls k1 t644 t645 _ _ y662 _ _ x13_1 t708 t709 _ ?side1 ?side2 ?side3 ?side4 A89.out).mono ?_); (case side1 => repeat (first | exact (Kd.R_reads' HO_10.out).2.2 | (with_reducible refine Kd.C_alloc ?_ _) | (with_reducible refine Kd.C_drewN ?_ _) | (with_reducible refine Kd.C_drew ?_))); (case side2 => exact (Kd.R_reads' HO_10.out).2.1); (case side3 => repeat (first | exact (Kd.N_reads' HO_13.out).2.2 | (with_reducible refine Kd.C_alloc ?_ _) | (with_reducible refine Kd.C_drewN ?_ _) | (with_reducible refine Kd.C_drew ?_))); (case side4 => exact (Kd.N_reads' HO_13.out).2.1); rintro e w98 ⟨v710, rfl, ho0, hb⟩; refine ⟨_, rfl, ?_⟩; have n0_ := Aside0.mk (Kd.R_below (by (with_reducible repeat (first | apply Kd.R_alloc | apply Kd.R_drewN | apply Kd.R_drew)); exact HO_7.out) hb); have n1_ := Aside0.mk (Kd.N_elder' (by (with_reducible repeat (first | apply Kd.N_alloc | apply Kd.N_drewN | apply Kd.N_drew)); exact HO_8.out) (Kd.R_base ho0) hb); have n2_ := Aside0.mk (Kd.R_below (by (with_reducible repeat (first | apply Kd.R_alloc | apply Kd.R_drewN | apply Kd.R_drew)); exact HO_10.out) hb); have n3_ := Aside0.mk (Kd.N_elder' (by (with_reducible repeat (first | apply Kd.N_alloc | apply Kd.N_drewN | apply Kd.N_drew)); exact HO_11.out) (Kd.R_base ho0) hb); have n4_ := Aside0.mk (Kd.N_elder' (by (with_reducible repeat (first | apply Kd.N_alloc | apply Kd.N_drewN | apply Kd.N_drew)); exact HO_12.out) (Kd.R_base ho0) hb); have n5_ := Aside0.mk (Kd.N_elder' (by (with_reducible repeat (first | apply Kd.N_alloc | apply Kd.N_drewN | apply Kd.N_drew)); exact HO_13.out) (Kd.R_base ho0) hb); have n6_ := Aside0.mk (Kd.R_elder' (by (with_reducible repeat (first | apply Kd.R_alloc | apply Kd.R_drewN | apply Kd.R_drew)); exact HO707.out) (Kd.R_base ho0) hb); have n7_ := Aside0.mk (Kd.R_lower (Kd.R_new' ho0 (Kd.R_lt (by (with_reducible repeat (first | apply Kd.R_alloc | apply Kd.R_drewN | apply Kd.R_drew)); exact HO707.out))) (below_size (by repeat (first | (with_reducible first | exact HB.out | apply below_alloc | apply pw_below_drewN | apply below_drew1 | refine below_set ?_ GE642.out | refine below_set ?_ GE643.out) | exact HB.out)))); have n8_ := Aside0.mk (blk_below (g := gb642) (o := .cells #[.int .u8 a0_0, .int .u8 a0_1, .int .u8 a0_2, .slice A0_3 l0_3.length c0_3] 66 (0, 0)) (by (with_reducible repeat (first | refine blk_drewN ?_ _ | refine blk_drew ?_ | refine blk_alloc ?_ _)); exact BK642.out) hb); have n9_ := Aside0.mk (blk_below (g := gb643) (o := .cells #[.int .u8 a1_0, .int .u8 a1_1] 67 (0, 0)) (by (with_reducible repeat (first | refine blk_drewN ?_ _ | refine blk_drew ?_ | refine blk_alloc ?_ _)); exact BK643.out) hb); have n10_ := Aside0.mk (below_step (by repeat (first | (with_reducible first | exact HB.out | apply below_alloc | apply pw_below_drewN | apply below_drew1 | refine below_set ?_ GE642.out | refine below_set ?_ GE643.out) | exact HB.out)) hb); clear HO_7; clear HO_8; clear HO_10; clear HO_11; clear HO_12; clear HO_13; clear HO707; clear BK642; clear BK643; clear HB; have HO_7 := n0_; have HO_8 := n1_; have HO_10 := n2_; have HO_11 := n3_; have HO_12 := n4_; have HO_13 := n5_; have HO707 := n6_; have HO711 := n7_; have BK642 := n8_; have BK643 := n9_; have HB := n10_; clear n0_ n1_ n2_ n3_ n4_ n5_ n6_ n7_ n8_ n9_ n10_; (try clear hb); (try clear hb2); (try clear hk); (try clear hi); (try clear ho0); obtain ⟨Ao99, co99, eo99⟩ := Kd.R_slice HO707.out; subst eo99; obtain ⟨Ao100, co100, eo100⟩ := Kd.R_slice HO711.out; subst eo100) | (go_at_call 28; (with_reducible refine (woggleref01_Same.calls k1 _ _ t704 _ _ t708 true _ ?side1 ?side2 ?side3 ?side4 A91.out).mono ?_); (case side1 => repeat (first | exact (Kd.R_reads' HO707.out).2.2 | (with_reducible refine Kd.C_alloc ?_ _) | (with_reducible refine Kd.C_drewN ?_ _) | (with_reducible refine Kd.C_drew ?_))); (case side2 => exact (Kd.R_reads' HO707.out).2.1); (case side3 => repeat (first | exact (Kd.R_reads' HO711.out).2.2 | (with_reducible refine Kd.C_alloc ?_ _) | (with_reducible refine Kd.C_drewN ?_ _) | (with_reducible refine Kd.C_drew ?_))); (case side4 => exact (Kd.R_reads' HO711.out).2.1); rintro e w' ⟨rfl, ⟨nd, rfl⟩⟩) | (go_at_call 20; (with_reducible refine (wogglelaw09_lives.calls k1  t713 _ A94.out).mono ?_); rintro e w101 ⟨rfl, hb⟩; have n0_ := Aside0.mk (Kd.R_below (by (with_reducible repeat (first | apply Kd.R_alloc | apply Kd.R_drewN | apply Kd.R_drew)); exact HO_7.out) hb); have n1_ := Aside0.mk (Kd.N_below (by (with_reducible repeat (first | apply Kd.N_alloc | apply Kd.N_drewN | apply Kd.N_drew)); exact HO_8.out) hb); have n2_ := Aside0.mk (Kd.R_below (by (with_reducible repeat (first | apply Kd.R_alloc | apply Kd.R_drewN | apply Kd.R_drew)); exact HO_10.out) hb); have n3_ := Aside0.mk (Kd.N_below (by (with_reducible repeat (first | apply Kd.N_alloc | apply Kd.N_drewN | apply Kd.N_drew)); exact HO_11.out) hb); have n4_ := Aside0.mk (Kd.N_below (by (with_reducible repeat (first | apply Kd.N_alloc | apply Kd.N_drewN | apply Kd.N_drew)); exact HO_12.out) hb); have n5_ := Aside0.mk (Kd.N_below (by (with_reducible repeat (first | apply Kd.N_alloc | apply Kd.N_drewN | apply Kd.N_drew)); exact HO_13.out) hb); have n6_ := Aside0.mk (Kd.R_below (by (with_reducible repeat (first | apply Kd.R_alloc | apply Kd.R_drewN | apply Kd.R_drew)); exact HO707.out) hb); have n7_ := Aside0.mk (Kd.R_below (by (with_reducible repeat (first | apply Kd.R_alloc | apply Kd.R_drewN | apply Kd.R_drew)); exact HO711.out) hb); have n8_ := Aside0.mk (blk_below (g := gb642) (o := .cells #[.int .u8 a0_0, .int .u8 a0_1, .int .u8 a0_2, .slice A0_3 l0_3.length c0_3] 66 (0, 0)) (by (with_reducible repeat (first | refine blk_drewN ?_ _ | refine blk_drew ?_ | refine blk_alloc ?_ _)); exact BK642.out) hb); have n9_ := Aside0.mk (blk_below (g := gb643) (o := .cells #[.int .u8 a1_0, .int .u8 a1_1] 67 (0, 0)) (by (with_reducible repeat (first | refine blk_drewN ?_ _ | refine blk_drew ?_ | refine blk_alloc ?_ _)); exact BK643.out) hb); have n10_ := Aside0.mk (below_step (by repeat (first | (with_reducible first | exact HB.out | apply below_alloc | apply pw_below_drewN | apply below_drew1 | refine below_set ?_ GE642.out | refine below_set ?_ GE643.out) | exact HB.out)) hb); clear HO_7; clear HO_8; clear HO_10; clear HO_11; clear HO_12; clear HO_13; clear HO707; clear HO711; clear BK642; clear BK643; clear HB; have HO_7 := n0_; have HO_8 := n1_; have HO_10 := n2_; have HO_11 := n3_; have HO_12 := n4_; have HO_13 := n5_; have HO707 := n6_; have HO711 := n7_; have BK642 := n8_; have BK643 := n9_; have HB := n10_; clear n0_ n1_ n2_ n3_ n4_ n5_ n6_ n7_ n8_ n9_ n10_; (try clear hb); (try clear hb2); (try clear hk); (try clear hi)))
                        go_ret
                        exact ⟨by first | rfl | (simp [errW_none, errW_some] <;> rfl) | (simp [*, errW_none, errW_some] <;> rfl), by repeat (first | (with_reducible first | exact HB.out | apply below_alloc | apply pw_below_drewN | apply below_drew1 | refine below_set ?_ GE642.out | refine below_set ?_ GE643.out) | exact HB.out)⟩
                      · rw [if_neg c93] at H
                        have c93b0 : (t705 == 0) = false := beq_eq_false_iff_ne.mpr c93
                        have c93b1 : (t705 != 0) = true := bne_iff_ne.mpr c93
                        by_cases c102 : t705 = 5
                        · rw [if_pos c102] at H
                          have c102b0 : (t705 == 5) = true := beq_iff_eq.mpr c102
                          have c102b1 : (t705 != 5) = false := bne_eq_false_iff_eq.mpr c102
                          clear c102
                          replace H := Option.bind_eq_some_iff.mp H
                          obtain ⟨t714, A1030, H⟩ := H
                          replace H : (some t714) = some r := H
                          have A103 := Aside0.mk A1030
                          clear A1030
                          obtain rfl := Option.some.inj H
                          obtain ⟨Ao104, co104, eo104⟩ := Kd.N_slice HO_8.out
                          subst eo104
                          go_wp2_with (first | ((with_reducible refine gate_callee (f := 43) rfl ?_); refine goesL_ (some 153) rfl rfl Try.func43 (by kernel_rfl) rfl #[.int .i64 t644, .int .i64 t645, .slice Ao24 t646.length co24, .slice Ao104 t649.length co104] rfl (by (try simp only [List.map_toArray, List.map_cons, List.map_nil]); first | done | rfl | (simp only [List.length_drop, List.length_take]; rfl)) ?_; (with_reducible refine (hat_Loses.calls k1 t644 t645 _ _ t646 _ _ t649 t704 t705 _ ?side1 ?side2 ?side3 ?side4 A88.out).mono ?_); (case side1 => repeat (first | exact (Kd.R_reads' HO_7.out).2.2 | (with_reducible refine Kd.C_alloc ?_ _) | (with_reducible refine Kd.C_drewN ?_ _) | (with_reducible refine Kd.C_drew ?_))); (case side2 => exact (Kd.R_reads' HO_7.out).2.1); (case side3 => repeat (first | exact (Kd.N_reads' HO_8.out).2.2 | (with_reducible refine Kd.C_alloc ?_ _) | (with_reducible refine Kd.C_drewN ?_ _) | (with_reducible refine Kd.C_drew ?_))); (case side4 => exact (Kd.N_reads' HO_8.out).2.1); rintro e w105 ⟨v706, rfl, ho0, hb⟩; refine ⟨_, rfl, ?_⟩; have n0_ := Aside0.mk (Kd.R_below (by (with_reducible repeat (first | apply Kd.R_alloc | apply Kd.R_drewN | apply Kd.R_drew)); exact HO_7.out) hb); have n1_ := Aside0.mk (Kd.N_elder' (by (with_reducible repeat (first | apply Kd.N_alloc | apply Kd.N_drewN | apply Kd.N_drew)); exact HO_8.out) (Kd.R_base ho0) hb); have n2_ := Aside0.mk (Kd.R_below (by (with_reducible repeat (first | apply Kd.R_alloc | apply Kd.R_drewN | apply Kd.R_drew)); exact HO_10.out) hb); have n3_ := Aside0.mk (Kd.N_elder' (by (with_reducible repeat (first | apply Kd.N_alloc | apply Kd.N_drewN | apply Kd.N_drew)); exact HO_11.out) (Kd.R_base ho0) hb); have n4_ := Aside0.mk (Kd.N_elder' (by (with_reducible repeat (first | apply Kd.N_alloc | apply Kd.N_drewN | apply Kd.N_drew)); exact HO_12.out) (Kd.R_base ho0) hb); have n5_ := Aside0.mk (Kd.N_elder' (by (with_reducible repeat (first | apply Kd.N_alloc | apply Kd.N_drewN | apply Kd.N_drew)); exact HO_13.out) (Kd.R_base ho0) hb); have n6_ := Aside0.mk (Kd.R_lower ho0 (below_size (by repeat (first | (with_reducible first | exact HB.out | apply below_alloc | apply pw_below_drewN | apply below_drew1 | refine below_set ?_ GE642.out | refine below_set ?_ GE643.out) | exact HB.out)))); have n7_ := Aside0.mk (blk_below (g := gb642) (o := .cells #[.int .u8 a0_0, .int .u8 a0_1, .int .u8 a0_2, .slice A0_3 l0_3.length c0_3] 66 (0, 0)) (by (with_reducible repeat (first | refine blk_drewN ?_ _ | refine blk_drew ?_ | refine blk_alloc ?_ _)); exact BK642.out) hb); have n8_ := Aside0.mk (blk_below (g := gb643) (o := .cells #[.int .u8 a1_0, .int .u8 a1_1] 67 (0, 0)) (by (with_reducible repeat (first | refine blk_drewN ?_ _ | refine blk_drew ?_ | refine blk_alloc ?_ _)); exact BK643.out) hb); have n9_ := Aside0.mk (below_step (by repeat (first | (with_reducible first | exact HB.out | apply below_alloc | apply pw_below_drewN | apply below_drew1 | refine below_set ?_ GE642.out | refine below_set ?_ GE643.out) | exact HB.out)) hb); clear HO_7; clear HO_8; clear HO_10; clear HO_11; clear HO_12; clear HO_13; clear BK642; clear BK643; clear HB; have HO_7 := n0_; have HO_8 := n1_; have HO_10 := n2_; have HO_11 := n3_; have HO_12 := n4_; have HO_13 := n5_; have HO707 := n6_; have BK642 := n7_; have BK643 := n8_; have HB := n9_; clear n0_ n1_ n2_ n3_ n4_ n5_ n6_ n7_ n8_ n9_; (try clear hb); (try clear hb2); (try clear hk); (try clear hi); (try clear ho0); obtain ⟨Ao106, co106, eo106⟩ := Kd.N_slice HO_13.out; subst eo106) | ((with_reducible refine gate_callee (f := 43) rfl ?_); refine goesL_ (some 161) rfl rfl Try.func43 (by kernel_rfl) rfl #[.int .i64 t644, .int .i64 t645, .slice Ao35 y662.length co35, .slice Ao106 x13_1.length co106] rfl (by (try simp only [List.map_toArray, List.map_cons, List.map_nil]); first | done | rfl | (simp only [List.length_drop, List.length_take]; rfl)) ?_; (with_reducible refine (hat_Loses.calls k1 t644 t645 _ _ y662 _ _ x13_1 t708 t709 _ ?side1 ?side2 ?side3 ?side4 A89.out).mono ?_); (case side1 => repeat (first | exact (Kd.R_reads' HO_10.out).2.2 | (with_reducible refine Kd.C_alloc ?_ _) | (with_reducible refine Kd.C_drewN ?_ _) | (with_reducible refine Kd.C_drew ?_))); (case side2 => exact (Kd.R_reads' HO_10.out).2.1); (case side3 => repeat (first | exact (Kd.N_reads' HO_13.out).2.2 | (with_reducible refine Kd.C_alloc ?_ _) | (with_reducible refine Kd.C_drewN ?_ _) | (with_reducible refine Kd.C_drew ?_))); (case side4 => exact (Kd.N_reads' HO_13.out).2.1); rintro e w107 ⟨v710, rfl, ho0, hb⟩; refine ⟨_, rfl, ?_⟩; have n0_ := Aside0.mk (Kd.R_below (by (with_reducible repeat (first | apply Kd.R_alloc | apply Kd.R_drewN | apply Kd.R_drew)); exact HO_7.out) hb); have n1_ := Aside0.mk (Kd.N_elder' (by (with_reducible repeat (first | apply Kd.N_alloc | apply Kd.N_drewN | apply Kd.N_drew)); exact HO_8.out) (Kd.R_base ho0) hb); have n2_ := Aside0.mk (Kd.R_below (by (with_reducible repeat (first | apply Kd.R_alloc | apply Kd.R_drewN | apply Kd.R_drew)); exact HO_10.out) hb); have n3_ := Aside0.mk (Kd.N_elder' (by (with_reducible repeat (first | apply Kd.N_alloc | apply Kd.N_drewN | apply Kd.N_drew)); exact HO_11.out) (Kd.R_base ho0) hb); have n4_ := Aside0.mk (Kd.N_elder' (by (with_reducible repeat (first | apply Kd.N_alloc | apply Kd.N_drewN | apply Kd.N_drew)); exact HO_12.out) (Kd.R_base ho0) hb); have n5_ := Aside0.mk (Kd.N_elder' (by (with_reducible repeat (first | apply Kd.N_alloc | apply Kd.N_drewN | apply Kd.N_drew)); exact HO_13.out) (Kd.R_base ho0) hb); have n6_ := Aside0.mk (Kd.R_elder' (by (with_reducible repeat (first | apply Kd.R_alloc | apply Kd.R_drewN | apply Kd.R_drew)); exact HO707.out) (Kd.R_base ho0) hb); have n7_ := Aside0.mk (Kd.R_lower (Kd.R_new' ho0 (Kd.R_lt (by (with_reducible repeat (first | apply Kd.R_alloc | apply Kd.R_drewN | apply Kd.R_drew)); exact HO707.out))) (below_size (by repeat (first | (with_reducible first | exact HB.out | apply below_alloc | apply pw_below_drewN | apply below_drew1 | refine below_set ?_ GE642.out | refine below_set ?_ GE643.out) | exact HB.out)))); have n8_ := Aside0.mk (blk_below (g := gb642) (o := .cells #[.int .u8 a0_0, .int .u8 a0_1, .int .u8 a0_2, .slice A0_3 l0_3.length c0_3] 66 (0, 0)) (by (with_reducible repeat (first | refine blk_drewN ?_ _ | refine blk_drew ?_ | refine blk_alloc ?_ _)); exact BK642.out) hb); have n9_ := Aside0.mk (blk_below (g := gb643) (o := .cells #[.int .u8 a1_0, .int .u8 a1_1] 67 (0, 0)) (by (with_reducible repeat (first | refine blk_drewN ?_ _ | refine blk_drew ?_ | refine blk_alloc ?_ _)); exact BK643.out) hb); have n10_ := Aside0.mk (below_step (by repeat (first | (with_reducible first | exact HB.out | apply below_alloc | apply pw_below_drewN | apply below_drew1 | refine below_set ?_ GE642.out | refine below_set ?_ GE643.out) | exact HB.out)) hb); clear HO_7; clear HO_8; clear HO_10; clear HO_11; clear HO_12; clear HO_13; clear HO707; clear BK642; clear BK643; clear HB; have HO_7 := n0_; have HO_8 := n1_; have HO_10 := n2_; have HO_11 := n3_; have HO_12 := n4_; have HO_13 := n5_; have HO707 := n6_; have HO711 := n7_; have BK642 := n8_; have BK643 := n9_; have HB := n10_; clear n0_ n1_ n2_ n3_ n4_ n5_ n6_ n7_ n8_ n9_ n10_; (try clear hb); (try clear hb2); (try clear hk); (try clear hi); (try clear ho0); obtain ⟨Ao108, co108, eo108⟩ := Kd.R_slice HO707.out; subst eo108; obtain ⟨Ao109, co109, eo109⟩ := Kd.R_slice HO711.out; subst eo109) | (go_at_call 28; (with_reducible refine (woggleref01_Same.calls k1 _ _ t704 _ _ t708 true _ ?side1 ?side2 ?side3 ?side4 A91.out).mono ?_); (case side1 => repeat (first | exact (Kd.R_reads' HO707.out).2.2 | (with_reducible refine Kd.C_alloc ?_ _) | (with_reducible refine Kd.C_drewN ?_ _) | (with_reducible refine Kd.C_drew ?_))); (case side2 => exact (Kd.R_reads' HO707.out).2.1); (case side3 => repeat (first | exact (Kd.R_reads' HO711.out).2.2 | (with_reducible refine Kd.C_alloc ?_ _) | (with_reducible refine Kd.C_drewN ?_ _) | (with_reducible refine Kd.C_drew ?_))); (case side4 => exact (Kd.R_reads' HO711.out).2.1); rintro e w' ⟨rfl, ⟨nd, rfl⟩⟩) | (go_at_call 20; (with_reducible refine (wogglelaw09_lives.calls k1  t714 _ A103.out).mono ?_); rintro e w110 ⟨rfl, hb⟩; have n0_ := Aside0.mk (Kd.R_below (by (with_reducible repeat (first | apply Kd.R_alloc | apply Kd.R_drewN | apply Kd.R_drew)); exact HO_7.out) hb); have n1_ := Aside0.mk (Kd.N_below (by (with_reducible repeat (first | apply Kd.N_alloc | apply Kd.N_drewN | apply Kd.N_drew)); exact HO_8.out) hb); have n2_ := Aside0.mk (Kd.R_below (by (with_reducible repeat (first | apply Kd.R_alloc | apply Kd.R_drewN | apply Kd.R_drew)); exact HO_10.out) hb); have n3_ := Aside0.mk (Kd.N_below (by (with_reducible repeat (first | apply Kd.N_alloc | apply Kd.N_drewN | apply Kd.N_drew)); exact HO_11.out) hb); have n4_ := Aside0.mk (Kd.N_below (by (with_reducible repeat (first | apply Kd.N_alloc | apply Kd.N_drewN | apply Kd.N_drew)); exact HO_12.out) hb); have n5_ := Aside0.mk (Kd.N_below (by (with_reducible repeat (first | apply Kd.N_alloc | apply Kd.N_drewN | apply Kd.N_drew)); exact HO_13.out) hb); have n6_ := Aside0.mk (Kd.R_below (by (with_reducible repeat (first | apply Kd.R_alloc | apply Kd.R_drewN | apply Kd.R_drew)); exact HO707.out) hb); have n7_ := Aside0.mk (Kd.R_below (by (with_reducible repeat (first | apply Kd.R_alloc | apply Kd.R_drewN | apply Kd.R_drew)); exact HO711.out) hb); have n8_ := Aside0.mk (blk_below (g := gb642) (o := .cells #[.int .u8 a0_0, .int .u8 a0_1, .int .u8 a0_2, .slice A0_3 l0_3.length c0_3] 66 (0, 0)) (by (with_reducible repeat (first | refine blk_drewN ?_ _ | refine blk_drew ?_ | refine blk_alloc ?_ _)); exact BK642.out) hb); have n9_ := Aside0.mk (blk_below (g := gb643) (o := .cells #[.int .u8 a1_0, .int .u8 a1_1] 67 (0, 0)) (by (with_reducible repeat (first | refine blk_drewN ?_ _ | refine blk_drew ?_ | refine blk_alloc ?_ _)); exact BK643.out) hb); have n10_ := Aside0.mk (below_step (by repeat (first | (with_reducible first | exact HB.out | apply below_alloc | apply pw_below_drewN | apply below_drew1 | refine below_set ?_ GE642.out | refine below_set ?_ GE643.out) | exact HB.out)) hb); clear HO_7; clear HO_8; clear HO_10; clear HO_11; clear HO_12; clear HO_13; clear HO707; clear HO711; clear BK642; clear BK643; clear HB; have HO_7 := n0_; have HO_8 := n1_; have HO_10 := n2_; have HO_11 := n3_; have HO_12 := n4_; have HO_13 := n5_; have HO707 := n6_; have HO711 := n7_; have BK642 := n8_; have BK643 := n9_; have HB := n10_; clear n0_ n1_ n2_ n3_ n4_ n5_ n6_ n7_ n8_ n9_ n10_; (try clear hb); (try clear hb2); (try clear hk); (try clear hi)))
                          go_ret
                          exact ⟨by first | rfl | (simp [errW_none, errW_some] <;> rfl) | (simp [*, errW_none, errW_some] <;> rfl), by repeat (first | (with_reducible first | exact HB.out | apply below_alloc | apply pw_below_drewN | apply below_drew1 | refine below_set ?_ GE642.out | refine below_set ?_ GE643.out) | exact HB.out)⟩
                        · rw [if_neg c102] at H
                          have c102b0 : (t705 == 5) = false := beq_eq_false_iff_ne.mpr c102
                          have c102b1 : (t705 != 5) = true := bne_iff_ne.mpr c102
                          obtain rfl := Option.some.inj H
                          obtain ⟨Ao111, co111, eo111⟩ := Kd.N_slice HO_8.out
                          subst eo111
                          go_wp2_with (first | ((with_reducible refine gate_callee (f := 43) rfl ?_); refine goesL_ (some 153) rfl rfl Try.func43 (by kernel_rfl) rfl #[.int .i64 t644, .int .i64 t645, .slice Ao24 t646.length co24, .slice Ao111 t649.length co111] rfl (by (try simp only [List.map_toArray, List.map_cons, List.map_nil]); first | done | rfl | (simp only [List.length_drop, List.length_take]; rfl)) ?_; (with_reducible refine (hat_Loses.calls k1 t644 t645 _ _ t646 _ _ t649 t704 t705 _ ?side1 ?side2 ?side3 ?side4 A88.out).mono ?_); (case side1 => repeat (first | exact (Kd.R_reads' HO_7.out).2.2 | (with_reducible refine Kd.C_alloc ?_ _) | (with_reducible refine Kd.C_drewN ?_ _) | (with_reducible refine Kd.C_drew ?_))); (case side2 => exact (Kd.R_reads' HO_7.out).2.1); (case side3 => repeat (first | exact (Kd.N_reads' HO_8.out).2.2 | (with_reducible refine Kd.C_alloc ?_ _) | (with_reducible refine Kd.C_drewN ?_ _) | (with_reducible refine Kd.C_drew ?_))); (case side4 => exact (Kd.N_reads' HO_8.out).2.1); rintro e w112 ⟨v706, rfl, ho0, hb⟩; refine ⟨_, rfl, ?_⟩; have n0_ := Aside0.mk (Kd.R_below (by (with_reducible repeat (first | apply Kd.R_alloc | apply Kd.R_drewN | apply Kd.R_drew)); exact HO_7.out) hb); have n1_ := Aside0.mk (Kd.N_elder' (by (with_reducible repeat (first | apply Kd.N_alloc | apply Kd.N_drewN | apply Kd.N_drew)); exact HO_8.out) (Kd.R_base ho0) hb); have n2_ := Aside0.mk (Kd.R_below (by (with_reducible repeat (first | apply Kd.R_alloc | apply Kd.R_drewN | apply Kd.R_drew)); exact HO_10.out) hb); have n3_ := Aside0.mk (Kd.N_elder' (by (with_reducible repeat (first | apply Kd.N_alloc | apply Kd.N_drewN | apply Kd.N_drew)); exact HO_11.out) (Kd.R_base ho0) hb); have n4_ := Aside0.mk (Kd.N_elder' (by (with_reducible repeat (first | apply Kd.N_alloc | apply Kd.N_drewN | apply Kd.N_drew)); exact HO_12.out) (Kd.R_base ho0) hb); have n5_ := Aside0.mk (Kd.N_elder' (by (with_reducible repeat (first | apply Kd.N_alloc | apply Kd.N_drewN | apply Kd.N_drew)); exact HO_13.out) (Kd.R_base ho0) hb); have n6_ := Aside0.mk (Kd.R_lower ho0 (below_size (by repeat (first | (with_reducible first | exact HB.out | apply below_alloc | apply pw_below_drewN | apply below_drew1 | refine below_set ?_ GE642.out | refine below_set ?_ GE643.out) | exact HB.out)))); have n7_ := Aside0.mk (blk_below (g := gb642) (o := .cells #[.int .u8 a0_0, .int .u8 a0_1, .int .u8 a0_2, .slice A0_3 l0_3.length c0_3] 66 (0, 0)) (by (with_reducible repeat (first | refine blk_drewN ?_ _ | refine blk_drew ?_ | refine blk_alloc ?_ _)); exact BK642.out) hb); have n8_ := Aside0.mk (blk_below (g := gb643) (o := .cells #[.int .u8 a1_0, .int .u8 a1_1] 67 (0, 0)) (by (with_reducible repeat (first | refine blk_drewN ?_ _ | refine blk_drew ?_ | refine blk_alloc ?_ _)); exact BK643.out) hb); have n9_ := Aside0.mk (below_step (by repeat (first | (with_reducible first | exact HB.out | apply below_alloc | apply pw_below_drewN | apply below_drew1 | refine below_set ?_ GE642.out | refine below_set ?_ GE643.out) | exact HB.out)) hb); clear HO_7; clear HO_8; clear HO_10; clear HO_11; clear HO_12; clear HO_13; clear BK642; clear BK643; clear HB; have HO_7 := n0_; have HO_8 := n1_; have HO_10 := n2_; have HO_11 := n3_; have HO_12 := n4_; have HO_13 := n5_; have HO707 := n6_; have BK642 := n7_; have BK643 := n8_; have HB := n9_; clear n0_ n1_ n2_ n3_ n4_ n5_ n6_ n7_ n8_ n9_; (try clear hb); (try clear hb2); (try clear hk); (try clear hi); (try clear ho0); obtain ⟨Ao113, co113, eo113⟩ := Kd.N_slice HO_13.out; subst eo113) | ((with_reducible refine gate_callee (f := 43) rfl ?_); refine goesL_ (some 161) rfl rfl Try.func43 (by kernel_rfl) rfl #[.int .i64 t644, .int .i64 t645, .slice Ao35 y662.length co35, .slice Ao113 x13_1.length co113] rfl (by (try simp only [List.map_toArray, List.map_cons, List.map_nil]); first | done | rfl | (simp only [List.length_drop, List.length_take]; rfl)) ?_; (with_reducible refine (hat_Loses.calls k1 t644 t645 _ _ y662 _ _ x13_1 t708 t709 _ ?side1 ?side2 ?side3 ?side4 A89.out).mono ?_); (case side1 => repeat (first | exact (Kd.R_reads' HO_10.out).2.2 | (with_reducible refine Kd.C_alloc ?_ _) | (with_reducible refine Kd.C_drewN ?_ _) | (with_reducible refine Kd.C_drew ?_))); (case side2 => exact (Kd.R_reads' HO_10.out).2.1); (case side3 => repeat (first | exact (Kd.N_reads' HO_13.out).2.2 | (with_reducible refine Kd.C_alloc ?_ _) | (with_reducible refine Kd.C_drewN ?_ _) | (with_reducible refine Kd.C_drew ?_))); (case side4 => exact (Kd.N_reads' HO_13.out).2.1); rintro e w114 ⟨v710, rfl, ho0, hb⟩; refine ⟨_, rfl, ?_⟩; have n0_ := Aside0.mk (Kd.R_below (by (with_reducible repeat (first | apply Kd.R_alloc | apply Kd.R_drewN | apply Kd.R_drew)); exact HO_7.out) hb); have n1_ := Aside0.mk (Kd.N_elder' (by (with_reducible repeat (first | apply Kd.N_alloc | apply Kd.N_drewN | apply Kd.N_drew)); exact HO_8.out) (Kd.R_base ho0) hb); have n2_ := Aside0.mk (Kd.R_below (by (with_reducible repeat (first | apply Kd.R_alloc | apply Kd.R_drewN | apply Kd.R_drew)); exact HO_10.out) hb); have n3_ := Aside0.mk (Kd.N_elder' (by (with_reducible repeat (first | apply Kd.N_alloc | apply Kd.N_drewN | apply Kd.N_drew)); exact HO_11.out) (Kd.R_base ho0) hb); have n4_ := Aside0.mk (Kd.N_elder' (by (with_reducible repeat (first | apply Kd.N_alloc | apply Kd.N_drewN | apply Kd.N_drew)); exact HO_12.out) (Kd.R_base ho0) hb); have n5_ := Aside0.mk (Kd.N_elder' (by (with_reducible repeat (first | apply Kd.N_alloc | apply Kd.N_drewN | apply Kd.N_drew)); exact HO_13.out) (Kd.R_base ho0) hb); have n6_ := Aside0.mk (Kd.R_elder' (by (with_reducible repeat (first | apply Kd.R_alloc | apply Kd.R_drewN | apply Kd.R_drew)); exact HO707.out) (Kd.R_base ho0) hb); have n7_ := Aside0.mk (Kd.R_lower (Kd.R_new' ho0 (Kd.R_lt (by (with_reducible repeat (first | apply Kd.R_alloc | apply Kd.R_drewN | apply Kd.R_drew)); exact HO707.out))) (below_size (by repeat (first | (with_reducible first | exact HB.out | apply below_alloc | apply pw_below_drewN | apply below_drew1 | refine below_set ?_ GE642.out | refine below_set ?_ GE643.out) | exact HB.out)))); have n8_ := Aside0.mk (blk_below (g := gb642) (o := .cells #[.int .u8 a0_0, .int .u8 a0_1, .int .u8 a0_2, .slice A0_3 l0_3.length c0_3] 66 (0, 0)) (by (with_reducible repeat (first | refine blk_drewN ?_ _ | refine blk_drew ?_ | refine blk_alloc ?_ _)); exact BK642.out) hb); have n9_ := Aside0.mk (blk_below (g := gb643) (o := .cells #[.int .u8 a1_0, .int .u8 a1_1] 67 (0, 0)) (by (with_reducible repeat (first | refine blk_drewN ?_ _ | refine blk_drew ?_ | refine blk_alloc ?_ _)); exact BK643.out) hb); have n10_ := Aside0.mk (below_step (by repeat (first | (with_reducible first | exact HB.out | apply below_alloc | apply pw_below_drewN | apply below_drew1 | refine below_set ?_ GE642.out | refine below_set ?_ GE643.out) | exact HB.out)) hb); clear HO_7; clear HO_8; clear HO_10; clear HO_11; clear HO_12; clear HO_13; clear HO707; clear BK642; clear BK643; clear HB; have HO_7 := n0_; have HO_8 := n1_; have HO_10 := n2_; have HO_11 := n3_; have HO_12 := n4_; have HO_13 := n5_; have HO707 := n6_; have HO711 := n7_; have BK642 := n8_; have BK643 := n9_; have HB := n10_; clear n0_ n1_ n2_ n3_ n4_ n5_ n6_ n7_ n8_ n9_ n10_; (try clear hb); (try clear hb2); (try clear hk); (try clear hi); (try clear ho0); obtain ⟨Ao115, co115, eo115⟩ := Kd.R_slice HO707.out; subst eo115; obtain ⟨Ao116, co116, eo116⟩ := Kd.R_slice HO711.out; subst eo116) | (go_at_call 28; (with_reducible refine (woggleref01_Same.calls k1 _ _ t704 _ _ t708 true _ ?side1 ?side2 ?side3 ?side4 A91.out).mono ?_); (case side1 => repeat (first | exact (Kd.R_reads' HO707.out).2.2 | (with_reducible refine Kd.C_alloc ?_ _) | (with_reducible refine Kd.C_drewN ?_ _) | (with_reducible refine Kd.C_drew ?_))); (case side2 => exact (Kd.R_reads' HO707.out).2.1); (case side3 => repeat (first | exact (Kd.R_reads' HO711.out).2.2 | (with_reducible refine Kd.C_alloc ?_ _) | (with_reducible refine Kd.C_drewN ?_ _) | (with_reducible refine Kd.C_drew ?_))); (case side4 => exact (Kd.R_reads' HO711.out).2.1); rintro e w' ⟨rfl, ⟨nd, rfl⟩⟩))
                          go_ret
                          exact ⟨by first | rfl | (simp [errW_none, errW_some] <;> rfl) | (simp [*, errW_none, errW_some] <;> rfl), by repeat (first | (with_reducible first | exact HB.out | apply below_alloc | apply pw_below_drewN | apply below_drew1 | refine below_set ?_ GE642.out | refine below_set ?_ GE643.out) | exact HB.out)⟩
                    · replace c92 := Bool.eq_false_iff.mpr c92
                      subst c92
                      have H1 : (some false) = some r := by rw [if_neg (show ¬ (false = true) by decide)] at H; exact H
                      clear H
                      have H := H1
                      clear H1
                      obtain rfl := Option.some.inj H
                      obtain ⟨Ao117, co117, eo117⟩ := Kd.N_slice HO_8.out
                      subst eo117
                      go_wp2_with (first | ((with_reducible refine gate_callee (f := 43) rfl ?_); refine goesL_ (some 153) rfl rfl Try.func43 (by kernel_rfl) rfl #[.int .i64 t644, .int .i64 t645, .slice Ao24 t646.length co24, .slice Ao117 t649.length co117] rfl (by (try simp only [List.map_toArray, List.map_cons, List.map_nil]); first | done | rfl | (simp only [List.length_drop, List.length_take]; rfl)) ?_; (with_reducible refine (hat_Loses.calls k1 t644 t645 _ _ t646 _ _ t649 t704 t705 _ ?side1 ?side2 ?side3 ?side4 A88.out).mono ?_); (case side1 => repeat (first | exact (Kd.R_reads' HO_7.out).2.2 | (with_reducible refine Kd.C_alloc ?_ _) | (with_reducible refine Kd.C_drewN ?_ _) | (with_reducible refine Kd.C_drew ?_))); (case side2 => exact (Kd.R_reads' HO_7.out).2.1); (case side3 => repeat (first | exact (Kd.N_reads' HO_8.out).2.2 | (with_reducible refine Kd.C_alloc ?_ _) | (with_reducible refine Kd.C_drewN ?_ _) | (with_reducible refine Kd.C_drew ?_))); (case side4 => exact (Kd.N_reads' HO_8.out).2.1); rintro e w118 ⟨v706, rfl, ho0, hb⟩; refine ⟨_, rfl, ?_⟩; have n0_ := Aside0.mk (Kd.R_below (by (with_reducible repeat (first | apply Kd.R_alloc | apply Kd.R_drewN | apply Kd.R_drew)); exact HO_7.out) hb); have n1_ := Aside0.mk (Kd.N_elder' (by (with_reducible repeat (first | apply Kd.N_alloc | apply Kd.N_drewN | apply Kd.N_drew)); exact HO_8.out) (Kd.R_base ho0) hb); have n2_ := Aside0.mk (Kd.R_below (by (with_reducible repeat (first | apply Kd.R_alloc | apply Kd.R_drewN | apply Kd.R_drew)); exact HO_10.out) hb); have n3_ := Aside0.mk (Kd.N_elder' (by (with_reducible repeat (first | apply Kd.N_alloc | apply Kd.N_drewN | apply Kd.N_drew)); exact HO_11.out) (Kd.R_base ho0) hb); have n4_ := Aside0.mk (Kd.N_elder' (by (with_reducible repeat (first | apply Kd.N_alloc | apply Kd.N_drewN | apply Kd.N_drew)); exact HO_12.out) (Kd.R_base ho0) hb); have n5_ := Aside0.mk (Kd.N_elder' (by (with_reducible repeat (first | apply Kd.N_alloc | apply Kd.N_drewN | apply Kd.N_drew)); exact HO_13.out) (Kd.R_base ho0) hb); have n6_ := Aside0.mk (Kd.R_lower ho0 (below_size (by repeat (first | (with_reducible first | exact HB.out | apply below_alloc | apply pw_below_drewN | apply below_drew1 | refine below_set ?_ GE642.out | refine below_set ?_ GE643.out) | exact HB.out)))); have n7_ := Aside0.mk (blk_below (g := gb642) (o := .cells #[.int .u8 a0_0, .int .u8 a0_1, .int .u8 a0_2, .slice A0_3 l0_3.length c0_3] 66 (0, 0)) (by (with_reducible repeat (first | refine blk_drewN ?_ _ | refine blk_drew ?_ | refine blk_alloc ?_ _)); exact BK642.out) hb); have n8_ := Aside0.mk (blk_below (g := gb643) (o := .cells #[.int .u8 a1_0, .int .u8 a1_1] 67 (0, 0)) (by (with_reducible repeat (first | refine blk_drewN ?_ _ | refine blk_drew ?_ | refine blk_alloc ?_ _)); exact BK643.out) hb); have n9_ := Aside0.mk (below_step (by repeat (first | (with_reducible first | exact HB.out | apply below_alloc | apply pw_below_drewN | apply below_drew1 | refine below_set ?_ GE642.out | refine below_set ?_ GE643.out) | exact HB.out)) hb); clear HO_7; clear HO_8; clear HO_10; clear HO_11; clear HO_12; clear HO_13; clear BK642; clear BK643; clear HB; have HO_7 := n0_; have HO_8 := n1_; have HO_10 := n2_; have HO_11 := n3_; have HO_12 := n4_; have HO_13 := n5_; have HO707 := n6_; have BK642 := n7_; have BK643 := n8_; have HB := n9_; clear n0_ n1_ n2_ n3_ n4_ n5_ n6_ n7_ n8_ n9_; (try clear hb); (try clear hb2); (try clear hk); (try clear hi); (try clear ho0); obtain ⟨Ao119, co119, eo119⟩ := Kd.N_slice HO_13.out; subst eo119) | ((with_reducible refine gate_callee (f := 43) rfl ?_); refine goesL_ (some 161) rfl rfl Try.func43 (by kernel_rfl) rfl #[.int .i64 t644, .int .i64 t645, .slice Ao35 y662.length co35, .slice Ao119 x13_1.length co119] rfl (by (try simp only [List.map_toArray, List.map_cons, List.map_nil]); first | done | rfl | (simp only [List.length_drop, List.length_take]; rfl)) ?_; (with_reducible refine (hat_Loses.calls k1 t644 t645 _ _ y662 _ _ x13_1 t708 t709 _ ?side1 ?side2 ?side3 ?side4 A89.out).mono ?_); (case side1 => repeat (first | exact (Kd.R_reads' HO_10.out).2.2 | (with_reducible refine Kd.C_alloc ?_ _) | (with_reducible refine Kd.C_drewN ?_ _) | (with_reducible refine Kd.C_drew ?_))); (case side2 => exact (Kd.R_reads' HO_10.out).2.1); (case side3 => repeat (first | exact (Kd.N_reads' HO_13.out).2.2 | (with_reducible refine Kd.C_alloc ?_ _) | (with_reducible refine Kd.C_drewN ?_ _) | (with_reducible refine Kd.C_drew ?_))); (case side4 => exact (Kd.N_reads' HO_13.out).2.1); rintro e w120 ⟨v710, rfl, ho0, hb⟩; refine ⟨_, rfl, ?_⟩; have n0_ := Aside0.mk (Kd.R_below (by (with_reducible repeat (first | apply Kd.R_alloc | apply Kd.R_drewN | apply Kd.R_drew)); exact HO_7.out) hb); have n1_ := Aside0.mk (Kd.N_elder' (by (with_reducible repeat (first | apply Kd.N_alloc | apply Kd.N_drewN | apply Kd.N_drew)); exact HO_8.out) (Kd.R_base ho0) hb); have n2_ := Aside0.mk (Kd.R_below (by (with_reducible repeat (first | apply Kd.R_alloc | apply Kd.R_drewN | apply Kd.R_drew)); exact HO_10.out) hb); have n3_ := Aside0.mk (Kd.N_elder' (by (with_reducible repeat (first | apply Kd.N_alloc | apply Kd.N_drewN | apply Kd.N_drew)); exact HO_11.out) (Kd.R_base ho0) hb); have n4_ := Aside0.mk (Kd.N_elder' (by (with_reducible repeat (first | apply Kd.N_alloc | apply Kd.N_drewN | apply Kd.N_drew)); exact HO_12.out) (Kd.R_base ho0) hb); have n5_ := Aside0.mk (Kd.N_elder' (by (with_reducible repeat (first | apply Kd.N_alloc | apply Kd.N_drewN | apply Kd.N_drew)); exact HO_13.out) (Kd.R_base ho0) hb); have n6_ := Aside0.mk (Kd.R_elder' (by (with_reducible repeat (first | apply Kd.R_alloc | apply Kd.R_drewN | apply Kd.R_drew)); exact HO707.out) (Kd.R_base ho0) hb); have n7_ := Aside0.mk (Kd.R_lower (Kd.R_new' ho0 (Kd.R_lt (by (with_reducible repeat (first | apply Kd.R_alloc | apply Kd.R_drewN | apply Kd.R_drew)); exact HO707.out))) (below_size (by repeat (first | (with_reducible first | exact HB.out | apply below_alloc | apply pw_below_drewN | apply below_drew1 | refine below_set ?_ GE642.out | refine below_set ?_ GE643.out) | exact HB.out)))); have n8_ := Aside0.mk (blk_below (g := gb642) (o := .cells #[.int .u8 a0_0, .int .u8 a0_1, .int .u8 a0_2, .slice A0_3 l0_3.length c0_3] 66 (0, 0)) (by (with_reducible repeat (first | refine blk_drewN ?_ _ | refine blk_drew ?_ | refine blk_alloc ?_ _)); exact BK642.out) hb); have n9_ := Aside0.mk (blk_below (g := gb643) (o := .cells #[.int .u8 a1_0, .int .u8 a1_1] 67 (0, 0)) (by (with_reducible repeat (first | refine blk_drewN ?_ _ | refine blk_drew ?_ | refine blk_alloc ?_ _)); exact BK643.out) hb); have n10_ := Aside0.mk (below_step (by repeat (first | (with_reducible first | exact HB.out | apply below_alloc | apply pw_below_drewN | apply below_drew1 | refine below_set ?_ GE642.out | refine below_set ?_ GE643.out) | exact HB.out)) hb); clear HO_7; clear HO_8; clear HO_10; clear HO_11; clear HO_12; clear HO_13; clear HO707; clear BK642; clear BK643; clear HB; have HO_7 := n0_; have HO_8 := n1_; have HO_10 := n2_; have HO_11 := n3_; have HO_12 := n4_; have HO_13 := n5_; have HO707 := n6_; have HO711 := n7_; have BK642 := n8_; have BK643 := n9_; have HB := n10_; clear n0_ n1_ n2_ n3_ n4_ n5_ n6_ n7_ n8_ n9_ n10_; (try clear hb); (try clear hb2); (try clear hk); (try clear hi); (try clear ho0); obtain ⟨Ao121, co121, eo121⟩ := Kd.R_slice HO707.out; subst eo121; obtain ⟨Ao122, co122, eo122⟩ := Kd.R_slice HO711.out; subst eo122) | (go_at_call 28; (with_reducible refine (woggleref01_Same.calls k1 _ _ t704 _ _ t708 false _ ?side1 ?side2 ?side3 ?side4 A91.out).mono ?_); (case side1 => repeat (first | exact (Kd.R_reads' HO707.out).2.2 | (with_reducible refine Kd.C_alloc ?_ _) | (with_reducible refine Kd.C_drewN ?_ _) | (with_reducible refine Kd.C_drew ?_))); (case side2 => exact (Kd.R_reads' HO707.out).2.1); (case side3 => repeat (first | exact (Kd.R_reads' HO711.out).2.2 | (with_reducible refine Kd.C_alloc ?_ _) | (with_reducible refine Kd.C_drewN ?_ _) | (with_reducible refine Kd.C_drew ?_))); (case side4 => exact (Kd.R_reads' HO711.out).2.1); rintro e w' ⟨rfl, ⟨nd, rfl⟩⟩))
                      go_ret
                      exact ⟨by first | rfl | (simp [errW_none, errW_some] <;> rfl) | (simp [*, errW_none, errW_some] <;> rfl), by repeat (first | (with_reducible first | exact HB.out | apply below_alloc | apply pw_below_drewN | apply below_drew1 | refine below_set ?_ GE642.out | refine below_set ?_ GE643.out) | exact HB.out)⟩
                  · rw [if_neg c90] at H
                    have c90b0 : (t705 == t709) = false := beq_eq_false_iff_ne.mpr c90
                    have c90b1 : (t705 != t709) = true := bne_iff_ne.mpr c90
                    obtain rfl := Option.some.inj H
                    obtain ⟨Ao123, co123, eo123⟩ := Kd.N_slice HO_8.out
                    subst eo123
                    go_wp2_with (first | ((with_reducible refine gate_callee (f := 43) rfl ?_); refine goesL_ (some 153) rfl rfl Try.func43 (by kernel_rfl) rfl #[.int .i64 t644, .int .i64 t645, .slice Ao24 t646.length co24, .slice Ao123 t649.length co123] rfl (by (try simp only [List.map_toArray, List.map_cons, List.map_nil]); first | done | rfl | (simp only [List.length_drop, List.length_take]; rfl)) ?_; (with_reducible refine (hat_Loses.calls k1 t644 t645 _ _ t646 _ _ t649 t704 t705 _ ?side1 ?side2 ?side3 ?side4 A88.out).mono ?_); (case side1 => repeat (first | exact (Kd.R_reads' HO_7.out).2.2 | (with_reducible refine Kd.C_alloc ?_ _) | (with_reducible refine Kd.C_drewN ?_ _) | (with_reducible refine Kd.C_drew ?_))); (case side2 => exact (Kd.R_reads' HO_7.out).2.1); (case side3 => repeat (first | exact (Kd.N_reads' HO_8.out).2.2 | (with_reducible refine Kd.C_alloc ?_ _) | (with_reducible refine Kd.C_drewN ?_ _) | (with_reducible refine Kd.C_drew ?_))); (case side4 => exact (Kd.N_reads' HO_8.out).2.1); rintro e w124 ⟨v706, rfl, ho0, hb⟩; refine ⟨_, rfl, ?_⟩; have n0_ := Aside0.mk (Kd.R_below (by (with_reducible repeat (first | apply Kd.R_alloc | apply Kd.R_drewN | apply Kd.R_drew)); exact HO_7.out) hb); have n1_ := Aside0.mk (Kd.N_elder' (by (with_reducible repeat (first | apply Kd.N_alloc | apply Kd.N_drewN | apply Kd.N_drew)); exact HO_8.out) (Kd.R_base ho0) hb); have n2_ := Aside0.mk (Kd.R_below (by (with_reducible repeat (first | apply Kd.R_alloc | apply Kd.R_drewN | apply Kd.R_drew)); exact HO_10.out) hb); have n3_ := Aside0.mk (Kd.N_elder' (by (with_reducible repeat (first | apply Kd.N_alloc | apply Kd.N_drewN | apply Kd.N_drew)); exact HO_11.out) (Kd.R_base ho0) hb); have n4_ := Aside0.mk (Kd.N_elder' (by (with_reducible repeat (first | apply Kd.N_alloc | apply Kd.N_drewN | apply Kd.N_drew)); exact HO_12.out) (Kd.R_base ho0) hb); have n5_ := Aside0.mk (Kd.N_elder' (by (with_reducible repeat (first | apply Kd.N_alloc | apply Kd.N_drewN | apply Kd.N_drew)); exact HO_13.out) (Kd.R_base ho0) hb); have n6_ := Aside0.mk (Kd.R_lower ho0 (below_size (by repeat (first | (with_reducible first | exact HB.out | apply below_alloc | apply pw_below_drewN | apply below_drew1 | refine below_set ?_ GE642.out | refine below_set ?_ GE643.out) | exact HB.out)))); have n7_ := Aside0.mk (blk_below (g := gb642) (o := .cells #[.int .u8 a0_0, .int .u8 a0_1, .int .u8 a0_2, .slice A0_3 l0_3.length c0_3] 66 (0, 0)) (by (with_reducible repeat (first | refine blk_drewN ?_ _ | refine blk_drew ?_ | refine blk_alloc ?_ _)); exact BK642.out) hb); have n8_ := Aside0.mk (blk_below (g := gb643) (o := .cells #[.int .u8 a1_0, .int .u8 a1_1] 67 (0, 0)) (by (with_reducible repeat (first | refine blk_drewN ?_ _ | refine blk_drew ?_ | refine blk_alloc ?_ _)); exact BK643.out) hb); have n9_ := Aside0.mk (below_step (by repeat (first | (with_reducible first | exact HB.out | apply below_alloc | apply pw_below_drewN | apply below_drew1 | refine below_set ?_ GE642.out | refine below_set ?_ GE643.out) | exact HB.out)) hb); clear HO_7; clear HO_8; clear HO_10; clear HO_11; clear HO_12; clear HO_13; clear BK642; clear BK643; clear HB; have HO_7 := n0_; have HO_8 := n1_; have HO_10 := n2_; have HO_11 := n3_; have HO_12 := n4_; have HO_13 := n5_; have HO707 := n6_; have BK642 := n7_; have BK643 := n8_; have HB := n9_; clear n0_ n1_ n2_ n3_ n4_ n5_ n6_ n7_ n8_ n9_; (try clear hb); (try clear hb2); (try clear hk); (try clear hi); (try clear ho0); obtain ⟨Ao125, co125, eo125⟩ := Kd.N_slice HO_13.out; subst eo125) | ((with_reducible refine gate_callee (f := 43) rfl ?_); refine goesL_ (some 161) rfl rfl Try.func43 (by kernel_rfl) rfl #[.int .i64 t644, .int .i64 t645, .slice Ao35 y662.length co35, .slice Ao125 x13_1.length co125] rfl (by (try simp only [List.map_toArray, List.map_cons, List.map_nil]); first | done | rfl | (simp only [List.length_drop, List.length_take]; rfl)) ?_; (with_reducible refine (hat_Loses.calls k1 t644 t645 _ _ y662 _ _ x13_1 t708 t709 _ ?side1 ?side2 ?side3 ?side4 A89.out).mono ?_); (case side1 => repeat (first | exact (Kd.R_reads' HO_10.out).2.2 | (with_reducible refine Kd.C_alloc ?_ _) | (with_reducible refine Kd.C_drewN ?_ _) | (with_reducible refine Kd.C_drew ?_))); (case side2 => exact (Kd.R_reads' HO_10.out).2.1); (case side3 => repeat (first | exact (Kd.N_reads' HO_13.out).2.2 | (with_reducible refine Kd.C_alloc ?_ _) | (with_reducible refine Kd.C_drewN ?_ _) | (with_reducible refine Kd.C_drew ?_))); (case side4 => exact (Kd.N_reads' HO_13.out).2.1); rintro e w126 ⟨v710, rfl, ho0, hb⟩; refine ⟨_, rfl, ?_⟩; have n0_ := Aside0.mk (Kd.R_below (by (with_reducible repeat (first | apply Kd.R_alloc | apply Kd.R_drewN | apply Kd.R_drew)); exact HO_7.out) hb); have n1_ := Aside0.mk (Kd.N_elder' (by (with_reducible repeat (first | apply Kd.N_alloc | apply Kd.N_drewN | apply Kd.N_drew)); exact HO_8.out) (Kd.R_base ho0) hb); have n2_ := Aside0.mk (Kd.R_below (by (with_reducible repeat (first | apply Kd.R_alloc | apply Kd.R_drewN | apply Kd.R_drew)); exact HO_10.out) hb); have n3_ := Aside0.mk (Kd.N_elder' (by (with_reducible repeat (first | apply Kd.N_alloc | apply Kd.N_drewN | apply Kd.N_drew)); exact HO_11.out) (Kd.R_base ho0) hb); have n4_ := Aside0.mk (Kd.N_elder' (by (with_reducible repeat (first | apply Kd.N_alloc | apply Kd.N_drewN | apply Kd.N_drew)); exact HO_12.out) (Kd.R_base ho0) hb); have n5_ := Aside0.mk (Kd.N_elder' (by (with_reducible repeat (first | apply Kd.N_alloc | apply Kd.N_drewN | apply Kd.N_drew)); exact HO_13.out) (Kd.R_base ho0) hb); have n6_ := Aside0.mk (Kd.R_elder' (by (with_reducible repeat (first | apply Kd.R_alloc | apply Kd.R_drewN | apply Kd.R_drew)); exact HO707.out) (Kd.R_base ho0) hb); have n7_ := Aside0.mk (Kd.R_lower (Kd.R_new' ho0 (Kd.R_lt (by (with_reducible repeat (first | apply Kd.R_alloc | apply Kd.R_drewN | apply Kd.R_drew)); exact HO707.out))) (below_size (by repeat (first | (with_reducible first | exact HB.out | apply below_alloc | apply pw_below_drewN | apply below_drew1 | refine below_set ?_ GE642.out | refine below_set ?_ GE643.out) | exact HB.out)))); have n8_ := Aside0.mk (blk_below (g := gb642) (o := .cells #[.int .u8 a0_0, .int .u8 a0_1, .int .u8 a0_2, .slice A0_3 l0_3.length c0_3] 66 (0, 0)) (by (with_reducible repeat (first | refine blk_drewN ?_ _ | refine blk_drew ?_ | refine blk_alloc ?_ _)); exact BK642.out) hb); have n9_ := Aside0.mk (blk_below (g := gb643) (o := .cells #[.int .u8 a1_0, .int .u8 a1_1] 67 (0, 0)) (by (with_reducible repeat (first | refine blk_drewN ?_ _ | refine blk_drew ?_ | refine blk_alloc ?_ _)); exact BK643.out) hb); have n10_ := Aside0.mk (below_step (by repeat (first | (with_reducible first | exact HB.out | apply below_alloc | apply pw_below_drewN | apply below_drew1 | refine below_set ?_ GE642.out | refine below_set ?_ GE643.out) | exact HB.out)) hb); clear HO_7; clear HO_8; clear HO_10; clear HO_11; clear HO_12; clear HO_13; clear HO707; clear BK642; clear BK643; clear HB; have HO_7 := n0_; have HO_8 := n1_; have HO_10 := n2_; have HO_11 := n3_; have HO_12 := n4_; have HO_13 := n5_; have HO707 := n6_; have HO711 := n7_; have BK642 := n8_; have BK643 := n9_; have HB := n10_; clear n0_ n1_ n2_ n3_ n4_ n5_ n6_ n7_ n8_ n9_ n10_; (try clear hb); (try clear hb2); (try clear hk); (try clear hi); (try clear ho0)))
                    go_ret
                    exact ⟨by first | rfl | (simp [errW_none, errW_some] <;> rfl) | (simp [*, errW_none, errW_some] <;> rfl), by repeat (first | (with_reducible first | exact HB.out | apply below_alloc | apply pw_below_drewN | apply below_drew1 | refine below_set ?_ GE642.out | refine below_set ?_ GE643.out) | exact HB.out)⟩
          · rw [if_neg c15] at H
            exact absurd H (by simp)
      · rw [if_neg c13] at H
        exact absurd H (by simp)


end Go.Proofs.Ytgjmfehdjbepiaa.P
