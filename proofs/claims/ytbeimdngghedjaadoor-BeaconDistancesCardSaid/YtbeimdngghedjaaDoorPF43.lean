-- written by a program of this session
import Derived.Deep.RegionWith
import Derived.Test.YtbeimdngghedjaaDoorPK
import Derived.Test.YtbeimdngghedjaaDoorPK2
import Derived.Test.YtbeimdngghedjaaDoorPF27
import Derived.Test.YtbeimdngghedjaaDoorPF52
import Derived.Test.YtbeimdngghedjaaDoorBZ
namespace Go.Proofs.YtbeimdngghedjaaDoor.P
open Go.RowKit Go.Proofs.YtbeimdngghedjaaDoorW.PrintWords Go.Proofs.YtbeimdngghedjaaDoorW.PrintLast Go.Proofs.YtbeimdngghedjaaDoorW.PrintMore
attribute [local go_sem] max2_int min2_int max_two min_two max_three min_three max_four min_four   -- for this text's walks alone
set_option linter.unusedVariables false
set_option linter.unusedSimpArgs false

/-! ### woggleref07_Slater: function 43 -/
mutual
def woggleref07_Slater.l0 : Nat → List Int → Int → Int → Int → Option (Int)
  | 0, _, _, _, _ => none
  | k + 1, x0, x3, x4, x5 => if x5 < (x0.length : Int) then (if 0 ≤ x5 then ((woggleref06_Size.f k (rd x0 x5)).bind fun t614 => (if t614 = 1 then ((woggleref01_Members.f k (rd x0 x5)).bind fun t616 => (if 0 < (t616.length : Int) then (woggleref07_Slater.l1 k x0 (wrap64 (x3 + 1)) x4 x5 x5 (rd t616 0)) else (none))) else (woggleref07_Slater.l0 k x0 x3 x4 (wrap64 (x5 + 1))))) else (none)) else ((woggleref06_Size.f k x4).bind fun t612 => (some (wrap64 (x3 - t612))))
def woggleref07_Slater.l1 : Nat → List Int → Int → Int → Int → Int → Int → Option (Int)
  | 0, _, _, _, _, _, _ => none
  | k + 1, x0, x3, x4, x5, x6, x7 => if 0 ≤ x7 then (if x7 < (x0.length : Int) then ((woggleref06_Size.f k (rd x0 x7)).bind fun t621 => (if t621 = 2 then (if 0 ≤ x6 then ((woggleref01_Members.f k (Go.bits .andNot .i64 (rd x0 x7) (shl .i64 1 x6))).bind fun t623 => (if 0 < (t623.length : Int) then (woggleref07_Slater.l1 k x0 x3 x4 x5 x7 (rd t623 0)) else (none))) else (none)) else (woggleref07_Slater.l0 k x0 x3 (Go.bits .or .i64 x4 (shl .i64 1 x7)) (wrap64 (x5 + 1))))) else (none)) else (none)
end
def woggleref07_Slater.f (k : Nat) (l0 : List Int) : Option (Int) := woggleref07_Slater.l0 k l0 0 0 0
theorem woggleref07_Slater.mono_l : ∀ k, (∀ y0 y1 y2 y3, LeO (woggleref07_Slater.l0 k y0 y1 y2 y3) (woggleref07_Slater.l0 (k + 1) y0 y1 y2 y3)) ∧ (∀ y0 y1 y2 y3 y4 y5, LeO (woggleref07_Slater.l1 k y0 y1 y2 y3 y4 y5) (woggleref07_Slater.l1 (k + 1) y0 y1 y2 y3 y4 y5))
  | 0 => ⟨fun _ _ _ _ r h => by simp [woggleref07_Slater.l0] at h, fun _ _ _ _ _ _ r h => by simp [woggleref07_Slater.l1] at h⟩
  | k + 1 => by
    obtain ⟨ih0, ih1⟩ := woggleref07_Slater.mono_l k
    refine ⟨?_, ?_⟩
    · intro y0 y1 y2 y3
      unfold woggleref07_Slater.l0
      repeat' first
      | (with_reducible exact ih0 _ _ _ _)
      | (with_reducible exact ih1 _ _ _ _ _ _)
      | (with_reducible exact woggleref01_Members.mono _ _)
      | (with_reducible exact woggleref06_Size.mono _ _)
      | (with_reducible exact LeO.refl _)
      | (with_reducible exact LeO.none _)
      | (with_reducible refine LeO.ite ?_ ?_)
      | (with_reducible refine LeO.bind ?_ (fun _ => ?_))
      | exact ih0 _ _ _ _
      | exact ih1 _ _ _ _ _ _
      | exact woggleref01_Members.mono _ _
      | exact woggleref06_Size.mono _ _
      | exact LeO.none _
      | refine LeO.ite ?_ ?_
      | refine LeO.bind ?_ (fun _ => ?_)
    · intro y0 y1 y2 y3 y4 y5
      unfold woggleref07_Slater.l1
      repeat' first
      | (with_reducible exact ih0 _ _ _ _)
      | (with_reducible exact ih1 _ _ _ _ _ _)
      | (with_reducible exact woggleref01_Members.mono _ _)
      | (with_reducible exact woggleref06_Size.mono _ _)
      | (with_reducible exact LeO.refl _)
      | (with_reducible exact LeO.none _)
      | (with_reducible refine LeO.ite ?_ ?_)
      | (with_reducible refine LeO.bind ?_ (fun _ => ?_))
      | exact ih0 _ _ _ _
      | exact ih1 _ _ _ _ _ _
      | exact woggleref01_Members.mono _ _
      | exact woggleref06_Size.mono _ _
      | exact LeO.none _
      | refine LeO.ite ?_ ?_
      | refine LeO.bind ?_ (fun _ => ?_)
theorem woggleref07_Slater.mono : ∀ a0 k, LeO (woggleref07_Slater.f k a0) (woggleref07_Slater.f (k + 1) a0) := by
  intro a0 k
  obtain ⟨ih0, ih1⟩ := woggleref07_Slater.mono_l k
  unfold woggleref07_Slater.f
  repeat' first
      | (with_reducible exact ih0 _ _ _ _)
      | (with_reducible exact ih1 _ _ _ _ _ _)
      | (with_reducible exact woggleref01_Members.mono _ _)
      | (with_reducible exact woggleref06_Size.mono _ _)
      | (with_reducible exact LeO.refl _)
      | (with_reducible exact LeO.none _)
      | (with_reducible refine LeO.ite ?_ ?_)
      | (with_reducible refine LeO.bind ?_ (fun _ => ?_))
      | exact ih0 _ _ _ _
      | exact ih1 _ _ _ _ _ _
      | exact woggleref01_Members.mono _ _
      | exact woggleref06_Size.mono _ _
      | exact LeO.none _
      | refine LeO.ite ?_ ?_
      | refine LeO.bind ?_ (fun _ => ?_)
def woggleref07_Slater.T7 : Bool × List (List Nat × List Nat) := (true, [([], []), ([], []), ([], []), ([1, 2], [1, 2]), ([3], [3]), ([4], [4]), ([5], [5]), ([6], [6]), ([0, 5, 0], [0]), ([7, 8, 0, 1, 2, 3, 4, 5, 6, 7, 8], [7])])
def woggleref07_Slater.B7 : List Nat := [0, 0, 0, 6, 14, 30, 62, 126, 63, 511]
theorem woggleref07_Slater.tab7 : rtab .any (opsOf Tryd.f43 7) = woggleref07_Slater.T7 := by kernel_rfl
theorem woggleref07_Slater.bits7 : waitsOk woggleref07_Slater.T7.2 woggleref07_Slater.B7 = true := by kernel_rfl
def woggleref07_Slater.T9 : Bool × List (List Nat × List Nat) := (true, [([], []), ([], []), ([0, 1], [0, 1]), ([2], [2]), ([], []), ([4], [4]), ([3, 5], [3, 5]), ([6], [6]), ([7], [7]), ([8], [8]), ([9, 7, 0, 1, 2, 3, 4, 5, 6, 7, 8, 9], [9])])
def woggleref07_Slater.B9 : List Nat := [0, 0, 3, 7, 0, 16, 63, 127, 255, 511, 1023]
theorem woggleref07_Slater.tab9 : rtab .any (opsOf Tryd.f43 9) = woggleref07_Slater.T9 := by kernel_rfl
theorem woggleref07_Slater.bits9 : waitsOk woggleref07_Slater.T9.2 woggleref07_Slater.B9 = true := by kernel_rfl
set_option maxHeartbeats 8000000 in
set_option maxRecDepth 100000 in
theorem woggleref07_Slater.calls (k : Nat) (A0 : Option Addr) (c0 : Nat) (l0 : List Int) (r : Int) (w : World) (hr0 : Kd.C (Kd.int .i64) w A0 l0.length l0) (hc0 : l0.length ≤ c0) (h : woggleref07_Slater.f k l0 = some r) :
    Calls Tryd.prog 43 #[.slice A0 l0.length c0] w fun e w' => e = .returned (.int .i64 r) ∧ Below w.heap.size w w' := by
  have HR0 := Aside0.mk hr0
  have HC0 := Aside0.mk hc0
  clear hr0 hc0
  have HB := Aside0.mk (Below.refl w.heap.size w)
  have H : (woggleref07_Slater.l0 k l0 0 0 0) = some r := h
  clear h
  have H' := Aside0.mk H
  clear H
  go_enter Tryd.func43, Tryd.ntmps43
  go_wp2
  go_loopg [3, 4, 5] k (fun kq v3 v4 v5 w' => ∃ (x3_1 : Int) (x4_1 : Int) (x5_1 : Int), v3 = .int .i64 x3_1 ∧ v4 = .int .i64 x4_1 ∧ v5 = .int .i64 x5_1 ∧ Aside0 (woggleref07_Slater.l0 kq l0 x3_1 x4_1 x5_1 = some r) ∧ Aside0 (kq ≤ k) ∧ Aside0 (Below w.heap.size w w'))
  case atStart => exact ⟨(0), (0), (0), (by first | rfl | (simp; done) | (simp [*]; done)), (by first | rfl | (simp; done) | (simp [*]; done)), (by first | rfl | (simp; done) | (simp [*]; done)), H', ⟨Nat.le_refl _⟩, ⟨by repeat (first | (with_reducible first | exact HB.out | apply below_alloc | apply pw_below_drewN | apply below_drew1) | exact HB.out)⟩⟩
  case round =>
    clear H'
    obtain ⟨x3_1, x4_1, x5_1, rfl, rfl, rfl, HA, HK1, HB⟩ := hrel
    cases gk with
    | zero => exact absurd HA.out (by simp [woggleref07_Slater.l0])
    | succ k1 =>
      have H := HA.out
      clear HA
      simp only [woggleref07_Slater.l0] at H
      by_cases c2 : x5_1 < (l0.length : Int)
      · rw [if_pos c2] at H
        have c2b0 : decide (x5_1 < (l0.length : Int)) = true := decide_eq_true c2
        clear c2
        by_cases c3 : 0 ≤ x5_1
        · rw [if_pos c3] at H
          have c3b0 : decide (0 ≤ x5_1) = true := decide_eq_true c3
          clear c3
          replace H := Option.bind_eq_some_iff.mp H
          obtain ⟨t614, A40, H⟩ := H
          replace H : (if t614 = 1 then ((woggleref01_Members.f k1 (rd l0 x5_1)).bind fun t616 => (if 0 < (t616.length : Int) then (woggleref07_Slater.l1 k1 l0 (wrap64 (x3_1 + 1)) x4_1 x5_1 x5_1 (rd t616 0)) else (none))) else (woggleref07_Slater.l0 k1 l0 x3_1 x4_1 (wrap64 (x5_1 + 1)))) = some r := H
          have A4 := Aside0.mk A40
          clear A40
          by_cases c5 : t614 = 1
          · rw [if_pos c5] at H
            have c5b0 : (t614 == 1) = true := beq_iff_eq.mpr c5
            have c5b1 : (t614 != 1) = false := bne_eq_false_iff_eq.mpr c5
            clear c5
            replace H := Option.bind_eq_some_iff.mp H
            obtain ⟨t616, A60, H⟩ := H
            replace H : (if 0 < (t616.length : Int) then (woggleref07_Slater.l1 k1 l0 (wrap64 (x3_1 + 1)) x4_1 x5_1 x5_1 (rd t616 0)) else (none)) = some r := H
            have A6 := Aside0.mk A60
            clear A60
            by_cases c7 : 0 < (t616.length : Int)
            · rw [if_pos c7] at H
              have c7b0 : decide (0 < (t616.length : Int)) = true := decide_eq_true c7
              have c7b1 : decide (0 < t616.length) = true := decide_eq_true (by omega)
              clear c7
              have H' := Aside0.mk H
              clear H
              have p613 : 0 ≤ (x5_1 : Int) := of_decide_eq_true (by first | (with_reducible assumption) | assumption)
              have q613 : x5_1 < (l0.length : Int) := of_decide_eq_true (by first | (with_reducible assumption) | assumption)
              obtain ⟨ad613, e613, hx613_0⟩ := Kd.at_int HR0.out x5_1 p613 q613
              cases e613
              have HW613 := Aside0.mk hx613_0
              replace hx613_0 := (HB.out.cell (World.block_lt_of_cell? w _ hx613_0)).trans hx613_0
              replace p613 := eq_true p613
              replace q613 := eq_true q613
              try go_wp2_with (first | ((with_reducible refine gate_callee (f := 27) rfl ?_); refine goesL_ (some 19) rfl rfl Tryd.func27 (by kernel_rfl) rfl #[.int .i64 (rd l0 x5_1)] rfl (by (try simp only [List.map_toArray, List.map_cons, List.map_nil]); first | done | rfl | (simp only [List.length_drop, List.length_take]; rfl)) ?_; (with_reducible refine (woggleref06_Size.calls k1 (rd l0 x5_1) t614 _ A4.out).mono ?_); rintro e w8 ⟨rfl, hb⟩; refine ⟨_, rfl, ?_⟩; have n0_ := Aside0.mk (below_step (by repeat (first | (with_reducible first | exact HB.out | apply below_alloc | apply pw_below_drewN | apply below_drew1) | exact HB.out)) hb); clear HB; have HB := n0_; clear n0_; (try clear hb); (try clear hb2); (try clear hk); (try clear hi)))
              have hww := (show w.cell? (ad613.add (x5_1).toNat) = some (.int .i64 (rd l0 x5_1)) from HW613.out)
              go_cut [6, 7] (fun v6 v7 wc => v6 = .int .i64 x5_1 ∧ v7 = .int .i64 (rd t616 0) ∧ Aside0 (Below w.heap.size w wc))
              case first =>
                have qi_ : (0 < t616.length) = True := eq_true (by first | exact of_decide_eq_true c7b1 | exact of_decide_eq_true c19b1 | (simpa using ‹_›))
                have hcur := (HB.out.cell (World.block_lt_of_cell? w _ hww)).trans hww
                go_region_with (first
                  | (go_at_call 52; with_reducible refine (woggleref01_Members.calls k1 (rd l0 x5_1) t616 _ A6.out).mono ?_; rintro e w5 ⟨v5, rfl, ho0, hb⟩; have HB5 := Aside0.mk (below_step (by repeat (first | (with_reducible first | exact HB.out | apply pw_below_drewN | apply below_drew1) | exact HB.out)) hb : Below w.heap.size w w5); have e0 := (HB5.out.cell (World.block_lt_of_cell? w _ hww)).trans hww; obtain ⟨Ao5, co5, eo5⟩ := Kd.R_slice ho0; subst eo5; obtain ⟨ad5, e5, hx5⟩ := Kd.at_int (Kd.R_reads' ho0).2.2 0 (by decide) (by first | assumption | omega | exact of_decide_eq_true c7b0 | exact of_decide_eq_true c19b0); cases e5; (try rw [show ((0 : Int)).toNat = 0 from rfl] at hx5); (try rw [Addr.add_zero'] at hx5); clear hb ho0))
                all_goals
                  go_wp2
                  go_meet
                  case rel => exact ⟨by first | rfl | (simp; done), by first | rfl | (simp; done), ⟨by repeat (first | (with_reducible first | exact HB5.out | exact HB.out | apply below_alloc | apply pw_below_drewN | apply below_drew1) | exact HB5.out | exact HB.out)⟩⟩
              case rest =>
                obtain ⟨rfl, rfl, HB⟩ := hcut
                try go_wp2
                go_loopg [6, 7] k1 (fun kq v6 v7 w' => ∃ (x6_2 : Int) (x7_2 : Int), v6 = .int .i64 x6_2 ∧ v7 = .int .i64 x7_2 ∧ Aside0 (woggleref07_Slater.l1 kq l0 (wrap64 (x3_1 + 1)) x4_1 x5_1 x6_2 x7_2 = some r) ∧ Aside0 (kq ≤ k1) ∧ Aside0 (Below w.heap.size w w'))
                case atStart => exact ⟨(x5_1), (rd t616 0), (by first | rfl | (simp; done) | (simp [*]; done)), (by first | rfl | (simp; done) | (simp [*]; done)), H', ⟨Nat.le_refl _⟩, ⟨by repeat (first | (with_reducible first | exact HB.out | apply below_alloc | apply pw_below_drewN | apply below_drew1) | exact HB.out)⟩⟩
                case round =>
                  clear H'
                  try clear c2
                  try clear c2b0
                  try clear p2
                  try clear c3
                  try clear c3b0
                  try clear c4
                  try clear c5
                  try clear c5b0
                  try clear c5b1
                  try clear p6
                  try clear q6
                  try clear hx6
                  try clear qi6
                  try clear c7
                  try clear c7b0
                  try clear c7b1
                  try clear hx613_0
                  try clear hx615_0
                  try clear hx619_0
                  try clear p613
                  try clear p615
                  try clear p619
                  try clear q613
                  try clear q615
                  try clear q619
                  obtain ⟨x6_2, x7_2, rfl, rfl, HA, HK2, HB⟩ := hrel
                  cases gk with
                  | zero => exact absurd HA.out (by simp [woggleref07_Slater.l1])
                  | succ k2 =>
                    have H := HA.out
                    clear HA
                    simp only [woggleref07_Slater.l1] at H
                    by_cases c12 : 0 ≤ x7_2
                    · rw [if_pos c12] at H
                      have c12b0 : decide (0 ≤ x7_2) = true := decide_eq_true c12
                      clear c12
                      by_cases c13 : x7_2 < (l0.length : Int)
                      · rw [if_pos c13] at H
                        have c13b0 : decide (x7_2 < (l0.length : Int)) = true := decide_eq_true c13
                        clear c13
                        replace H := Option.bind_eq_some_iff.mp H
                        obtain ⟨t621, A140, H⟩ := H
                        replace H : (if t621 = 2 then (if 0 ≤ x6_2 then ((woggleref01_Members.f k2 (Go.bits .andNot .i64 (rd l0 x7_2) (shl .i64 1 x6_2))).bind fun t623 => (if 0 < (t623.length : Int) then (woggleref07_Slater.l1 k2 l0 (wrap64 (x3_1 + 1)) x4_1 x5_1 x7_2 (rd t623 0)) else (none))) else (none)) else (woggleref07_Slater.l0 k2 l0 (wrap64 (x3_1 + 1)) (Go.bits .or .i64 x4_1 (shl .i64 1 x7_2)) (wrap64 (x5_1 + 1)))) = some r := H
                        have A14 := Aside0.mk A140
                        clear A140
                        by_cases c15 : t621 = 2
                        · rw [if_pos c15] at H
                          have c15b0 : (t621 == 2) = true := beq_iff_eq.mpr c15
                          have c15b1 : (t621 != 2) = false := bne_eq_false_iff_eq.mpr c15
                          clear c15
                          by_cases c16 : 0 ≤ x6_2
                          · rw [if_pos c16] at H
                            have c16b0 := eq_true c16
                            have c16b1 : decide (0 ≤ x6_2) = true := decide_eq_true c16
                            clear c16
                            obtain ⟨ji17, hji17⟩ : ∃ j_ : Int, (shl .i64 1 x6_2) = j_ := ⟨_, rfl⟩
                            replace H : ((woggleref01_Members.f k2 (Go.bits .andNot .i64 (rd l0 x7_2) (ji17))).bind fun t623 => (if 0 < (t623.length : Int) then (woggleref07_Slater.l1 k2 l0 (wrap64 (x3_1 + 1)) x4_1 x5_1 x7_2 (rd t623 0)) else (none))) = some r := by first | (rw [hji17] at H; exact H) | (simp only [hji17] at H ⊢; exact H)
                            (try rw [hji17] at A14)
                            have hji17_ : (IntKind.i64.wrap (1 * 2 ^ min x6_2.toNat 64)) = ji17 := hji17
                            have hji17z : x6_2 ≤ 64 → (IntKind.i64.wrap (1 * 2 ^ x6_2.toNat)) = ji17 := shl_small hji17
                            have hji17u : (IntKind.i64.wrap (2 ^ min x6_2.toNat 64)) = ji17 := by have h_ := hji17_; rw [Int.one_mul] at h_; exact h_
                            have hji17v : x6_2 ≤ 64 → (IntKind.i64.wrap (2 ^ x6_2.toNat)) = ji17 := fun hle_ => by have h_ := hji17z hle_; rw [Int.one_mul] at h_; exact h_
                            have hji17y : (wrap64 (1 * 2 ^ min x6_2.toNat 64)) = ji17 := (i64_w _).symm.trans hji17_
                            have hji17x : x6_2 ≤ 64 → (wrap64 (1 * 2 ^ x6_2.toNat)) = ji17 := fun h_ => (i64_w _).symm.trans (hji17z h_)
                            replace H := Option.bind_eq_some_iff.mp H
                            obtain ⟨t623, A180, H⟩ := H
                            replace H : (if 0 < (t623.length : Int) then (woggleref07_Slater.l1 k2 l0 (wrap64 (x3_1 + 1)) x4_1 x5_1 x7_2 (rd t623 0)) else (none)) = some r := H
                            have A18 := Aside0.mk A180
                            clear A180
                            by_cases c19 : 0 < (t623.length : Int)
                            · rw [if_pos c19] at H
                              have c19b0 : decide (0 < (t623.length : Int)) = true := decide_eq_true c19
                              have c19b1 : decide (0 < t623.length) = true := decide_eq_true (by omega)
                              clear c19
                              have H' := Aside0.mk H
                              clear H
                              have p620 : 0 ≤ (x7_2 : Int) := of_decide_eq_true (by first | (with_reducible assumption) | assumption)
                              have q620 : x7_2 < (l0.length : Int) := of_decide_eq_true (by first | (with_reducible assumption) | assumption)
                              obtain ⟨ad620, e620, hx620_0⟩ := Kd.at_int HR0.out x7_2 p620 q620
                              obtain rfl : ad613 = ad620 := (by injection e620)
                              have HW620 := Aside0.mk hx620_0
                              replace hx620_0 := (HB.out.cell (World.block_lt_of_cell? w _ hx620_0)).trans hx620_0
                              replace p620 := eq_true p620
                              replace q620 := eq_true q620
                              try go_wp2_with (first | ((with_reducible refine gate_callee (f := 27) rfl ?_); refine goesL_ (some 35) rfl rfl Tryd.func27 (by kernel_rfl) rfl #[.int .i64 (rd l0 x7_2)] rfl (by (try simp only [List.map_toArray, List.map_cons, List.map_nil]); first | done | rfl | (simp only [List.length_drop, List.length_take]; rfl)) ?_; (with_reducible refine (woggleref06_Size.calls k2 (rd l0 x7_2) t621 _ A14.out).mono ?_); rintro e w20 ⟨rfl, hb⟩; refine ⟨_, rfl, ?_⟩; have n0_ := Aside0.mk (below_step (by repeat (first | (with_reducible first | exact HB.out | apply below_alloc | apply pw_below_drewN | apply below_drew1) | exact HB.out)) hb); clear HB; have HB := n0_; clear n0_; (try clear hb); (try clear hb2); (try clear hk); (try clear hi)))
                              have hww := (show w.cell? (ad613.add (x7_2).toNat) = some (.int .i64 (rd l0 x7_2)) from HW620.out)
                              go_cut [8] (fun v8 wc => v8 = .int .i64 (rd t623 0) ∧ Aside0 (Below w.heap.size w wc))
                              case first =>
                                have qi_ : (0 < t623.length) = True := eq_true (by first | exact of_decide_eq_true c7b1 | exact of_decide_eq_true c19b1 | (simpa using ‹_›))
                                have hcur := (HB.out.cell (World.block_lt_of_cell? w _ hww)).trans hww
                                go_region_with (first
                                  | (go_at_call 52; with_reducible refine (woggleref01_Members.calls k2 (Go.bits .andNot .i64 (rd l0 x7_2) (ji17)) t623 _ A18.out).mono ?_; rintro e w5 ⟨v5, rfl, ho0, hb⟩; have HB5 := Aside0.mk (below_step (by repeat (first | (with_reducible first | exact HB.out | apply pw_below_drewN | apply below_drew1) | exact HB.out)) hb : Below w.heap.size w w5); have e0 := (HB5.out.cell (World.block_lt_of_cell? w _ hww)).trans hww; obtain ⟨Ao5, co5, eo5⟩ := Kd.R_slice ho0; subst eo5; obtain ⟨ad5, e5, hx5⟩ := Kd.at_int (Kd.R_reads' ho0).2.2 0 (by decide) (by first | assumption | omega | exact of_decide_eq_true c7b0 | exact of_decide_eq_true c19b0); cases e5; (try rw [show ((0 : Int)).toNat = 0 from rfl] at hx5); (try rw [Addr.add_zero'] at hx5); clear hb ho0))
                                all_goals
                                  go_wp2
                                  go_meet
                                  case rel => exact ⟨by first | rfl | (simp; done), ⟨by repeat (first | (with_reducible first | exact HB5.out | exact HB.out | apply below_alloc | apply pw_below_drewN | apply below_drew1) | exact HB5.out | exact HB.out)⟩⟩
                              case rest =>
                                obtain ⟨rfl, HB⟩ := hcut
                                try go_wp2
                                go_roundg k2
                                case measure => have := HK1.out; have := HK2.out; omega
                                case rel => exact ⟨(x7_2), (rd t623 0), (by first | rfl | (simp; done) | (simp [*]; done)), (by first | rfl | (simp; done) | (simp [*]; done)), H', ⟨by have := HK1.out; have := HK2.out; omega⟩, ⟨by repeat (first | (with_reducible first | exact HB.out | apply below_alloc | apply pw_below_drewN | apply below_drew1) | exact HB.out)⟩⟩
                            · rw [if_neg c19] at H
                              exact absurd H (by simp)
                          · rw [if_neg c16] at H
                            exact absurd H (by simp)
                        · rw [if_neg c15] at H
                          have c15b0 : (t621 == 2) = false := beq_eq_false_iff_ne.mpr c15
                          have c15b1 : (t621 != 2) = true := bne_iff_ne.mpr c15
                          have c24b0 := eq_true (of_decide_eq_true (by first | (with_reducible assumption) | assumption) : 0 ≤ x7_2)
                          obtain ⟨ji25, hji25⟩ : ∃ j_ : Int, (shl .i64 1 x7_2) = j_ := ⟨_, rfl⟩
                          replace H : (woggleref07_Slater.l0 k2 l0 (wrap64 (x3_1 + 1)) (Go.bits .or .i64 x4_1 (ji25)) (wrap64 (x5_1 + 1))) = some r := by first | (rw [hji25] at H; exact H) | (simp only [hji25] at H ⊢; exact H)
                          (try rw [hji25] at A14)
                          have hji25_ : (IntKind.i64.wrap (1 * 2 ^ min x7_2.toNat 64)) = ji25 := hji25
                          have hji25z : x7_2 ≤ 64 → (IntKind.i64.wrap (1 * 2 ^ x7_2.toNat)) = ji25 := shl_small hji25
                          have hji25u : (IntKind.i64.wrap (2 ^ min x7_2.toNat 64)) = ji25 := by have h_ := hji25_; rw [Int.one_mul] at h_; exact h_
                          have hji25v : x7_2 ≤ 64 → (IntKind.i64.wrap (2 ^ x7_2.toNat)) = ji25 := fun hle_ => by have h_ := hji25z hle_; rw [Int.one_mul] at h_; exact h_
                          have hji25y : (wrap64 (1 * 2 ^ min x7_2.toNat 64)) = ji25 := (i64_w _).symm.trans hji25_
                          have hji25x : x7_2 ≤ 64 → (wrap64 (1 * 2 ^ x7_2.toNat)) = ji25 := fun h_ => (i64_w _).symm.trans (hji25z h_)
                          have H' := Aside0.mk H
                          clear H
                          have p620 : 0 ≤ (x7_2 : Int) := of_decide_eq_true (by first | (with_reducible assumption) | assumption)
                          have q620 : x7_2 < (l0.length : Int) := of_decide_eq_true (by first | (with_reducible assumption) | assumption)
                          obtain ⟨ad620, e620, hx620_0⟩ := Kd.at_int HR0.out x7_2 p620 q620
                          obtain rfl : ad613 = ad620 := (by injection e620)
                          replace hx620_0 := (HB.out.cell (World.block_lt_of_cell? w _ hx620_0)).trans hx620_0
                          replace p620 := eq_true p620
                          replace q620 := eq_true q620
                          go_wp2_with (first | ((with_reducible refine gate_callee (f := 27) rfl ?_); refine goesL_ (some 35) rfl rfl Tryd.func27 (by kernel_rfl) rfl #[.int .i64 (rd l0 x7_2)] rfl (by (try simp only [List.map_toArray, List.map_cons, List.map_nil]); first | done | rfl | (simp only [List.length_drop, List.length_take]; rfl)) ?_; (with_reducible refine (woggleref06_Size.calls k2 (rd l0 x7_2) t621 _ A14.out).mono ?_); rintro e w26 ⟨rfl, hb⟩; refine ⟨_, rfl, ?_⟩; have n0_ := Aside0.mk (below_step (by repeat (first | (with_reducible first | exact HB.out | apply below_alloc | apply pw_below_drewN | apply below_drew1) | exact HB.out)) hb); clear HB; have HB := n0_; clear n0_; (try clear hb); (try clear hb2); (try clear hk); (try clear hi)))
                          go_roundg k2
                          case measure => have := HK1.out; have := HK2.out; omega
                          case rel => exact ⟨((wrap64 (x3_1 + 1))), (Go.bits .or .i64 x4_1 (ji25)), (wrap64 (x5_1 + 1)), (by first | rfl | (simp; done) | (simp [*]; done)), (by first | rfl | (simp; done) | (simp only [← hji25] <;> (first | rfl | simp)) | (simp [*]; done)), (by first | rfl | (simp; done) | (simp [*]; done)), H', ⟨by have := HK1.out; have := HK2.out; omega⟩, ⟨by repeat (first | (with_reducible first | exact HB.out | apply below_alloc | apply pw_below_drewN | apply below_drew1) | exact HB.out)⟩⟩
                      · rw [if_neg c13] at H
                        exact absurd H (by simp)
                    · rw [if_neg c12] at H
                      exact absurd H (by simp)
            · rw [if_neg c7] at H
              exact absurd H (by simp)
          · rw [if_neg c5] at H
            have c5b0 : (t614 == 1) = false := beq_eq_false_iff_ne.mpr c5
            have c5b1 : (t614 != 1) = true := bne_iff_ne.mpr c5
            have H' := Aside0.mk H
            clear H
            have p613 : 0 ≤ (x5_1 : Int) := of_decide_eq_true (by first | (with_reducible assumption) | assumption)
            have q613 : x5_1 < (l0.length : Int) := of_decide_eq_true (by first | (with_reducible assumption) | assumption)
            obtain ⟨ad613, e613, hx613_0⟩ := Kd.at_int HR0.out x5_1 p613 q613
            cases e613
            replace hx613_0 := (HB.out.cell (World.block_lt_of_cell? w _ hx613_0)).trans hx613_0
            replace p613 := eq_true p613
            replace q613 := eq_true q613
            go_wp2_with (first | ((with_reducible refine gate_callee (f := 27) rfl ?_); refine goesL_ (some 19) rfl rfl Tryd.func27 (by kernel_rfl) rfl #[.int .i64 (rd l0 x5_1)] rfl (by (try simp only [List.map_toArray, List.map_cons, List.map_nil]); first | done | rfl | (simp only [List.length_drop, List.length_take]; rfl)) ?_; (with_reducible refine (woggleref06_Size.calls k1 (rd l0 x5_1) t614 _ A4.out).mono ?_); rintro e w27 ⟨rfl, hb⟩; refine ⟨_, rfl, ?_⟩; have n0_ := Aside0.mk (below_step (by repeat (first | (with_reducible first | exact HB.out | apply below_alloc | apply pw_below_drewN | apply below_drew1) | exact HB.out)) hb); clear HB; have HB := n0_; clear n0_; (try clear hb); (try clear hb2); (try clear hk); (try clear hi)))
            go_roundg k1
            case measure => have := HK1.out; omega
            case rel => exact ⟨(x3_1), (x4_1), (wrap64 (x5_1 + 1)), (by first | rfl | (simp; done) | (simp [*]; done)), (by first | rfl | (simp; done) | (simp [*]; done)), (by first | rfl | (simp; done) | (simp [*]; done)), H', ⟨by have := HK1.out; omega⟩, ⟨by repeat (first | (with_reducible first | exact HB.out | apply below_alloc | apply pw_below_drewN | apply below_drew1) | exact HB.out)⟩⟩
        · rw [if_neg c3] at H
          exact absurd H (by simp)
      · rw [if_neg c2] at H
        have c2b0 : decide (x5_1 < (l0.length : Int)) = false := decide_eq_false c2
        clear c2
        replace H := Option.bind_eq_some_iff.mp H
        obtain ⟨t612, A280, H⟩ := H
        replace H : (some (wrap64 (x3_1 - t612))) = some r := H
        have A28 := Aside0.mk A280
        clear A280
        obtain rfl := Option.some.inj H
        go_wp2_with (first | ((with_reducible refine gate_callee (f := 27) rfl ?_); refine goesL_ (some 55) rfl rfl Tryd.func27 (by kernel_rfl) rfl #[.int .i64 x4_1] rfl (by (try simp only [List.map_toArray, List.map_cons, List.map_nil]); first | done | rfl | (simp only [List.length_drop, List.length_take]; rfl)) ?_; (with_reducible refine (woggleref06_Size.calls k1 x4_1 t612 _ A28.out).mono ?_); rintro e w29 ⟨rfl, hb⟩; refine ⟨_, rfl, ?_⟩; have n0_ := Aside0.mk (below_step (by repeat (first | (with_reducible first | exact HB.out | apply below_alloc | apply pw_below_drewN | apply below_drew1) | exact HB.out)) hb); clear HB; have HB := n0_; clear n0_; (try clear hb); (try clear hb2); (try clear hk); (try clear hi)))
        go_ret
        exact ⟨by first | rfl | (simp [errW_none, errW_some] <;> rfl) | (simp [*, errW_none, errW_some] <;> rfl), by repeat (first | (with_reducible first | exact HB.out | apply below_alloc | apply pw_below_drewN | apply below_drew1) | exact HB.out)⟩

end Go.Proofs.YtbeimdngghedjaaDoor.P
