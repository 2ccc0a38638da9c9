-- written by a program of this session
import Derived.Test.YtgjmfehdjbepiaaPK
import Derived.Test.YtgjmfehdjbepiaaML1
namespace Go.Proofs.Ytgjmfehdjbepiaa.P
open Go.RowKit Go.Proofs.YtgjmfehdjbepiaaW.PrintWords Go.Proofs.YtgjmfehdjbepiaaW.PrintLast Go.Proofs.YtgjmfehdjbepiaaW.PrintMore
attribute [local go_sem] max2_int min2_int max_two min_two max_three min_three max_four min_four   -- for this text's walks alone
set_option linter.unusedVariables false
set_option linter.unusedSimpArgs false

/-! ### hat_game_tables: function 81 -/
def hat_game_tables.l0 : Nat → List (S103) → List (List Int) → Int → Int → Option (Bool)
  | 0, _, _, _, _ => none
  | k + 1, x0, x14, x15, x16 => if x16 < x15 then (if 0 ≤ x16 then (if x16 < (x14.length : Int) then (if 0 < (x0.length : Int) then (if x16 < (((rd_T103 x0 0).f2).length : Int) then ((hat_power.f k ((rd_T103 x0 0).f1) ((rd_L2 ((rd_T103 x0 0).f2) x16).length : Int)).bind fun t532 => ((hat_valid.f 0 (rd_L2 x14 x16) t532 ((rd_T103 x0 0).f1)).bind fun t534 => (if t534 = true then (hat_game_tables.l0 k x0 x14 x15 (wrap64 (x16 + 1))) else (some false)))) else (none)) else (none)) else (none)) else (none)) else (some true)
def hat_game_tables.f (k : Nat) (l770 : List (S103)) (l1 : List (List Int)) : Option (Bool) := if 0 < (l770.length : Int) then (if (l1.length : Int) = ((rd_T103 l770 0).f0) then (hat_game_tables.l0 k l770 l1 (l1.length : Int) 0) else (some false)) else (none)
theorem hat_game_tables.mono_l : ∀ k, (∀ y0 y1 y2 y3, LeO (hat_game_tables.l0 k y0 y1 y2 y3) (hat_game_tables.l0 (k + 1) y0 y1 y2 y3))
  | 0 => fun _ _ _ _ r h => by simp [hat_game_tables.l0] at h
  | k + 1 => by
    have ih0 := hat_game_tables.mono_l k
    · intro y0 y1 y2 y3
      unfold hat_game_tables.l0
      repeat' first
      | (with_reducible exact ih0 _ _ _ _)
      | (with_reducible exact hat_power.mono _ _ _)
      | (with_reducible exact LeO.refl _)
      | (with_reducible exact LeO.none _)
      | (with_reducible refine LeO.ite ?_ ?_)
      | (with_reducible refine LeO.bind ?_ (fun _ => ?_))
      | exact ih0 _ _ _ _
      | exact hat_power.mono _ _ _
      | exact LeO.none _
      | refine LeO.ite ?_ ?_
      | refine LeO.bind ?_ (fun _ => ?_)
theorem hat_game_tables.mono : ∀ a0 a1 k, LeO (hat_game_tables.f k a0 a1) (hat_game_tables.f (k + 1) a0 a1) := by
  intro a0 a1 k
  have ih0 := hat_game_tables.mono_l k
  unfold hat_game_tables.f
  repeat' first
      | (with_reducible exact ih0 _ _ _ _)
      | (with_reducible exact hat_power.mono _ _ _)
      | (with_reducible exact LeO.refl _)
      | (with_reducible exact LeO.none _)
      | (with_reducible refine LeO.ite ?_ ?_)
      | (with_reducible refine LeO.bind ?_ (fun _ => ?_))
      | exact ih0 _ _ _ _
      | exact hat_power.mono _ _ _
      | exact LeO.none _
      | refine LeO.ite ?_ ?_
      | refine LeO.bind ?_ (fun _ => ?_)
def hat_game_tables.T6 : Bool × List (List Nat × List Nat) := (true, [([], []), ([], []), ([1], [1]), ([2], [2]), ([3], [3]), ([], []), ([5], [5]), ([6], [6]), ([7], [7]), ([], []), ([8, 9], [8, 9]), ([10], [10]), ([11], [11]), ([4, 12], [4, 12]), ([], []), ([14], [14]), ([15], [15]), ([16], [16]), ([0, 13, 17, 13], [0, 13, 17]), ([18], [18])])
def hat_game_tables.B6 : List Nat := [0, 0, 2, 6, 14, 0, 32, 96, 224, 0, 992, 2016, 4064, 8190, 0, 16384, 49152, 114688, 262143, 524287]
theorem hat_game_tables.tab6 : rtab .any (opsOf Try.f81 6) = hat_game_tables.T6 := by kernel_rfl
theorem hat_game_tables.bits6 : waitsOk hat_game_tables.T6.2 hat_game_tables.B6 = true := by kernel_rfl
set_option maxHeartbeats 8000000 in
set_option maxRecDepth 100000 in
theorem hat_game_tables.calls (k : Nat) (A770 : Option Addr) (c770 : Nat) (l770 : List (S103)) (A1 : Option Addr) (c1 : Nat) (l1 : List (List Int)) (r : Bool) (w : World) (hr770 : Kd.C k103 w A770 l770.length l770) (hc770 : l770.length ≤ c770) (hr1 : Kd.C (Kd.slice 3 (Kd.int .i64)) w A1 l1.length l1) (hc1 : l1.length ≤ c1) (h : hat_game_tables.f k l770 l1 = some r) :
    Calls Try.prog 81 #[.pointer A770, .slice A1 l1.length c1] w fun e w' => e = .returned (.bool r) ∧ Below w.heap.size w w' := by
  have HR770 := Aside0.mk hr770
  have HC770 := Aside0.mk hc770
  clear hr770 hc770
  have HR1 := Aside0.mk hr1
  have HC1 := Aside0.mk hc1
  clear hr1 hc1
  have HB := Aside0.mk (Below.refl w.heap.size w)
  have H : (if 0 < (l770.length : Int) then (if (l1.length : Int) = ((rd_T103 l770 0).f0) then (hat_game_tables.l0 k l770 l1 (l1.length : Int) 0) else (some false)) else (none)) = some r := h
  clear h
  by_cases c3 : 0 < (l770.length : Int)
  · rw [if_pos c3] at H
    have c3b0 : decide (0 < (l770.length : Int)) = true := decide_eq_true c3
    have c3b1 : decide (0 < l770.length) = true := decide_eq_true (by omega)
    clear c3
    by_cases c4 : (l1.length : Int) = ((rd_T103 l770 0).f0)
    · rw [if_pos c4] at H
      have c4b0 : ((l1.length : Int) == ((rd_T103 l770 0).f0)) = true := beq_iff_eq.mpr c4
      have c4b1 : ((l1.length : Int) != ((rd_T103 l770 0).f0)) = false := bne_eq_false_iff_eq.mpr c4
      clear c4
      have H' := Aside0.mk H
      clear H
      have p527 : 0 ≤ (0 : Int) := (by omega)
      have q527 : 0 < (l770.length : Int) := of_decide_eq_true (by first | (with_reducible assumption) | assumption)
      obtain ⟨ad527, A527_2, c527_2, e527, hx527_0, hx527_1, hx527_2, hl527_2, hi527_2⟩ := at_T103 HR770.out 0 p527 q527
      cases e527
      (try simp only [show (0 : Int).toNat = 0 from rfl, Nat.zero_mul, rp_add0] at hx527_0)
      (try simp only [show (0 : Int).toNat = 0 from rfl, Nat.zero_mul, rp_add0] at hx527_1)
      (try simp only [show (0 : Int).toNat = 0 from rfl, Nat.zero_mul, rp_add0] at hx527_2)
      have qi527 : (0 < l770.length) = True := eq_true (by omega)
      (try rw [show ((0 : Int)).toNat = 0 from rfl] at hx527_0)
      (try rw [show 0 * 3 = 0 from rfl] at hx527_0)
      (try rw [Addr.add_zero'] at hx527_0)
      (try rw [show ((0 : Int)).toNat = 0 from rfl] at hx527_1)
      (try rw [show 0 * 3 = 0 from rfl] at hx527_1)
      (try rw [Addr.add_zero'] at hx527_1)
      (try rw [show ((0 : Int)).toNat = 0 from rfl] at hx527_2)
      (try rw [show 0 * 3 = 0 from rfl] at hx527_2)
      (try rw [Addr.add_zero'] at hx527_2)
      have HR527_2 := Aside0.mk hi527_2
      have HC527_2 := Aside0.mk hl527_2
      clear hi527_2 hl527_2
      replace p527 := eq_true p527
      replace q527 := eq_true q527
      go_enter Try.func81, Try.ntmps81
      go_wp2
      go_loopg [16] k (fun kq v16 w' => ∃ (x16_1 : Int), v16 = .int .i64 x16_1 ∧ Aside0 (hat_game_tables.l0 kq l770 l1 (l1.length : Int) x16_1 = some r) ∧ Aside0 (kq ≤ k) ∧ Aside0 (Below w.heap.size w w'))
      case atStart => exact ⟨(0), (by first | rfl | (simp; done) | (simp [*]; done)), H', ⟨Nat.le_refl _⟩, ⟨by repeat (first | (with_reducible first | exact HB.out | apply below_alloc | apply pw_below_drewN | apply below_drew1) | exact HB.out)⟩⟩
      case round =>
        clear H'
        try clear c1
        try clear p2
        try clear c3
        try clear c3b0
        try clear c3b1
        try clear c4
        try clear c4b0
        try clear c4b1
        try clear hx527_0
        try clear hx527_1
        try clear hx527_2
        try clear p527
        try clear q527
        obtain ⟨x16_1, rfl, HA, HK1, HB⟩ := hrel
        cases gk with
        | zero => exact absurd HA.out (by simp [hat_game_tables.l0])
        | succ k1 =>
          have H := HA.out
          clear HA
          simp only [hat_game_tables.l0] at H
          by_cases c5 : x16_1 < (l1.length : Int)
          · rw [if_pos c5] at H
            have c5b0 : decide (x16_1 < (l1.length : Int)) = true := decide_eq_true c5
            clear c5
            by_cases c6 : 0 ≤ x16_1
            · rw [if_pos c6] at H
              have c6b0 : decide (0 ≤ x16_1) = true := decide_eq_true c6
              clear c6
              by_cases c7 : x16_1 < (l1.length : Int)
              · rw [if_pos c7] at H
                have c7b0 : decide (x16_1 < (l1.length : Int)) = true := decide_eq_true c7
                clear c7
                by_cases c8 : 0 < (l770.length : Int)
                · rw [if_pos c8] at H
                  have c8b0 : decide (0 < (l770.length : Int)) = true := decide_eq_true c8
                  have c8b1 : decide (0 < l770.length) = true := decide_eq_true (by omega)
                  clear c8
                  by_cases c9 : x16_1 < (((rd_T103 l770 0).f2).length : Int)
                  · rw [if_pos c9] at H
                    have c9b0 : decide (x16_1 < (((rd_T103 l770 0).f2).length : Int)) = true := decide_eq_true c9
                    clear c9
                    replace H := Option.bind_eq_some_iff.mp H
                    obtain ⟨t532, A100, H⟩ := H
                    replace H : ((hat_valid.f 0 (rd_L2 l1 x16_1) t532 ((rd_T103 l770 0).f1)).bind fun t534 => (if t534 = true then (hat_game_tables.l0 k1 l770 l1 (l1.length : Int) (wrap64 (x16_1 + 1))) else (some false))) = some r := H
                    have A10 := Aside0.mk A100
                    clear A100
                    replace H := Option.bind_eq_some_iff.mp H
                    obtain ⟨t534, A110, H⟩ := H
                    replace H : (if t534 = true then (hat_game_tables.l0 k1 l770 l1 (l1.length : Int) (wrap64 (x16_1 + 1))) else (some false)) = some r := H
                    have A11 := Aside0.mk A110
                    clear A110
                    by_cases c12 : t534 = true
                    · subst c12
                      have H1 : (hat_game_tables.l0 k1 l770 l1 (l1.length : Int) (wrap64 (x16_1 + 1))) = some r := by rw [if_pos rfl] at H; exact H
                      clear H
                      have H := H1
                      clear H1
                      have H' := Aside0.mk H
                      clear H
                      have p528 : 0 ≤ (x16_1 : Int) := of_decide_eq_true (by first | (with_reducible assumption) | assumption)
                      have q528 : x16_1 < (l1.length : Int) := of_decide_eq_true (by first | (with_reducible assumption) | assumption)
                      obtain ⟨ad528, A528_0, c528_0, e528, hx528_0, hl528_0, hi528_0⟩ := at_L2 HR1.out x16_1 p528 q528
                      cases e528
                      replace hx528_0 := (HB.out.cell (World.block_lt_of_cell? w _ hx528_0)).trans hx528_0
                      have HR528_0 := Aside0.mk hi528_0
                      have HC528_0 := Aside0.mk hl528_0
                      clear hi528_0 hl528_0
                      replace p528 := eq_true p528
                      replace q528 := eq_true q528
                      try go_wp2
                      have n0_ := Aside0.mk (below_drew1 HB.out)
                      clear HB
                      have HB := n0_
                      clear n0_
                      have p529 : 0 ≤ (0 : Int) := (by omega)
                      have q529 : 0 < (l770.length : Int) := of_decide_eq_true (by first | (with_reducible assumption) | assumption)
                      obtain ⟨ad529, A529_2, c529_2, e529, hx529_0, hx529_1, hx529_2, hl529_2, hi529_2⟩ := at_T103 HR770.out 0 p529 q529
                      have hw529_2 := hx529_2
                      (try rw [show ((0 : Int)).toNat = 0 from rfl] at hw529_2)
                      (try rw [show 0 * 3 = 0 from rfl] at hw529_2)
                      (try rw [Addr.add_zero'] at hw529_2)
                      have hw529_1 := hx529_1
                      (try rw [show ((0 : Int)).toNat = 0 from rfl] at hw529_1)
                      (try rw [show 0 * 3 = 0 from rfl] at hw529_1)
                      (try rw [Addr.add_zero'] at hw529_1)
                      have hw529_0 := hx529_0
                      (try rw [show ((0 : Int)).toNat = 0 from rfl] at hw529_0)
                      (try rw [show 0 * 3 = 0 from rfl] at hw529_0)
                      (try rw [Addr.add_zero'] at hw529_0)
                      obtain rfl : ad527 = ad529 := (by injection e529)
                      (try simp only [show (0 : Int).toNat = 0 from rfl, Nat.zero_mul, rp_add0] at hx529_0)
                      (try simp only [show (0 : Int).toNat = 0 from rfl, Nat.zero_mul, rp_add0] at hx529_1)
                      (try simp only [show (0 : Int).toNat = 0 from rfl, Nat.zero_mul, rp_add0] at hx529_2)
                      have qi529 : (0 < l770.length) = True := eq_true (by omega)
                      (try rw [show ((0 : Int)).toNat = 0 from rfl] at hx529_0)
                      (try rw [show 0 * 3 = 0 from rfl] at hx529_0)
                      (try rw [Addr.add_zero'] at hx529_0)
                      (try rw [show ((0 : Int)).toNat = 0 from rfl] at hx529_1)
                      (try rw [show 0 * 3 = 0 from rfl] at hx529_1)
                      (try rw [Addr.add_zero'] at hx529_1)
                      (try rw [show ((0 : Int)).toNat = 0 from rfl] at hx529_2)
                      (try rw [show 0 * 3 = 0 from rfl] at hx529_2)
                      (try rw [Addr.add_zero'] at hx529_2)
                      replace hx529_0 := (HB.out.cell (World.block_lt_of_cell? w _ hx529_0)).trans hx529_0
                      replace hx529_1 := (HB.out.cell (World.block_lt_of_cell? w _ hx529_1)).trans hx529_1
                      replace hx529_2 := (HB.out.cell (World.block_lt_of_cell? w _ hx529_2)).trans hx529_2
                      have HR529_2 := Aside0.mk hi529_2
                      have HC529_2 := Aside0.mk hl529_2
                      clear hi529_2 hl529_2
                      replace p529 := eq_true p529
                      replace q529 := eq_true q529
                      have p530 : 0 ≤ (0 : Int) := (by omega)
                      have q530 : 0 < (l770.length : Int) := of_decide_eq_true (by first | (with_reducible assumption) | assumption)
                      obtain ⟨ad530, A530_2, c530_2, e530, hx530_0, hx530_1, hx530_2, hl530_2, hi530_2⟩ := at_T103 HR770.out 0 p530 q530
                      have hw530_2 := hx530_2
                      (try rw [show ((0 : Int)).toNat = 0 from rfl] at hw530_2)
                      (try rw [show 0 * 3 = 0 from rfl] at hw530_2)
                      (try rw [Addr.add_zero'] at hw530_2)
                      have hw530_1 := hx530_1
                      (try rw [show ((0 : Int)).toNat = 0 from rfl] at hw530_1)
                      (try rw [show 0 * 3 = 0 from rfl] at hw530_1)
                      (try rw [Addr.add_zero'] at hw530_1)
                      have hw530_0 := hx530_0
                      (try rw [show ((0 : Int)).toNat = 0 from rfl] at hw530_0)
                      (try rw [show 0 * 3 = 0 from rfl] at hw530_0)
                      (try rw [Addr.add_zero'] at hw530_0)
                      obtain rfl : ad527 = ad530 := (by injection e530)
                      (try simp only [show (0 : Int).toNat = 0 from rfl, Nat.zero_mul, rp_add0] at hx530_0)
                      (try simp only [show (0 : Int).toNat = 0 from rfl, Nat.zero_mul, rp_add0] at hx530_1)
                      (try simp only [show (0 : Int).toNat = 0 from rfl, Nat.zero_mul, rp_add0] at hx530_2)
                      have qi530 : (0 < l770.length) = True := eq_true (by omega)
                      (try rw [show ((0 : Int)).toNat = 0 from rfl] at hx530_0)
                      (try rw [show 0 * 3 = 0 from rfl] at hx530_0)
                      (try rw [Addr.add_zero'] at hx530_0)
                      (try rw [show ((0 : Int)).toNat = 0 from rfl] at hx530_1)
                      (try rw [show 0 * 3 = 0 from rfl] at hx530_1)
                      (try rw [Addr.add_zero'] at hx530_1)
                      (try rw [show ((0 : Int)).toNat = 0 from rfl] at hx530_2)
                      (try rw [show 0 * 3 = 0 from rfl] at hx530_2)
                      (try rw [Addr.add_zero'] at hx530_2)
                      replace hx530_0 := (HB.out.cell (World.block_lt_of_cell? w _ hx530_0)).trans hx530_0
                      replace hx530_1 := (HB.out.cell (World.block_lt_of_cell? w _ hx530_1)).trans hx530_1
                      replace hx530_2 := (HB.out.cell (World.block_lt_of_cell? w _ hx530_2)).trans hx530_2
                      have HR530_2 := Aside0.mk hi530_2
                      have HC530_2 := Aside0.mk hl530_2
                      clear hi530_2 hl530_2
                      replace p530 := eq_true p530
                      replace q530 := eq_true q530
                      have ea_ := Option.some.inj (hx529_2.symm.trans hx530_2)
                      injection ea_ with ea_ en_ ec_
                      subst ea_
                      subst ec_
                      clear en_
                      have p531 : 0 ≤ (x16_1 : Int) := of_decide_eq_true (by first | (with_reducible assumption) | assumption)
                      have q531 : x16_1 < (((rd_T103 l770 0).f2).length : Int) := of_decide_eq_true (by first | (with_reducible assumption) | assumption)
                      obtain ⟨ad531, A531_0, c531_0, e531, hx531_0, hl531_0, hi531_0⟩ := at_L2 HR530_2.out x16_1 p531 q531
                      have hw531_0 := hx531_0
                      cases e531
                      replace hx531_0 := (HB.out.cell (World.block_lt_of_cell? w _ hx531_0)).trans hx531_0
                      have HR531_0 := Aside0.mk hi531_0
                      have HC531_0 := Aside0.mk hl531_0
                      clear hi531_0 hl531_0
                      replace p531 := eq_true p531
                      replace q531 := eq_true q531
                      have p533 : 0 ≤ (0 : Int) := (by omega)
                      have q533 : 0 < (l770.length : Int) := of_decide_eq_true (by first | (with_reducible assumption) | assumption)
                      obtain ⟨ad533, A533_2, c533_2, e533, hx533_0, hx533_1, hx533_2, hl533_2, hi533_2⟩ := at_T103 HR770.out 0 p533 q533
                      have hw533_2 := hx533_2
                      (try rw [show ((0 : Int)).toNat = 0 from rfl] at hw533_2)
                      (try rw [show 0 * 3 = 0 from rfl] at hw533_2)
                      (try rw [Addr.add_zero'] at hw533_2)
                      have hw533_1 := hx533_1
                      (try rw [show ((0 : Int)).toNat = 0 from rfl] at hw533_1)
                      (try rw [show 0 * 3 = 0 from rfl] at hw533_1)
                      (try rw [Addr.add_zero'] at hw533_1)
                      have hw533_0 := hx533_0
                      (try rw [show ((0 : Int)).toNat = 0 from rfl] at hw533_0)
                      (try rw [show 0 * 3 = 0 from rfl] at hw533_0)
                      (try rw [Addr.add_zero'] at hw533_0)
                      obtain rfl : ad527 = ad533 := (by injection e533)
                      (try simp only [show (0 : Int).toNat = 0 from rfl, Nat.zero_mul, rp_add0] at hx533_0)
                      (try simp only [show (0 : Int).toNat = 0 from rfl, Nat.zero_mul, rp_add0] at hx533_1)
                      (try simp only [show (0 : Int).toNat = 0 from rfl, Nat.zero_mul, rp_add0] at hx533_2)
                      have qi533 : (0 < l770.length) = True := eq_true (by omega)
                      (try rw [show ((0 : Int)).toNat = 0 from rfl] at hx533_0)
                      (try rw [show 0 * 3 = 0 from rfl] at hx533_0)
                      (try rw [Addr.add_zero'] at hx533_0)
                      (try rw [show ((0 : Int)).toNat = 0 from rfl] at hx533_1)
                      (try rw [show 0 * 3 = 0 from rfl] at hx533_1)
                      (try rw [Addr.add_zero'] at hx533_1)
                      (try rw [show ((0 : Int)).toNat = 0 from rfl] at hx533_2)
                      (try rw [show 0 * 3 = 0 from rfl] at hx533_2)
                      (try rw [Addr.add_zero'] at hx533_2)
                      replace hx533_0 := (HB.out.cell (World.block_lt_of_cell? w _ hx533_0)).trans hx533_0
                      replace hx533_1 := (HB.out.cell (World.block_lt_of_cell? w _ hx533_1)).trans hx533_1
                      replace hx533_2 := (HB.out.cell (World.block_lt_of_cell? w _ hx533_2)).trans hx533_2
                      have HR533_2 := Aside0.mk hi533_2
                      have HC533_2 := Aside0.mk hl533_2
                      clear hi533_2 hl533_2
                      replace p533 := eq_true p533
                      replace q533 := eq_true q533
                      have ea_ := Option.some.inj (hx529_2.symm.trans hx533_2)
                      injection ea_ with ea_ en_ ec_
                      subst ea_
                      subst ec_
                      clear en_
                      refine start_ (n := 20) (S := fun w' => w'.cell? ad527 = some (.int .i64 ((rd_T103 l770 0).f0)) ∧ w'.cell? ⟨ad527.block, ad527.off + 1, none⟩ = some (.int .i64 ((rd_T103 l770 0).f1)) ∧ w'.cell? ⟨ad527.block, ad527.off + 2, none⟩ = some (.slice (some ad531) ((rd_T103 l770 0).f2).length c529_2) ∧ w'.cell? ad527 = some (.int .i64 ((rd_T103 l770 0).f0)) ∧ w'.cell? ⟨ad527.block, ad527.off + 1, none⟩ = some (.int .i64 ((rd_T103 l770 0).f1)) ∧ w'.cell? ⟨ad527.block, ad527.off + 2, none⟩ = some (.slice (some ad531) ((rd_T103 l770 0).f2).length c529_2) ∧ w'.cell? (ad531.add (x16_1).toNat) = some (.slice A531_0 (rd_L2 ((rd_T103 l770 0).f2) x16_1).length c531_0) ∧ w'.cell? ad527 = some (.int .i64 ((rd_T103 l770 0).f0)) ∧ w'.cell? ⟨ad527.block, ad527.off + 1, none⟩ = some (.int .i64 ((rd_T103 l770 0).f1)) ∧ w'.cell? ⟨ad527.block, ad527.off + 2, none⟩ = some (.slice (some ad531) ((rd_T103 l770 0).f2).length c529_2)) (ds := []) #[false, false, false, false, false, false, false, false, false, false, false, false, false, false, false, false, false, false, false, false] (by kernel_rfl) rfl rfl ⟨((HB.out.cell (World.block_lt_of_cell? w _ hw529_0)).trans hw529_0), ((HB.out.cell (World.block_lt_of_cell? w _ hw529_1)).trans hw529_1), ((HB.out.cell (World.block_lt_of_cell? w _ hw529_2)).trans hw529_2), ((HB.out.cell (World.block_lt_of_cell? w _ hw530_0)).trans hw530_0), ((HB.out.cell (World.block_lt_of_cell? w _ hw530_1)).trans hw530_1), ((HB.out.cell (World.block_lt_of_cell? w _ hw530_2)).trans hw530_2), ((HB.out.cell (World.block_lt_of_cell? w _ hw531_0)).trans hw531_0), ((HB.out.cell (World.block_lt_of_cell? w _ hw533_0)).trans hw533_0), ((HB.out.cell (World.block_lt_of_cell? w _ hw533_1)).trans hw533_1), ((HB.out.cell (World.block_lt_of_cell? w _ hw533_2)).trans hw533_2)⟩ (fun hHeld => ?_); refine with_tabW hat_game_tables.tab6 hat_game_tables.bits6 (fun HT_ HW_ => ?_)
                      generalize wr.drew = w13 at HB HR529_2 HR530_2 HR531_0 HR533_2 hx529_0 hx529_1 hx529_2 hx530_0 hx530_1 hx530_2 hx531_0 hx533_0 hx533_1 hx533_2 hHeld ⊢
                      refine pure_ (i := 0) (N := some 21) (v := ?_) (a' := ?_) #[true, false, false, false, false, false, false, false, false, false, false, false, false, false, false, false, false, false, false, false] rfl rfl (any_of HT_.out (by kernel_rfl)) (fun _ _ _ h => h) (Or.inl ⟨by rfl, ?_⟩) ?_ ?_
                      rotate_left
                      · intro w'
                        go_simp
                        with_reducible rfl
                      rotate_left
                      · simp only [Act.put, List.setIfInBounds_toArray, List.set_cons_zero, List.set_cons_succ, i64_w, i32_w]
                        rfl
                      refine pure_ (i := 1) (N := some 22) (v := ?_) (a' := ?_) #[true, true, false, false, false, false, false, false, false, false, false, false, false, false, false, false, false, false, false, false] rfl rfl (any_of HT_.out (by kernel_rfl)) (fun _ _ _ h => h) (Or.inl ⟨by rfl, ?_⟩) ?_ ?_
                      rotate_left
                      · intro w'
                        go_simp
                        with_reducible rfl
                      rotate_left
                      · simp only [Act.put, List.setIfInBounds_toArray, List.set_cons_zero, List.set_cons_succ, i64_w, i32_w]
                        rfl
                      refine pure_ (i := 2) (N := some 23) (v := ?_) (a' := ?_) #[true, true, true, false, false, false, false, false, false, false, false, false, false, false, false, false, false, false, false, false] rfl rfl (any_of HT_.out (by kernel_rfl)) (fun _ _ _ h => h) (Or.inl ⟨by rfl, ?_⟩) ?_ ?_
                      rotate_left
                      · intro w'
                        go_simp
                        with_reducible rfl
                      rotate_left
                      · simp only [Act.put, List.setIfInBounds_toArray, List.set_cons_zero, List.set_cons_succ, i64_w, i32_w]
                        rfl
                      refine pure_ (i := 3) (N := some 24) (v := ?_) (a' := ?_) #[true, true, true, true, false, false, false, false, false, false, false, false, false, false, false, false, false, false, false, false] rfl rfl (any_of HT_.out (by kernel_rfl)) (fun _ _ _ h => h) (Or.inl ⟨by rfl, ?_⟩) ?_ ?_
                      rotate_left
                      · intro w'
                        go_simp
                        with_reducible rfl
                      rotate_left
                      · simp only [Act.put, List.setIfInBounds_toArray, List.set_cons_zero, List.set_cons_succ, i64_w, i32_w]
                        rfl
                      refine pure_ (i := 5) (N := some 26) (v := ?_) (a' := ?_) #[true, true, true, true, false, true, false, false, false, false, false, false, false, false, false, false, false, false, false, false] rfl rfl (any_of HT_.out (by kernel_rfl)) (fun _ _ _ h => h) (Or.inl ⟨by rfl, ?_⟩) ?_ ?_
                      rotate_left
                      · intro w'
                        go_simp
                        with_reducible rfl
                      rotate_left
                      · simp only [Act.put, List.setIfInBounds_toArray, List.set_cons_zero, List.set_cons_succ, i64_w, i32_w]
                        rfl
                      refine pure_ (i := 6) (N := some 27) (v := ?_) (a' := ?_) #[true, true, true, true, false, true, true, false, false, false, false, false, false, false, false, false, false, false, false, false] rfl rfl (any_of HT_.out (by kernel_rfl)) (fun _ _ _ h => h) (Or.inl ⟨by rfl, ?_⟩) ?_ ?_
                      rotate_left
                      · intro w'
                        go_simp
                        with_reducible rfl
                      rotate_left
                      · simp only [Act.put, List.setIfInBounds_toArray, List.set_cons_zero, List.set_cons_succ, i64_w, i32_w]
                        rfl
                      refine pure_ (i := 7) (N := some 28) (v := ?_) (a' := ?_) #[true, true, true, true, false, true, true, true, false, false, false, false, false, false, false, false, false, false, false, false] rfl rfl (any_of HT_.out (by kernel_rfl)) (fun _ _ _ h => h) (Or.inl ⟨by rfl, ?_⟩) ?_ ?_
                      rotate_left
                      · intro w'
                        go_simp
                        with_reducible rfl
                      rotate_left
                      · simp only [Act.put, List.setIfInBounds_toArray, List.set_cons_zero, List.set_cons_succ, i64_w, i32_w]
                        rfl
                      refine pure_ (i := 9) (N := some 30) (v := ?_) (a' := ?_) #[true, true, true, true, false, true, true, true, false, true, false, false, false, false, false, false, false, false, false, false] rfl rfl (any_of HT_.out (by kernel_rfl)) (fun _ _ _ h => h) (Or.inl ⟨by rfl, ?_⟩) ?_ ?_
                      rotate_left
                      · intro w'
                        go_simp
                        with_reducible rfl
                      rotate_left
                      · simp only [Act.put, List.setIfInBounds_toArray, List.set_cons_zero, List.set_cons_succ, i64_w, i32_w]
                        rfl
                      refine pure_ (i := 14) (N := some 35) (v := ?_) (a' := ?_) #[true, true, true, true, false, true, true, true, false, true, false, false, false, false, true, false, false, false, false, false] rfl rfl (any_of HT_.out (by kernel_rfl)) (fun _ _ _ h => h) (Or.inl ⟨by rfl, ?_⟩) ?_ ?_
                      rotate_left
                      · intro w'
                        go_simp
                        with_reducible rfl
                      rotate_left
                      · simp only [Act.put, List.setIfInBounds_toArray, List.set_cons_zero, List.set_cons_succ, i64_w, i32_w]
                        rfl
                      refine pure_ (i := 15) (N := some 36) (v := ?_) (a' := ?_) #[true, true, true, true, false, true, true, true, false, true, false, false, false, false, true, true, false, false, false, false] rfl rfl (any_of HT_.out (by kernel_rfl)) (fun _ _ _ h => h) (Or.inl ⟨by rfl, ?_⟩) ?_ ?_
                      rotate_left
                      · intro w'
                        go_simp
                        with_reducible rfl
                      rotate_left
                      · simp only [Act.put, List.setIfInBounds_toArray, List.set_cons_zero, List.set_cons_succ, i64_w, i32_w]
                        rfl
                      refine pure_ (i := 16) (N := some 37) (v := ?_) (a' := ?_) #[true, true, true, true, false, true, true, true, false, true, false, false, false, false, true, true, true, false, false, false] rfl rfl (any_of HT_.out (by kernel_rfl)) (fun _ _ _ h => h) (Or.inl ⟨by rfl, ?_⟩) ?_ ?_
                      rotate_left
                      · intro w'
                        go_simp
                        with_reducible rfl
                      rotate_left
                      · simp only [Act.put, List.setIfInBounds_toArray, List.set_cons_zero, List.set_cons_succ, i64_w, i32_w]
                        rfl
                      refine take_ (i := 4) (N := some 25) (v := ?_) (a' := ?_) #[true, true, true, true, true, true, true, true, false, true, false, false, false, false, true, true, true, false, false, false] rfl rfl (take_ofW HT_.out HW_.out (by kernel_rfl)) (fun _ _ _ h => h) (Or.inl ⟨by rfl, ?_⟩) hHeld ?_ ?_
                      rotate_left
                      · rintro w' ⟨s0, s1, s2, s3, s4, s5, s6, s7, s8, s9⟩
                        go_simp
                        with_reducible rfl
                      rotate_left
                      · simp only [Act.put, List.setIfInBounds_toArray, List.set_cons_zero, List.set_cons_succ, i64_w, i32_w]
                        rfl
                      refine take_ (i := 8) (N := some 29) (v := ?_) (a' := ?_) #[true, true, true, true, true, true, true, true, true, true, false, false, false, false, true, true, true, false, false, false] rfl rfl (take_ofW HT_.out HW_.out (by kernel_rfl)) (fun _ _ _ h => h) (Or.inl ⟨by rfl, ?_⟩) hHeld ?_ ?_
                      rotate_left
                      · rintro w' ⟨s0, s1, s2, s3, s4, s5, s6, s7, s8, s9⟩
                        go_simp
                        with_reducible rfl
                      rotate_left
                      · simp only [Act.put, List.setIfInBounds_toArray, List.set_cons_zero, List.set_cons_succ, i64_w, i32_w]
                        rfl
                      refine pure_ (i := 10) (N := some 31) (v := ?_) (a' := ?_) #[true, true, true, true, true, true, true, true, true, true, true, false, false, false, true, true, true, false, false, false] rfl rfl (any_of HT_.out (by kernel_rfl)) (fun _ _ _ h => h) (Or.inl ⟨by rfl, ?_⟩) ?_ ?_
                      rotate_left
                      · intro w'
                        go_simp
                        with_reducible rfl
                      rotate_left
                      · simp only [Act.put, List.setIfInBounds_toArray, List.set_cons_zero, List.set_cons_succ, i64_w, i32_w]
                        rfl
                      refine take_ (i := 11) (N := some 32) (v := ?_) (a' := ?_) #[true, true, true, true, true, true, true, true, true, true, true, true, false, false, true, true, true, false, false, false] rfl rfl (take_ofW HT_.out HW_.out (by kernel_rfl)) (fun _ _ _ h => h) (Or.inl ⟨by rfl, ?_⟩) hHeld ?_ ?_
                      rotate_left
                      · rintro w' ⟨s0, s1, s2, s3, s4, s5, s6, s7, s8, s9⟩
                        go_simp
                        with_reducible rfl
                      rotate_left
                      · simp only [Act.put, List.setIfInBounds_toArray, List.set_cons_zero, List.set_cons_succ, i64_w, i32_w]
                        rfl
                      refine pure_ (i := 12) (N := some 33) (v := ?_) (a' := ?_) #[true, true, true, true, true, true, true, true, true, true, true, true, true, false, true, true, true, false, false, false] rfl rfl (any_of HT_.out (by kernel_rfl)) (fun _ _ _ h => h) (Or.inl ⟨by rfl, ?_⟩) ?_ ?_
                      rotate_left
                      · intro w'
                        go_simp
                        with_reducible rfl
                      rotate_left
                      · simp only [Act.put, List.setIfInBounds_toArray, List.set_cons_zero, List.set_cons_succ, i64_w, i32_w]
                        rfl
                      refine take_ (i := 17) (N := some 38) (v := ?_) (a' := ?_) #[true, true, true, true, true, true, true, true, true, true, true, true, true, false, true, true, true, true, false, false] rfl rfl (take_ofW HT_.out HW_.out (by kernel_rfl)) (fun _ _ _ h => h) (Or.inl ⟨by rfl, ?_⟩) hHeld ?_ ?_
                      rotate_left
                      · rintro w' ⟨s0, s1, s2, s3, s4, s5, s6, s7, s8, s9⟩
                        go_simp
                        with_reducible rfl
                      rotate_left
                      · simp only [Act.put, List.setIfInBounds_toArray, List.set_cons_zero, List.set_cons_succ, i64_w, i32_w]
                        rfl
                      refine one_ (i := 13) (N := some 34) #[true, true, true, true, true, true, true, true, true, true, true, true, true, true, true, true, true, true, false, false] rfl rfl (one_of HT_.out (by kernel_rfl)) (by decide) (fun K hK => ?_)
                      refine goes_ Try.func61 (by kernel_rfl) rfl #[.int .i64 ((rd_T103 l770 0).f1), .int .i64 ((rd_L2 ((rd_T103 l770 0).f2) x16_1).length : Int)] (by rfl) rfl rfl (by (try simp only [List.map_toArray, List.map_cons, List.map_nil]); first | done | rfl | (simp only [List.length_drop, List.length_take]; rfl)) ?_
                      with_reducible refine (hat_power.calls k1 ((rd_T103 l770 0).f1) ((rd_L2 ((rd_T103 l770 0).f2) x16_1).length : Int) t532 _ A10.out).mono ?_
                      rintro e w' ⟨rfl, ⟨nd, rfl⟩⟩
                      refine ⟨_, rfl, ?_⟩
                      refine hK.out _ _ ⟨((HB.out.cell (World.block_lt_of_cell? w _ hw529_0)).trans hw529_0), ((HB.out.cell (World.block_lt_of_cell? w _ hw529_1)).trans hw529_1), ((HB.out.cell (World.block_lt_of_cell? w _ hw529_2)).trans hw529_2), ((HB.out.cell (World.block_lt_of_cell? w _ hw530_0)).trans hw530_0), ((HB.out.cell (World.block_lt_of_cell? w _ hw530_1)).trans hw530_1), ((HB.out.cell (World.block_lt_of_cell? w _ hw530_2)).trans hw530_2), ((HB.out.cell (World.block_lt_of_cell? w _ hw531_0)).trans hw531_0), ((HB.out.cell (World.block_lt_of_cell? w _ hw533_0)).trans hw533_0), ((HB.out.cell (World.block_lt_of_cell? w _ hw533_1)).trans hw533_1), ((HB.out.cell (World.block_lt_of_cell? w _ hw533_2)).trans hw533_2)⟩ (fun hHeld => ?_)
                      clear hK K
                      refine norm_ (a' := ?_) ?_ ?_
                      rotate_left
                      · show Act.put _ (some 34) _ = _
                        simp only [Act.put, List.setIfInBounds_toArray, List.set_cons_zero, List.set_cons_succ, i64_w, i32_w]
                        rfl
                      refine one_ (i := 18) (N := some 39) #[true, true, true, true, true, true, true, true, true, true, true, true, true, true, true, true, true, true, true, false] rfl rfl (one_of HT_.out (by kernel_rfl)) (by decide) (fun K hK => ?_)
                      refine goes_ Try.func57 (by kernel_rfl) rfl #[.int .i64 0, .slice A528_0 (rd_L2 l1 x16_1).length c528_0, .int .i64 t532, .int .i64 ((rd_T103 l770 0).f1)] (by rfl) rfl rfl (by (try simp only [List.map_toArray, List.map_cons, List.map_nil]); first | done | rfl | (simp only [List.length_drop, List.length_take]; rfl)) ?_
                      with_reducible refine (hat_valid.calls 0 _ _ (rd_L2 l1 x16_1) t532 ((rd_T103 l770 0).f1) true _ ?side1 ?side2 A11.out).mono ?_
                      (case side1 => repeat (first | exact (Kd.C_below HR528_0.out (by repeat (first | (with_reducible first | exact HB.out | apply below_alloc | apply pw_below_drewN | apply below_drew1) | exact HB.out))) | (with_reducible refine Kd.C_alloc ?_ _) | (with_reducible refine Kd.C_drewN ?_ _) | (with_reducible refine Kd.C_drew ?_)))
                      (case side2 => exact HC528_0.out)
                      rintro e w14 ⟨rfl, hb⟩
                      refine ⟨_, rfl, ?_⟩
                      have n0_ := Aside0.mk (below_step (by repeat (first | (with_reducible first | exact HB.out | apply below_alloc | apply pw_below_drewN | apply below_drew1) | exact HB.out)) hb)
                      clear HB
                      have HB := n0_
                      clear n0_
                      (try clear hb)
                      (try clear hb2)
                      (try clear hk)
                      (try clear hi)
                      refine hK.out _ _ ⟨((HB.out.cell (World.block_lt_of_cell? w _ hw529_0)).trans hw529_0), ((HB.out.cell (World.block_lt_of_cell? w _ hw529_1)).trans hw529_1), ((HB.out.cell (World.block_lt_of_cell? w _ hw529_2)).trans hw529_2), ((HB.out.cell (World.block_lt_of_cell? w _ hw530_0)).trans hw530_0), ((HB.out.cell (World.block_lt_of_cell? w _ hw530_1)).trans hw530_1), ((HB.out.cell (World.block_lt_of_cell? w _ hw530_2)).trans hw530_2), ((HB.out.cell (World.block_lt_of_cell? w _ hw531_0)).trans hw531_0), ((HB.out.cell (World.block_lt_of_cell? w _ hw533_0)).trans hw533_0), ((HB.out.cell (World.block_lt_of_cell? w _ hw533_1)).trans hw533_1), ((HB.out.cell (World.block_lt_of_cell? w _ hw533_2)).trans hw533_2)⟩ (fun hHeld => ?_)
                      clear hK K
                      refine norm_ (a' := ?_) ?_ ?_
                      rotate_left
                      · show Act.put _ (some 39) _ = _
                        simp only [Act.put, List.setIfInBounds_toArray, List.set_cons_zero, List.set_cons_succ, i64_w, i32_w]
                        rfl
                      refine pure_ (i := 19) (N := some 40) (v := ?_) (a' := ?_) #[true, true, true, true, true, true, true, true, true, true, true, true, true, true, true, true, true, true, true, true] rfl rfl (any_of HT_.out (by kernel_rfl)) (fun _ _ _ h => h) (Or.inl ⟨by rfl, ?_⟩) ?_ ?_
                      rotate_left
                      · intro w'
                        go_simp
                        with_reducible rfl
                      rotate_left
                      · simp only [Act.put, List.setIfInBounds_toArray, List.set_cons_zero, List.set_cons_succ, i64_w, i32_w]
                        rfl
                      refine done_ (done_of HT_.out (by kernel_rfl)) ?_
                      try go_wp2
                      go_roundg k1
                      case measure => have := HK1.out; omega
                      case rel => exact ⟨(wrap64 (x16_1 + 1)), (by first | rfl | (simp; done) | (simp [*]; done)), H', ⟨by have := HK1.out; omega⟩, ⟨by repeat (first | (with_reducible first | exact HB.out | apply below_alloc | apply pw_below_drewN | apply below_drew1) | exact HB.out)⟩⟩
                    · replace c12 := Bool.eq_false_iff.mpr c12
                      subst c12
                      have H1 : (some false) = some r := by rw [if_neg (show ¬ (false = true) by decide)] at H; exact H
                      clear H
                      have H := H1
                      clear H1
                      obtain rfl := Option.some.inj H
                      have p528 : 0 ≤ (x16_1 : Int) := of_decide_eq_true (by first | (with_reducible assumption) | assumption)
                      have q528 : x16_1 < (l1.length : Int) := of_decide_eq_true (by first | (with_reducible assumption) | assumption)
                      obtain ⟨ad528, A528_0, c528_0, e528, hx528_0, hl528_0, hi528_0⟩ := at_L2 HR1.out x16_1 p528 q528
                      cases e528
                      replace hx528_0 := (HB.out.cell (World.block_lt_of_cell? w _ hx528_0)).trans hx528_0
                      have HR528_0 := Aside0.mk hi528_0
                      have HC528_0 := Aside0.mk hl528_0
                      clear hi528_0 hl528_0
                      replace p528 := eq_true p528
                      replace q528 := eq_true q528
                      try go_wp2
                      have n0_ := Aside0.mk (below_drew1 HB.out)
                      clear HB
                      have HB := n0_
                      clear n0_
                      have p529 : 0 ≤ (0 : Int) := (by omega)
                      have q529 : 0 < (l770.length : Int) := of_decide_eq_true (by first | (with_reducible assumption) | assumption)
                      obtain ⟨ad529, A529_2, c529_2, e529, hx529_0, hx529_1, hx529_2, hl529_2, hi529_2⟩ := at_T103 HR770.out 0 p529 q529
                      have hw529_2 := hx529_2
                      (try rw [show ((0 : Int)).toNat = 0 from rfl] at hw529_2)
                      (try rw [show 0 * 3 = 0 from rfl] at hw529_2)
                      (try rw [Addr.add_zero'] at hw529_2)
                      have hw529_1 := hx529_1
                      (try rw [show ((0 : Int)).toNat = 0 from rfl] at hw529_1)
                      (try rw [show 0 * 3 = 0 from rfl] at hw529_1)
                      (try rw [Addr.add_zero'] at hw529_1)
                      have hw529_0 := hx529_0
                      (try rw [show ((0 : Int)).toNat = 0 from rfl] at hw529_0)
                      (try rw [show 0 * 3 = 0 from rfl] at hw529_0)
                      (try rw [Addr.add_zero'] at hw529_0)
                      obtain rfl : ad527 = ad529 := (by injection e529)
                      (try simp only [show (0 : Int).toNat = 0 from rfl, Nat.zero_mul, rp_add0] at hx529_0)
                      (try simp only [show (0 : Int).toNat = 0 from rfl, Nat.zero_mul, rp_add0] at hx529_1)
                      (try simp only [show (0 : Int).toNat = 0 from rfl, Nat.zero_mul, rp_add0] at hx529_2)
                      have qi529 : (0 < l770.length) = True := eq_true (by omega)
                      (try rw [show ((0 : Int)).toNat = 0 from rfl] at hx529_0)
                      (try rw [show 0 * 3 = 0 from rfl] at hx529_0)
                      (try rw [Addr.add_zero'] at hx529_0)
                      (try rw [show ((0 : Int)).toNat = 0 from rfl] at hx529_1)
                      (try rw [show 0 * 3 = 0 from rfl] at hx529_1)
                      (try rw [Addr.add_zero'] at hx529_1)
                      (try rw [show ((0 : Int)).toNat = 0 from rfl] at hx529_2)
                      (try rw [show 0 * 3 = 0 from rfl] at hx529_2)
                      (try rw [Addr.add_zero'] at hx529_2)
                      replace hx529_0 := (HB.out.cell (World.block_lt_of_cell? w _ hx529_0)).trans hx529_0
                      replace hx529_1 := (HB.out.cell (World.block_lt_of_cell? w _ hx529_1)).trans hx529_1
                      replace hx529_2 := (HB.out.cell (World.block_lt_of_cell? w _ hx529_2)).trans hx529_2
                      have HR529_2 := Aside0.mk hi529_2
                      have HC529_2 := Aside0.mk hl529_2
                      clear hi529_2 hl529_2
                      replace p529 := eq_true p529
                      replace q529 := eq_true q529
                      have p530 : 0 ≤ (0 : Int) := (by omega)
                      have q530 : 0 < (l770.length : Int) := of_decide_eq_true (by first | (with_reducible assumption) | assumption)
                      obtain ⟨ad530, A530_2, c530_2, e530, hx530_0, hx530_1, hx530_2, hl530_2, hi530_2⟩ := at_T103 HR770.out 0 p530 q530
                      have hw530_2 := hx530_2
                      (try rw [show ((0 : Int)).toNat = 0 from rfl] at hw530_2)
                      (try rw [show 0 * 3 = 0 from rfl] at hw530_2)
                      (try rw [Addr.add_zero'] at hw530_2)
                      have hw530_1 := hx530_1
                      (try rw [show ((0 : Int)).toNat = 0 from rfl] at hw530_1)
                      (try rw [show 0 * 3 = 0 from rfl] at hw530_1)
                      (try rw [Addr.add_zero'] at hw530_1)
                      have hw530_0 := hx530_0
                      (try rw [show ((0 : Int)).toNat = 0 from rfl] at hw530_0)
                      (try rw [show 0 * 3 = 0 from rfl] at hw530_0)
                      (try rw [Addr.add_zero'] at hw530_0)
                      obtain rfl : ad527 = ad530 := (by injection e530)
                      (try simp only [show (0 : Int).toNat = 0 from rfl, Nat.zero_mul, rp_add0] at hx530_0)
                      (try simp only [show (0 : Int).toNat = 0 from rfl, Nat.zero_mul, rp_add0] at hx530_1)
                      (try simp only [show (0 : Int).toNat = 0 from rfl, Nat.zero_mul, rp_add0] at hx530_2)
                      have qi530 : (0 < l770.length) = True := eq_true (by omega)
                      (try rw [show ((0 : Int)).toNat = 0 from rfl] at hx530_0)
                      (try rw [show 0 * 3 = 0 from rfl] at hx530_0)
                      (try rw [Addr.add_zero'] at hx530_0)
                      (try rw [show ((0 : Int)).toNat = 0 from rfl] at hx530_1)
                      (try rw [show 0 * 3 = 0 from rfl] at hx530_1)
                      (try rw [Addr.add_zero'] at hx530_1)
                      (try rw [show ((0 : Int)).toNat = 0 from rfl] at hx530_2)
                      (try rw [show 0 * 3 = 0 from rfl] at hx530_2)
                      (try rw [Addr.add_zero'] at hx530_2)
                      replace hx530_0 := (HB.out.cell (World.block_lt_of_cell? w _ hx530_0)).trans hx530_0
                      replace hx530_1 := (HB.out.cell (World.block_lt_of_cell? w _ hx530_1)).trans hx530_1
                      replace hx530_2 := (HB.out.cell (World.block_lt_of_cell? w _ hx530_2)).trans hx530_2
                      have HR530_2 := Aside0.mk hi530_2
                      have HC530_2 := Aside0.mk hl530_2
                      clear hi530_2 hl530_2
                      replace p530 := eq_true p530
                      replace q530 := eq_true q530
                      have ea_ := Option.some.inj (hx529_2.symm.trans hx530_2)
                      injection ea_ with ea_ en_ ec_
                      subst ea_
                      subst ec_
                      clear en_
                      have p531 : 0 ≤ (x16_1 : Int) := of_decide_eq_true (by first | (with_reducible assumption) | assumption)
                      have q531 : x16_1 < (((rd_T103 l770 0).f2).length : Int) := of_decide_eq_true (by first | (with_reducible assumption) | assumption)
                      obtain ⟨ad531, A531_0, c531_0, e531, hx531_0, hl531_0, hi531_0⟩ := at_L2 HR530_2.out x16_1 p531 q531
                      have hw531_0 := hx531_0
                      cases e531
                      replace hx531_0 := (HB.out.cell (World.block_lt_of_cell? w _ hx531_0)).trans hx531_0
                      have HR531_0 := Aside0.mk hi531_0
                      have HC531_0 := Aside0.mk hl531_0
                      clear hi531_0 hl531_0
                      replace p531 := eq_true p531
                      replace q531 := eq_true q531
                      have p533 : 0 ≤ (0 : Int) := (by omega)
                      have q533 : 0 < (l770.length : Int) := of_decide_eq_true (by first | (with_reducible assumption) | assumption)
                      obtain ⟨ad533, A533_2, c533_2, e533, hx533_0, hx533_1, hx533_2, hl533_2, hi533_2⟩ := at_T103 HR770.out 0 p533 q533
                      have hw533_2 := hx533_2
                      (try rw [show ((0 : Int)).toNat = 0 from rfl] at hw533_2)
                      (try rw [show 0 * 3 = 0 from rfl] at hw533_2)
                      (try rw [Addr.add_zero'] at hw533_2)
                      have hw533_1 := hx533_1
                      (try rw [show ((0 : Int)).toNat = 0 from rfl] at hw533_1)
                      (try rw [show 0 * 3 = 0 from rfl] at hw533_1)
                      (try rw [Addr.add_zero'] at hw533_1)
                      have hw533_0 := hx533_0
                      (try rw [show ((0 : Int)).toNat = 0 from rfl] at hw533_0)
                      (try rw [show 0 * 3 = 0 from rfl] at hw533_0)
                      (try rw [Addr.add_zero'] at hw533_0)
                      obtain rfl : ad527 = ad533 := (by injection e533)
                      (try simp only [show (0 : Int).toNat = 0 from rfl, Nat.zero_mul, rp_add0] at hx533_0)
                      (try simp only [show (0 : Int).toNat = 0 from rfl, Nat.zero_mul, rp_add0] at hx533_1)
                      (try simp only [show (0 : Int).toNat = 0 from rfl, Nat.zero_mul, rp_add0] at hx533_2)
                      have qi533 : (0 < l770.length) = True := eq_true (by omega)
                      (try rw [show ((0 : Int)).toNat = 0 from rfl] at hx533_0)
                      (try rw [show 0 * 3 = 0 from rfl] at hx533_0)
                      (try rw [Addr.add_zero'] at hx533_0)
                      (try rw [show ((0 : Int)).toNat = 0 from rfl] at hx533_1)
                      (try rw [show 0 * 3 = 0 from rfl] at hx533_1)
                      (try rw [Addr.add_zero'] at hx533_1)
                      (try rw [show ((0 : Int)).toNat = 0 from rfl] at hx533_2)
                      (try rw [show 0 * 3 = 0 from rfl] at hx533_2)
                      (try rw [Addr.add_zero'] at hx533_2)
                      replace hx533_0 := (HB.out.cell (World.block_lt_of_cell? w _ hx533_0)).trans hx533_0
                      replace hx533_1 := (HB.out.cell (World.block_lt_of_cell? w _ hx533_1)).trans hx533_1
                      replace hx533_2 := (HB.out.cell (World.block_lt_of_cell? w _ hx533_2)).trans hx533_2
                      have HR533_2 := Aside0.mk hi533_2
                      have HC533_2 := Aside0.mk hl533_2
                      clear hi533_2 hl533_2
                      replace p533 := eq_true p533
                      replace q533 := eq_true q533
                      have ea_ := Option.some.inj (hx529_2.symm.trans hx533_2)
                      injection ea_ with ea_ en_ ec_
                      subst ea_
                      subst ec_
                      clear en_
                      refine start_ (n := 20) (S := fun w' => w'.cell? ad527 = some (.int .i64 ((rd_T103 l770 0).f0)) ∧ w'.cell? ⟨ad527.block, ad527.off + 1, none⟩ = some (.int .i64 ((rd_T103 l770 0).f1)) ∧ w'.cell? ⟨ad527.block, ad527.off + 2, none⟩ = some (.slice (some ad531) ((rd_T103 l770 0).f2).length c529_2) ∧ w'.cell? ad527 = some (.int .i64 ((rd_T103 l770 0).f0)) ∧ w'.cell? ⟨ad527.block, ad527.off + 1, none⟩ = some (.int .i64 ((rd_T103 l770 0).f1)) ∧ w'.cell? ⟨ad527.block, ad527.off + 2, none⟩ = some (.slice (some ad531) ((rd_T103 l770 0).f2).length c529_2) ∧ w'.cell? (ad531.add (x16_1).toNat) = some (.slice A531_0 (rd_L2 ((rd_T103 l770 0).f2) x16_1).length c531_0) ∧ w'.cell? ad527 = some (.int .i64 ((rd_T103 l770 0).f0)) ∧ w'.cell? ⟨ad527.block, ad527.off + 1, none⟩ = some (.int .i64 ((rd_T103 l770 0).f1)) ∧ w'.cell? ⟨ad527.block, ad527.off + 2, none⟩ = some (.slice (some ad531) ((rd_T103 l770 0).f2).length c529_2)) (ds := []) #[false, false, false, false, false, false, false, false, false, false, false, false, false, false, false, false, false, false, false, false] (by kernel_rfl) rfl rfl ⟨((HB.out.cell (World.block_lt_of_cell? w _ hw529_0)).trans hw529_0), ((HB.out.cell (World.block_lt_of_cell? w _ hw529_1)).trans hw529_1), ((HB.out.cell (World.block_lt_of_cell? w _ hw529_2)).trans hw529_2), ((HB.out.cell (World.block_lt_of_cell? w _ hw530_0)).trans hw530_0), ((HB.out.cell (World.block_lt_of_cell? w _ hw530_1)).trans hw530_1), ((HB.out.cell (World.block_lt_of_cell? w _ hw530_2)).trans hw530_2), ((HB.out.cell (World.block_lt_of_cell? w _ hw531_0)).trans hw531_0), ((HB.out.cell (World.block_lt_of_cell? w _ hw533_0)).trans hw533_0), ((HB.out.cell (World.block_lt_of_cell? w _ hw533_1)).trans hw533_1), ((HB.out.cell (World.block_lt_of_cell? w _ hw533_2)).trans hw533_2)⟩ (fun hHeld => ?_); refine with_tabW hat_game_tables.tab6 hat_game_tables.bits6 (fun HT_ HW_ => ?_)
                      generalize wr.drew = w15 at HB HR529_2 HR530_2 HR531_0 HR533_2 hx529_0 hx529_1 hx529_2 hx530_0 hx530_1 hx530_2 hx531_0 hx533_0 hx533_1 hx533_2 hHeld ⊢
                      refine pure_ (i := 0) (N := some 21) (v := ?_) (a' := ?_) #[true, false, false, false, false, false, false, false, false, false, false, false, false, false, false, false, false, false, false, false] rfl rfl (any_of HT_.out (by kernel_rfl)) (fun _ _ _ h => h) (Or.inl ⟨by rfl, ?_⟩) ?_ ?_
                      rotate_left
                      · intro w'
                        go_simp
                        with_reducible rfl
                      rotate_left
                      · simp only [Act.put, List.setIfInBounds_toArray, List.set_cons_zero, List.set_cons_succ, i64_w, i32_w]
                        rfl
                      refine pure_ (i := 1) (N := some 22) (v := ?_) (a' := ?_) #[true, true, false, false, false, false, false, false, false, false, false, false, false, false, false, false, false, false, false, false] rfl rfl (any_of HT_.out (by kernel_rfl)) (fun _ _ _ h => h) (Or.inl ⟨by rfl, ?_⟩) ?_ ?_
                      rotate_left
                      · intro w'
                        go_simp
                        with_reducible rfl
                      rotate_left
                      · simp only [Act.put, List.setIfInBounds_toArray, List.set_cons_zero, List.set_cons_succ, i64_w, i32_w]
                        rfl
                      refine pure_ (i := 2) (N := some 23) (v := ?_) (a' := ?_) #[true, true, true, false, false, false, false, false, false, false, false, false, false, false, false, false, false, false, false, false] rfl rfl (any_of HT_.out (by kernel_rfl)) (fun _ _ _ h => h) (Or.inl ⟨by rfl, ?_⟩) ?_ ?_
                      rotate_left
                      · intro w'
                        go_simp
                        with_reducible rfl
                      rotate_left
                      · simp only [Act.put, List.setIfInBounds_toArray, List.set_cons_zero, List.set_cons_succ, i64_w, i32_w]
                        rfl
                      refine pure_ (i := 3) (N := some 24) (v := ?_) (a' := ?_) #[true, true, true, true, false, false, false, false, false, false, false, false, false, false, false, false, false, false, false, false] rfl rfl (any_of HT_.out (by kernel_rfl)) (fun _ _ _ h => h) (Or.inl ⟨by rfl, ?_⟩) ?_ ?_
                      rotate_left
                      · intro w'
                        go_simp
                        with_reducible rfl
                      rotate_left
                      · simp only [Act.put, List.setIfInBounds_toArray, List.set_cons_zero, List.set_cons_succ, i64_w, i32_w]
                        rfl
                      refine pure_ (i := 5) (N := some 26) (v := ?_) (a' := ?_) #[true, true, true, true, false, true, false, false, false, false, false, false, false, false, false, false, false, false, false, false] rfl rfl (any_of HT_.out (by kernel_rfl)) (fun _ _ _ h => h) (Or.inl ⟨by rfl, ?_⟩) ?_ ?_
                      rotate_left
                      · intro w'
                        go_simp
                        with_reducible rfl
                      rotate_left
                      · simp only [Act.put, List.setIfInBounds_toArray, List.set_cons_zero, List.set_cons_succ, i64_w, i32_w]
                        rfl
                      refine pure_ (i := 6) (N := some 27) (v := ?_) (a' := ?_) #[true, true, true, true, false, true, true, false, false, false, false, false, false, false, false, false, false, false, false, false] rfl rfl (any_of HT_.out (by kernel_rfl)) (fun _ _ _ h => h) (Or.inl ⟨by rfl, ?_⟩) ?_ ?_
                      rotate_left
                      · intro w'
                        go_simp
                        with_reducible rfl
                      rotate_left
                      · simp only [Act.put, List.setIfInBounds_toArray, List.set_cons_zero, List.set_cons_succ, i64_w, i32_w]
                        rfl
                      refine pure_ (i := 7) (N := some 28) (v := ?_) (a' := ?_) #[true, true, true, true, false, true, true, true, false, false, false, false, false, false, false, false, false, false, false, false] rfl rfl (any_of HT_.out (by kernel_rfl)) (fun _ _ _ h => h) (Or.inl ⟨by rfl, ?_⟩) ?_ ?_
                      rotate_left
                      · intro w'
                        go_simp
                        with_reducible rfl
                      rotate_left
                      · simp only [Act.put, List.setIfInBounds_toArray, List.set_cons_zero, List.set_cons_succ, i64_w, i32_w]
                        rfl
                      refine pure_ (i := 9) (N := some 30) (v := ?_) (a' := ?_) #[true, true, true, true, false, true, true, true, false, true, false, false, false, false, false, false, false, false, false, false] rfl rfl (any_of HT_.out (by kernel_rfl)) (fun _ _ _ h => h) (Or.inl ⟨by rfl, ?_⟩) ?_ ?_
                      rotate_left
                      · intro w'
                        go_simp
                        with_reducible rfl
                      rotate_left
                      · simp only [Act.put, List.setIfInBounds_toArray, List.set_cons_zero, List.set_cons_succ, i64_w, i32_w]
                        rfl
                      refine pure_ (i := 14) (N := some 35) (v := ?_) (a' := ?_) #[true, true, true, true, false, true, true, true, false, true, false, false, false, false, true, false, false, false, false, false] rfl rfl (any_of HT_.out (by kernel_rfl)) (fun _ _ _ h => h) (Or.inl ⟨by rfl, ?_⟩) ?_ ?_
                      rotate_left
                      · intro w'
                        go_simp
                        with_reducible rfl
                      rotate_left
                      · simp only [Act.put, List.setIfInBounds_toArray, List.set_cons_zero, List.set_cons_succ, i64_w, i32_w]
                        rfl
                      refine pure_ (i := 15) (N := some 36) (v := ?_) (a' := ?_) #[true, true, true, true, false, true, true, true, false, true, false, false, false, false, true, true, false, false, false, false] rfl rfl (any_of HT_.out (by kernel_rfl)) (fun _ _ _ h => h) (Or.inl ⟨by rfl, ?_⟩) ?_ ?_
                      rotate_left
                      · intro w'
                        go_simp
                        with_reducible rfl
                      rotate_left
                      · simp only [Act.put, List.setIfInBounds_toArray, List.set_cons_zero, List.set_cons_succ, i64_w, i32_w]
                        rfl
                      refine pure_ (i := 16) (N := some 37) (v := ?_) (a' := ?_) #[true, true, true, true, false, true, true, true, false, true, false, false, false, false, true, true, true, false, false, false] rfl rfl (any_of HT_.out (by kernel_rfl)) (fun _ _ _ h => h) (Or.inl ⟨by rfl, ?_⟩) ?_ ?_
                      rotate_left
                      · intro w'
                        go_simp
                        with_reducible rfl
                      rotate_left
                      · simp only [Act.put, List.setIfInBounds_toArray, List.set_cons_zero, List.set_cons_succ, i64_w, i32_w]
                        rfl
                      refine take_ (i := 4) (N := some 25) (v := ?_) (a' := ?_) #[true, true, true, true, true, true, true, true, false, true, false, false, false, false, true, true, true, false, false, false] rfl rfl (take_ofW HT_.out HW_.out (by kernel_rfl)) (fun _ _ _ h => h) (Or.inl ⟨by rfl, ?_⟩) hHeld ?_ ?_
                      rotate_left
                      · rintro w' ⟨s0, s1, s2, s3, s4, s5, s6, s7, s8, s9⟩
                        go_simp
                        with_reducible rfl
                      rotate_left
                      · simp only [Act.put, List.setIfInBounds_toArray, List.set_cons_zero, List.set_cons_succ, i64_w, i32_w]
                        rfl
                      refine take_ (i := 8) (N := some 29) (v := ?_) (a' := ?_) #[true, true, true, true, true, true, true, true, true, true, false, false, false, false, true, true, true, false, false, false] rfl rfl (take_ofW HT_.out HW_.out (by kernel_rfl)) (fun _ _ _ h => h) (Or.inl ⟨by rfl, ?_⟩) hHeld ?_ ?_
                      rotate_left
                      · rintro w' ⟨s0, s1, s2, s3, s4, s5, s6, s7, s8, s9⟩
                        go_simp
                        with_reducible rfl
                      rotate_left
                      · simp only [Act.put, List.setIfInBounds_toArray, List.set_cons_zero, List.set_cons_succ, i64_w, i32_w]
                        rfl
                      refine pure_ (i := 10) (N := some 31) (v := ?_) (a' := ?_) #[true, true, true, true, true, true, true, true, true, true, true, false, false, false, true, true, true, false, false, false] rfl rfl (any_of HT_.out (by kernel_rfl)) (fun _ _ _ h => h) (Or.inl ⟨by rfl, ?_⟩) ?_ ?_
                      rotate_left
                      · intro w'
                        go_simp
                        with_reducible rfl
                      rotate_left
                      · simp only [Act.put, List.setIfInBounds_toArray, List.set_cons_zero, List.set_cons_succ, i64_w, i32_w]
                        rfl
                      refine take_ (i := 11) (N := some 32) (v := ?_) (a' := ?_) #[true, true, true, true, true, true, true, true, true, true, true, true, false, false, true, true, true, false, false, false] rfl rfl (take_ofW HT_.out HW_.out (by kernel_rfl)) (fun _ _ _ h => h) (Or.inl ⟨by rfl, ?_⟩) hHeld ?_ ?_
                      rotate_left
                      · rintro w' ⟨s0, s1, s2, s3, s4, s5, s6, s7, s8, s9⟩
                        go_simp
                        with_reducible rfl
                      rotate_left
                      · simp only [Act.put, List.setIfInBounds_toArray, List.set_cons_zero, List.set_cons_succ, i64_w, i32_w]
                        rfl
                      refine pure_ (i := 12) (N := some 33) (v := ?_) (a' := ?_) #[true, true, true, true, true, true, true, true, true, true, true, true, true, false, true, true, true, false, false, false] rfl rfl (any_of HT_.out (by kernel_rfl)) (fun _ _ _ h => h) (Or.inl ⟨by rfl, ?_⟩) ?_ ?_
                      rotate_left
                      · intro w'
                        go_simp
                        with_reducible rfl
                      rotate_left
                      · simp only [Act.put, List.setIfInBounds_toArray, List.set_cons_zero, List.set_cons_succ, i64_w, i32_w]
                        rfl
                      refine take_ (i := 17) (N := some 38) (v := ?_) (a' := ?_) #[true, true, true, true, true, true, true, true, true, true, true, true, true, false, true, true, true, true, false, false] rfl rfl (take_ofW HT_.out HW_.out (by kernel_rfl)) (fun _ _ _ h => h) (Or.inl ⟨by rfl, ?_⟩) hHeld ?_ ?_
                      rotate_left
                      · rintro w' ⟨s0, s1, s2, s3, s4, s5, s6, s7, s8, s9⟩
                        go_simp
                        with_reducible rfl
                      rotate_left
                      · simp only [Act.put, List.setIfInBounds_toArray, List.set_cons_zero, List.set_cons_succ, i64_w, i32_w]
                        rfl
                      refine one_ (i := 13) (N := some 34) #[true, true, true, true, true, true, true, true, true, true, true, true, true, true, true, true, true, true, false, false] rfl rfl (one_of HT_.out (by kernel_rfl)) (by decide) (fun K hK => ?_)
                      refine goes_ Try.func61 (by kernel_rfl) rfl #[.int .i64 ((rd_T103 l770 0).f1), .int .i64 ((rd_L2 ((rd_T103 l770 0).f2) x16_1).length : Int)] (by rfl) rfl rfl (by (try simp only [List.map_toArray, List.map_cons, List.map_nil]); first | done | rfl | (simp only [List.length_drop, List.length_take]; rfl)) ?_
                      with_reducible refine (hat_power.calls k1 ((rd_T103 l770 0).f1) ((rd_L2 ((rd_T103 l770 0).f2) x16_1).length : Int) t532 _ A10.out).mono ?_
                      rintro e w' ⟨rfl, ⟨nd, rfl⟩⟩
                      refine ⟨_, rfl, ?_⟩
                      refine hK.out _ _ ⟨((HB.out.cell (World.block_lt_of_cell? w _ hw529_0)).trans hw529_0), ((HB.out.cell (World.block_lt_of_cell? w _ hw529_1)).trans hw529_1), ((HB.out.cell (World.block_lt_of_cell? w _ hw529_2)).trans hw529_2), ((HB.out.cell (World.block_lt_of_cell? w _ hw530_0)).trans hw530_0), ((HB.out.cell (World.block_lt_of_cell? w _ hw530_1)).trans hw530_1), ((HB.out.cell (World.block_lt_of_cell? w _ hw530_2)).trans hw530_2), ((HB.out.cell (World.block_lt_of_cell? w _ hw531_0)).trans hw531_0), ((HB.out.cell (World.block_lt_of_cell? w _ hw533_0)).trans hw533_0), ((HB.out.cell (World.block_lt_of_cell? w _ hw533_1)).trans hw533_1), ((HB.out.cell (World.block_lt_of_cell? w _ hw533_2)).trans hw533_2)⟩ (fun hHeld => ?_)
                      clear hK K
                      refine norm_ (a' := ?_) ?_ ?_
                      rotate_left
                      · show Act.put _ (some 34) _ = _
                        simp only [Act.put, List.setIfInBounds_toArray, List.set_cons_zero, List.set_cons_succ, i64_w, i32_w]
                        rfl
                      refine one_ (i := 18) (N := some 39) #[true, true, true, true, true, true, true, true, true, true, true, true, true, true, true, true, true, true, true, false] rfl rfl (one_of HT_.out (by kernel_rfl)) (by decide) (fun K hK => ?_)
                      refine goes_ Try.func57 (by kernel_rfl) rfl #[.int .i64 0, .slice A528_0 (rd_L2 l1 x16_1).length c528_0, .int .i64 t532, .int .i64 ((rd_T103 l770 0).f1)] (by rfl) rfl rfl (by (try simp only [List.map_toArray, List.map_cons, List.map_nil]); first | done | rfl | (simp only [List.length_drop, List.length_take]; rfl)) ?_
                      with_reducible refine (hat_valid.calls 0 _ _ (rd_L2 l1 x16_1) t532 ((rd_T103 l770 0).f1) false _ ?side1 ?side2 A11.out).mono ?_
                      (case side1 => repeat (first | exact (Kd.C_below HR528_0.out (by repeat (first | (with_reducible first | exact HB.out | apply below_alloc | apply pw_below_drewN | apply below_drew1) | exact HB.out))) | (with_reducible refine Kd.C_alloc ?_ _) | (with_reducible refine Kd.C_drewN ?_ _) | (with_reducible refine Kd.C_drew ?_)))
                      (case side2 => exact HC528_0.out)
                      rintro e w16 ⟨rfl, hb⟩
                      refine ⟨_, rfl, ?_⟩
                      have n0_ := Aside0.mk (below_step (by repeat (first | (with_reducible first | exact HB.out | apply below_alloc | apply pw_below_drewN | apply below_drew1) | exact HB.out)) hb)
                      clear HB
                      have HB := n0_
                      clear n0_
                      (try clear hb)
                      (try clear hb2)
                      (try clear hk)
                      (try clear hi)
                      refine hK.out _ _ ⟨((HB.out.cell (World.block_lt_of_cell? w _ hw529_0)).trans hw529_0), ((HB.out.cell (World.block_lt_of_cell? w _ hw529_1)).trans hw529_1), ((HB.out.cell (World.block_lt_of_cell? w _ hw529_2)).trans hw529_2), ((HB.out.cell (World.block_lt_of_cell? w _ hw530_0)).trans hw530_0), ((HB.out.cell (World.block_lt_of_cell? w _ hw530_1)).trans hw530_1), ((HB.out.cell (World.block_lt_of_cell? w _ hw530_2)).trans hw530_2), ((HB.out.cell (World.block_lt_of_cell? w _ hw531_0)).trans hw531_0), ((HB.out.cell (World.block_lt_of_cell? w _ hw533_0)).trans hw533_0), ((HB.out.cell (World.block_lt_of_cell? w _ hw533_1)).trans hw533_1), ((HB.out.cell (World.block_lt_of_cell? w _ hw533_2)).trans hw533_2)⟩ (fun hHeld => ?_)
                      clear hK K
                      refine norm_ (a' := ?_) ?_ ?_
                      rotate_left
                      · show Act.put _ (some 39) _ = _
                        simp only [Act.put, List.setIfInBounds_toArray, List.set_cons_zero, List.set_cons_succ, i64_w, i32_w]
                        rfl
                      refine pure_ (i := 19) (N := some 40) (v := ?_) (a' := ?_) #[true, true, true, true, true, true, true, true, true, true, true, true, true, true, true, true, true, true, true, true] rfl rfl (any_of HT_.out (by kernel_rfl)) (fun _ _ _ h => h) (Or.inl ⟨by rfl, ?_⟩) ?_ ?_
                      rotate_left
                      · intro w'
                        go_simp
                        with_reducible rfl
                      rotate_left
                      · simp only [Act.put, List.setIfInBounds_toArray, List.set_cons_zero, List.set_cons_succ, i64_w, i32_w]
                        rfl
                      refine done_ (done_of HT_.out (by kernel_rfl)) ?_
                      try go_wp2
                      go_ret
                      exact ⟨by first | rfl | (simp [errW_none, errW_some] <;> rfl) | (simp [*, errW_none, errW_some] <;> rfl), by repeat (first | (with_reducible first | exact HB.out | apply below_alloc | apply pw_below_drewN | apply below_drew1) | exact HB.out)⟩
                  · rw [if_neg c9] at H
                    exact absurd H (by simp)
                · rw [if_neg c8] at H
                  exact absurd H (by simp)
              · rw [if_neg c7] at H
                exact absurd H (by simp)
            · rw [if_neg c6] at H
              exact absurd H (by simp)
          · rw [if_neg c5] at H
            have c5b0 : decide (x16_1 < (l1.length : Int)) = false := decide_eq_false c5
            clear c5
            obtain rfl := Option.some.inj H
            go_wp2
            go_ret
            exact ⟨by first | rfl | (simp [errW_none, errW_some] <;> rfl) | (simp [*, errW_none, errW_some] <;> rfl), by repeat (first | (with_reducible first | exact HB.out | apply below_alloc | apply pw_below_drewN | apply below_drew1) | exact HB.out)⟩
    · rw [if_neg c4] at H
      have c4b0 : ((l1.length : Int) == ((rd_T103 l770 0).f0)) = false := beq_eq_false_iff_ne.mpr c4
      have c4b1 : ((l1.length : Int) != ((rd_T103 l770 0).f0)) = true := bne_iff_ne.mpr c4
      obtain rfl := Option.some.inj H
      have p527 : 0 ≤ (0 : Int) := (by omega)
      have q527 : 0 < (l770.length : Int) := of_decide_eq_true (by first | (with_reducible assumption) | assumption)
      obtain ⟨ad527, A527_2, c527_2, e527, hx527_0, hx527_1, hx527_2, hl527_2, hi527_2⟩ := at_T103 HR770.out 0 p527 q527
      cases e527
      (try simp only [show (0 : Int).toNat = 0 from rfl, Nat.zero_mul, rp_add0] at hx527_0)
      (try simp only [show (0 : Int).toNat = 0 from rfl, Nat.zero_mul, rp_add0] at hx527_1)
      (try simp only [show (0 : Int).toNat = 0 from rfl, Nat.zero_mul, rp_add0] at hx527_2)
      have qi527 : (0 < l770.length) = True := eq_true (by omega)
      (try rw [show ((0 : Int)).toNat = 0 from rfl] at hx527_0)
      (try rw [show 0 * 3 = 0 from rfl] at hx527_0)
      (try rw [Addr.add_zero'] at hx527_0)
      (try rw [show ((0 : Int)).toNat = 0 from rfl] at hx527_1)
      (try rw [show 0 * 3 = 0 from rfl] at hx527_1)
      (try rw [Addr.add_zero'] at hx527_1)
      (try rw [show ((0 : Int)).toNat = 0 from rfl] at hx527_2)
      (try rw [show 0 * 3 = 0 from rfl] at hx527_2)
      (try rw [Addr.add_zero'] at hx527_2)
      have HR527_2 := Aside0.mk hi527_2
      have HC527_2 := Aside0.mk hl527_2
      clear hi527_2 hl527_2
      replace p527 := eq_true p527
      replace q527 := eq_true q527
      go_enter Try.func81, Try.ntmps81
      go_wp2
      go_ret
      exact ⟨by first | rfl | (simp [errW_none, errW_some] <;> rfl) | (simp [*, errW_none, errW_some] <;> rfl), by repeat (first | (with_reducible first | exact HB.out | apply below_alloc | apply pw_below_drewN | apply below_drew1) | exact HB.out)⟩
  · rw [if_neg c3] at H
    exact absurd H (by simp)

end Go.Proofs.Ytgjmfehdjbepiaa.P
