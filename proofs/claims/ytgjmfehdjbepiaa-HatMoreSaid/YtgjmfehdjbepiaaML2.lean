-- texts of this session, merged: PF66 PF70 L1 G53a G53b G53 G18 PF20d G20 PF20
import Derived.Test.YtgjmfehdjbepiaaPK
import Derived.Test.YtgjmfehdjbepiaaML1
import Derived.Shelf.Abstract
import Derived.Lib.Hide
import Derived.Lib.SliceRun
import Derived.WalkSpells
import Derived.Outline
section
-- written by a program of this session
namespace Go.Proofs.Ytgjmfehdjbepiaa.P
open Go.RowKit Go.Proofs.YtgjmfehdjbepiaaW.PrintWords Go.Proofs.YtgjmfehdjbepiaaW.PrintLast Go.Proofs.YtgjmfehdjbepiaaW.PrintMore
attribute [local go_sem] max2_int min2_int max_two min_two max_three min_three max_four min_four   -- for this text's walks alone
set_option linter.unusedVariables false
set_option linter.unusedSimpArgs false

/-! ### hat_game_guess: function 66 -/
def hat_game_guess.l0 : Nat → List (S103) → List (List Int) → List Int → Int → Int → List Int → Int → Int → Option (Int)
  | 0, _, _, _, _, _, _, _, _ => none
  | k + 1, x0, x1, x2, x3, x9, x18, x19, x20 => if x20 < x19 then (if 0 ≤ x20 then (if x20 < (x18.length : Int) then (if 0 ≤ (rd x18 x20) then (if (rd x18 x20) < (x2.length : Int) then (if 0 < (x0.length : Int) then ((hat_power.f k ((rd_T103 x0 0).f1) x20).bind fun t540 => (hat_game_guess.l0 k x0 x1 x2 x3 (wrap64 (x9 + (wrap64 ((rd x2 (rd x18 x20)) * t540)))) x18 x19 (wrap64 (x20 + 1)))) else (none)) else (none)) else (none)) else (none)) else (none)) else (if 0 ≤ x3 then (if x3 < (x1.length : Int) then (if 0 ≤ x9 then (if x9 < ((rd_L2 x1 x3).length : Int) then (some (rd (rd_L2 x1 x3) x9)) else (none)) else (none)) else (none)) else (none))
def hat_game_guess.f (k : Nat) (l770 : List (S103)) (l1 : List (List Int)) (l2 : List Int) (a3 : Int) : Option (Int) := if 0 < (l770.length : Int) then (if 0 ≤ a3 then (if a3 < (((rd_T103 l770 0).f2).length : Int) then (hat_game_guess.l0 k l770 l1 l2 a3 0 (rd_L2 ((rd_T103 l770 0).f2) a3) ((rd_L2 ((rd_T103 l770 0).f2) a3).length : Int) 0) else (none)) else (none)) else (none)
theorem hat_game_guess.mono_l : ∀ k, (∀ y0 y1 y2 y3 y4 y5 y6 y7, LeO (hat_game_guess.l0 k y0 y1 y2 y3 y4 y5 y6 y7) (hat_game_guess.l0 (k + 1) y0 y1 y2 y3 y4 y5 y6 y7))
  | 0 => fun _ _ _ _ _ _ _ _ r h => by simp [hat_game_guess.l0] at h
  | k + 1 => by
    have ih0 := hat_game_guess.mono_l k
    · intro y0 y1 y2 y3 y4 y5 y6 y7
      unfold hat_game_guess.l0
      repeat' first
      | (with_reducible exact ih0 _ _ _ _ _ _ _ _)
      | (with_reducible exact hat_power.mono _ _ _)
      | (with_reducible exact LeO.refl _)
      | (with_reducible exact LeO.none _)
      | (with_reducible refine LeO.ite ?_ ?_)
      | (with_reducible refine LeO.bind ?_ (fun _ => ?_))
      | exact ih0 _ _ _ _ _ _ _ _
      | exact hat_power.mono _ _ _
      | exact LeO.none _
      | refine LeO.ite ?_ ?_
      | refine LeO.bind ?_ (fun _ => ?_)
theorem hat_game_guess.mono : ∀ a0 a1 a2 a3 k, LeO (hat_game_guess.f k a0 a1 a2 a3) (hat_game_guess.f (k + 1) a0 a1 a2 a3) := by
  intro a0 a1 a2 a3 k
  have ih0 := hat_game_guess.mono_l k
  unfold hat_game_guess.f
  repeat' first
      | (with_reducible exact ih0 _ _ _ _ _ _ _ _)
      | (with_reducible exact hat_power.mono _ _ _)
      | (with_reducible exact LeO.refl _)
      | (with_reducible exact LeO.none _)
      | (with_reducible refine LeO.ite ?_ ?_)
      | (with_reducible refine LeO.bind ?_ (fun _ => ?_))
      | exact ih0 _ _ _ _ _ _ _ _
      | exact hat_power.mono _ _ _
      | exact LeO.none _
      | refine LeO.ite ?_ ?_
      | refine LeO.bind ?_ (fun _ => ?_)
set_option maxHeartbeats 8000000 in
set_option maxRecDepth 100000 in
theorem hat_game_guess.calls (k : Nat) (A770 : Option Addr) (c770 : Nat) (l770 : List (S103)) (A1 : Option Addr) (c1 : Nat) (l1 : List (List Int)) (A2 : Option Addr) (c2 : Nat) (l2 : List Int) (a3 : Int) (r : Int) (w : World) (hr770 : Kd.C k103 w A770 l770.length l770) (hc770 : l770.length ≤ c770) (hr1 : Kd.C (Kd.slice 3 (Kd.int .i64)) w A1 l1.length l1) (hc1 : l1.length ≤ c1) (hr2 : Kd.C (Kd.int .i64) w A2 l2.length l2) (hc2 : l2.length ≤ c2) (h : hat_game_guess.f k l770 l1 l2 a3 = some r) :
    Calls Try.prog 66 #[.pointer A770, .slice A1 l1.length c1, .slice A2 l2.length c2, .int .i64 a3] w fun e w' => e = .returned (.int .i64 r) ∧ Drawn0 w w' := by
  have HR770 := Aside0.mk hr770
  have HC770 := Aside0.mk hc770
  clear hr770 hc770
  have HR1 := Aside0.mk hr1
  have HC1 := Aside0.mk hc1
  clear hr1 hc1
  have HR2 := Aside0.mk hr2
  have HC2 := Aside0.mk hc2
  clear hr2 hc2
  have H : (if 0 < (l770.length : Int) then (if 0 ≤ a3 then (if a3 < (((rd_T103 l770 0).f2).length : Int) then (hat_game_guess.l0 k l770 l1 l2 a3 0 (rd_L2 ((rd_T103 l770 0).f2) a3) ((rd_L2 ((rd_T103 l770 0).f2) a3).length : Int) 0) else (none)) else (none)) else (none)) = some r := h
  clear h
  by_cases c5 : 0 < (l770.length : Int)
  · rw [if_pos c5] at H
    have c5b0 : decide (0 < (l770.length : Int)) = true := decide_eq_true c5
    have c5b1 : decide (0 < l770.length) = true := decide_eq_true (by omega)
    clear c5
    by_cases c6 : 0 ≤ a3
    · rw [if_pos c6] at H
      have c6b0 : decide (0 ≤ a3) = true := decide_eq_true c6
      clear c6
      by_cases c7 : a3 < (((rd_T103 l770 0).f2).length : Int)
      · rw [if_pos c7] at H
        have c7b0 : decide (a3 < (((rd_T103 l770 0).f2).length : Int)) = true := decide_eq_true c7
        clear c7
        have H' := Aside0.mk H
        clear H
        have p535 : 0 ≤ (0 : Int) := (by omega)
        have q535 : 0 < (l770.length : Int) := of_decide_eq_true (by first | (with_reducible assumption) | assumption)
        obtain ⟨ad535, A535_2, c535_2, e535, hx535_0, hx535_1, hx535_2, hl535_2, hi535_2⟩ := at_T103 HR770.out 0 p535 q535
        cases e535
        (try simp only [show (0 : Int).toNat = 0 from rfl, Nat.zero_mul, rp_add0] at hx535_0)
        (try simp only [show (0 : Int).toNat = 0 from rfl, Nat.zero_mul, rp_add0] at hx535_1)
        (try simp only [show (0 : Int).toNat = 0 from rfl, Nat.zero_mul, rp_add0] at hx535_2)
        have qi535 : (0 < l770.length) = True := eq_true (by omega)
        (try rw [show ((0 : Int)).toNat = 0 from rfl] at hx535_0)
        (try rw [show 0 * 3 = 0 from rfl] at hx535_0)
        (try rw [Addr.add_zero'] at hx535_0)
        (try rw [show ((0 : Int)).toNat = 0 from rfl] at hx535_1)
        (try rw [show 0 * 3 = 0 from rfl] at hx535_1)
        (try rw [Addr.add_zero'] at hx535_1)
        (try rw [show ((0 : Int)).toNat = 0 from rfl] at hx535_2)
        (try rw [show 0 * 3 = 0 from rfl] at hx535_2)
        (try rw [Addr.add_zero'] at hx535_2)
        have HR535_2 := Aside0.mk hi535_2
        have HC535_2 := Aside0.mk hl535_2
        clear hi535_2 hl535_2
        replace p535 := eq_true p535
        replace q535 := eq_true q535
        have p536 : 0 ≤ (a3 : Int) := of_decide_eq_true (by first | (with_reducible assumption) | assumption)
        have q536 : a3 < (((rd_T103 l770 0).f2).length : Int) := of_decide_eq_true (by first | (with_reducible assumption) | assumption)
        obtain ⟨ad536, A536_0, c536_0, e536, hx536_0, hl536_0, hi536_0⟩ := at_L2 HR535_2.out a3 p536 q536
        cases e536
        have HR536_0 := Aside0.mk hi536_0
        have HC536_0 := Aside0.mk hl536_0
        clear hi536_0 hl536_0
        replace p536 := eq_true p536
        replace q536 := eq_true q536
        go_enter Try.func66, Try.ntmps66
        go_wp2
        repeat (go_quiet (fail); try go_wp2)
        go_loopg [9, 20] k (fun kq v9 v20 w' => ∃ (x9_1 : Int) (x20_1 : Int), v9 = .int .i64 x9_1 ∧ v20 = .int .i64 x20_1 ∧ Aside0 (hat_game_guess.l0 kq l770 l1 l2 a3 x9_1 (rd_L2 ((rd_T103 l770 0).f2) a3) ((rd_L2 ((rd_T103 l770 0).f2) a3).length : Int) x20_1 = some r) ∧ Aside0 (kq ≤ k) ∧ Drawn0 w w')
        case atStart => exact ⟨(0), (0), (by first | rfl | (simp; done) | (simp [*]; done)), (by first | rfl | (simp; done) | (simp [*]; done)), H', ⟨Nat.le_refl _⟩, by repeat (first | exact Drawn0.refl _ | apply Drawn0.step)⟩
        case round =>
          clear H'
          try clear c1
          try clear c2
          try clear p2
          try clear c5
          try clear c5b0
          try clear c5b1
          try clear p5
          try clear q5
          try clear hx5
          try clear qi5
          try clear c6
          try clear c6b0
          try clear c7
          try clear c7b0
          try clear hx535_0
          try clear hx535_1
          try clear hx535_2
          try clear hx536_0
          try clear p535
          try clear p536
          try clear q535
          try clear q536
          obtain ⟨x9_1, x20_1, rfl, rfl, HA, HK1, ⟨m1, rfl⟩⟩ := hrel
          cases gk with
          | zero => exact absurd HA.out (by simp [hat_game_guess.l0])
          | succ k1 =>
            have H := HA.out
            clear HA
            simp only [hat_game_guess.l0] at H
            by_cases c8 : x20_1 < ((rd_L2 ((rd_T103 l770 0).f2) a3).length : Int)
            · rw [if_pos c8] at H
              have c8b0 : decide (x20_1 < ((rd_L2 ((rd_T103 l770 0).f2) a3).length : Int)) = true := decide_eq_true c8
              clear c8
              by_cases c9 : 0 ≤ x20_1
              · rw [if_pos c9] at H
                have c9b0 : decide (0 ≤ x20_1) = true := decide_eq_true c9
                clear c9
                by_cases c10 : x20_1 < ((rd_L2 ((rd_T103 l770 0).f2) a3).length : Int)
                · rw [if_pos c10] at H
                  have c10b0 : decide (x20_1 < ((rd_L2 ((rd_T103 l770 0).f2) a3).length : Int)) = true := decide_eq_true c10
                  clear c10
                  by_cases c11 : 0 ≤ (rd (rd_L2 ((rd_T103 l770 0).f2) a3) x20_1)
                  · rw [if_pos c11] at H
                    have c11b0 : decide (0 ≤ (rd (rd_L2 ((rd_T103 l770 0).f2) a3) x20_1)) = true := decide_eq_true c11
                    clear c11
                    by_cases c12 : (rd (rd_L2 ((rd_T103 l770 0).f2) a3) x20_1) < (l2.length : Int)
                    · rw [if_pos c12] at H
                      have c12b0 : decide ((rd (rd_L2 ((rd_T103 l770 0).f2) a3) x20_1) < (l2.length : Int)) = true := decide_eq_true c12
                      clear c12
                      by_cases c13 : 0 < (l770.length : Int)
                      · rw [if_pos c13] at H
                        have c13b0 : decide (0 < (l770.length : Int)) = true := decide_eq_true c13
                        have c13b1 : decide (0 < l770.length) = true := decide_eq_true (by omega)
                        clear c13
                        replace H := Option.bind_eq_some_iff.mp H
                        obtain ⟨t540, A140, H⟩ := H
                        replace H : (hat_game_guess.l0 k1 l770 l1 l2 a3 (wrap64 (x9_1 + (wrap64 ((rd l2 (rd (rd_L2 ((rd_T103 l770 0).f2) a3) x20_1)) * t540)))) (rd_L2 ((rd_T103 l770 0).f2) a3) ((rd_L2 ((rd_T103 l770 0).f2) a3).length : Int) (wrap64 (x20_1 + 1))) = some r := H
                        have A14 := Aside0.mk A140
                        clear A140
                        have H' := Aside0.mk H
                        clear H
                        have p537 : 0 ≤ (x20_1 : Int) := of_decide_eq_true (by first | (with_reducible assumption) | assumption)
                        have q537 : x20_1 < ((rd_L2 ((rd_T103 l770 0).f2) a3).length : Int) := of_decide_eq_true (by first | (with_reducible assumption) | assumption)
                        obtain ⟨ad537, e537, hx537_0⟩ := Kd.at_int HR536_0.out x20_1 p537 q537
                        cases e537
                        replace p537 := eq_true p537
                        replace q537 := eq_true q537
                        have p538 : 0 ≤ ((rd (rd_L2 ((rd_T103 l770 0).f2) a3) x20_1) : Int) := of_decide_eq_true (by first | (with_reducible assumption) | assumption)
                        have q538 : (rd (rd_L2 ((rd_T103 l770 0).f2) a3) x20_1) < (l2.length : Int) := of_decide_eq_true (by first | (with_reducible assumption) | assumption)
                        obtain ⟨ad538, e538, hx538_0⟩ := Kd.at_int HR2.out (rd (rd_L2 ((rd_T103 l770 0).f2) a3) x20_1) p538 q538
                        cases e538
                        replace p538 := eq_true p538
                        replace q538 := eq_true q538
                        have p539 : 0 ≤ (0 : Int) := (by omega)
                        have q539 : 0 < (l770.length : Int) := of_decide_eq_true (by first | (with_reducible assumption) | assumption)
                        obtain ⟨ad539, A539_2, c539_2, e539, hx539_0, hx539_1, hx539_2, hl539_2, hi539_2⟩ := at_T103 HR770.out 0 p539 q539
                        obtain rfl : ad535 = ad539 := (by injection e539)
                        (try simp only [show (0 : Int).toNat = 0 from rfl, Nat.zero_mul, rp_add0] at hx539_0)
                        (try simp only [show (0 : Int).toNat = 0 from rfl, Nat.zero_mul, rp_add0] at hx539_1)
                        (try simp only [show (0 : Int).toNat = 0 from rfl, Nat.zero_mul, rp_add0] at hx539_2)
                        have qi539 : (0 < l770.length) = True := eq_true (by omega)
                        (try rw [show ((0 : Int)).toNat = 0 from rfl] at hx539_0)
                        (try rw [show 0 * 3 = 0 from rfl] at hx539_0)
                        (try rw [Addr.add_zero'] at hx539_0)
                        (try rw [show ((0 : Int)).toNat = 0 from rfl] at hx539_1)
                        (try rw [show 0 * 3 = 0 from rfl] at hx539_1)
                        (try rw [Addr.add_zero'] at hx539_1)
                        (try rw [show ((0 : Int)).toNat = 0 from rfl] at hx539_2)
                        (try rw [show 0 * 3 = 0 from rfl] at hx539_2)
                        (try rw [Addr.add_zero'] at hx539_2)
                        have HR539_2 := Aside0.mk hi539_2
                        have HC539_2 := Aside0.mk hl539_2
                        clear hi539_2 hl539_2
                        replace p539 := eq_true p539
                        replace q539 := eq_true q539
                        go_wp2_with (first | (go_at_call 61; (with_reducible refine (hat_power.calls k1 ((rd_T103 l770 0).f1) x20_1 t540 _ A14.out).mono ?_); rintro e w' ⟨rfl, ⟨nd, rfl⟩⟩; (try first | exact ⟨rfl, _, World.drewN_drewN _ _ _⟩ | exact ⟨rfl, _, Eq.trans (World.drewN_drewN _ _ _) (congrArg (World.drewN _) (Nat.add_assoc _ _ _))⟩)))
                        repeat (go_quiet (first | (go_at_call 61; (with_reducible refine (hat_power.calls k1 ((rd_T103 l770 0).f1) x20_1 t540 _ A14.out).mono ?_); rintro e w' ⟨rfl, ⟨nd, rfl⟩⟩; (try first | exact ⟨rfl, _, World.drewN_drewN _ _ _⟩ | exact ⟨rfl, _, Eq.trans (World.drewN_drewN _ _ _) (congrArg (World.drewN _) (Nat.add_assoc _ _ _))⟩))); try go_wp2_with (first | (go_at_call 61; (with_reducible refine (hat_power.calls k1 ((rd_T103 l770 0).f1) x20_1 t540 _ A14.out).mono ?_); rintro e w' ⟨rfl, ⟨nd, rfl⟩⟩; (try first | exact ⟨rfl, _, World.drewN_drewN _ _ _⟩ | exact ⟨rfl, _, Eq.trans (World.drewN_drewN _ _ _) (congrArg (World.drewN _) (Nat.add_assoc _ _ _))⟩))))
                        go_roundg k1
                        case measure => have := HK1.out; omega
                        case rel => exact ⟨(wrap64 (x9_1 + (wrap64 ((rd l2 (rd (rd_L2 ((rd_T103 l770 0).f2) a3) x20_1)) * t540)))), (wrap64 (x20_1 + 1)), (by first | rfl | (simp; done) | (simp [*]; done)), (by first | rfl | (simp; done) | (simp [*]; done)), H', ⟨by have := HK1.out; omega⟩, by repeat (first | exact Drawn0.refl _ | apply Drawn0.step)⟩
                      · rw [if_neg c13] at H
                        exact absurd H (by simp)
                    · rw [if_neg c12] at H
                      exact absurd H (by simp)
                  · rw [if_neg c11] at H
                    exact absurd H (by simp)
                · rw [if_neg c10] at H
                  exact absurd H (by simp)
              · rw [if_neg c9] at H
                exact absurd H (by simp)
            · rw [if_neg c8] at H
              have c8b0 : decide (x20_1 < ((rd_L2 ((rd_T103 l770 0).f2) a3).length : Int)) = false := decide_eq_false c8
              clear c8
              by_cases c15 : 0 ≤ a3
              · rw [if_pos c15] at H
                have c15b0 : decide (0 ≤ a3) = true := decide_eq_true c15
                clear c15
                by_cases c16 : a3 < (l1.length : Int)
                · rw [if_pos c16] at H
                  have c16b0 : decide (a3 < (l1.length : Int)) = true := decide_eq_true c16
                  clear c16
                  by_cases c17 : 0 ≤ x9_1
                  · rw [if_pos c17] at H
                    have c17b0 : decide (0 ≤ x9_1) = true := decide_eq_true c17
                    clear c17
                    by_cases c18 : x9_1 < ((rd_L2 l1 a3).length : Int)
                    · rw [if_pos c18] at H
                      have c18b0 : decide (x9_1 < ((rd_L2 l1 a3).length : Int)) = true := decide_eq_true c18
                      clear c18
                      obtain rfl := Option.some.inj H
                      have p541 : 0 ≤ (a3 : Int) := of_decide_eq_true (by first | (with_reducible assumption) | assumption)
                      have q541 : a3 < (l1.length : Int) := of_decide_eq_true (by first | (with_reducible assumption) | assumption)
                      obtain ⟨ad541, A541_0, c541_0, e541, hx541_0, hl541_0, hi541_0⟩ := at_L2 HR1.out a3 p541 q541
                      cases e541
                      have HR541_0 := Aside0.mk hi541_0
                      have HC541_0 := Aside0.mk hl541_0
                      clear hi541_0 hl541_0
                      replace p541 := eq_true p541
                      replace q541 := eq_true q541
                      have p542 : 0 ≤ (x9_1 : Int) := of_decide_eq_true (by first | (with_reducible assumption) | assumption)
                      have q542 : x9_1 < ((rd_L2 l1 a3).length : Int) := of_decide_eq_true (by first | (with_reducible assumption) | assumption)
                      obtain ⟨ad542, e542, hx542_0⟩ := Kd.at_int HR541_0.out x9_1 p542 q542
                      cases e542
                      replace p542 := eq_true p542
                      replace q542 := eq_true q542
                      go_wp2
                      repeat (go_quiet (fail); try go_wp2)
                      go_ret
                      exact ⟨by first | rfl | (simp; done) | (simp [*]; done), by repeat (first | exact Drawn0.refl _ | apply Drawn0.step)⟩
                    · rw [if_neg c18] at H
                      exact absurd H (by simp)
                  · rw [if_neg c17] at H
                    exact absurd H (by simp)
                · rw [if_neg c16] at H
                  exact absurd H (by simp)
              · rw [if_neg c15] at H
                exact absurd H (by simp)
      · rw [if_neg c7] at H
        exact absurd H (by simp)
    · rw [if_neg c6] at H
      exact absurd H (by simp)
  · rw [if_neg c5] at H
    exact absurd H (by simp)

end Go.Proofs.Ytgjmfehdjbepiaa.P

end

section
-- written by a program of this session
namespace Go.Proofs.Ytgjmfehdjbepiaa.P
open Go.RowKit Go.Proofs.YtgjmfehdjbepiaaW.PrintWords Go.Proofs.YtgjmfehdjbepiaaW.PrintLast Go.Proofs.YtgjmfehdjbepiaaW.PrintMore
attribute [local go_sem] max2_int min2_int max_two min_two max_three min_three max_four min_four   -- for this text's walks alone
set_option linter.unusedVariables false
set_option linter.unusedSimpArgs false

/-! ### hat_game_right: function 70 -/
def hat_game_right.l0 : Nat → List (S103) → List (List Int) → List Int → Int → Int → Int → Option (Int)
  | 0, _, _, _, _, _, _ => none
  | k + 1, x0, x1, x2, x7, x12, x13 => if x13 < x12 then ((hat_game_guess.f k x0 x1 x2 x13).bind fun t600 => (if 0 ≤ x13 then (if x13 < (x2.length : Int) then (if t600 = (rd x2 x13) then (hat_game_right.l0 k x0 x1 x2 (wrap64 (x7 + 1)) x12 (wrap64 (x13 + 1))) else (hat_game_right.l0 k x0 x1 x2 x7 x12 (wrap64 (x13 + 1)))) else (none)) else (none))) else (some x7)
def hat_game_right.f (k : Nat) (l770 : List (S103)) (l1 : List (List Int)) (l2 : List Int) : Option (Int) := if 0 < (l770.length : Int) then (hat_game_right.l0 k l770 l1 l2 0 ((rd_T103 l770 0).f0) 0) else (none)
theorem hat_game_right.mono_l : ∀ k, (∀ y0 y1 y2 y3 y4 y5, LeO (hat_game_right.l0 k y0 y1 y2 y3 y4 y5) (hat_game_right.l0 (k + 1) y0 y1 y2 y3 y4 y5))
  | 0 => fun _ _ _ _ _ _ r h => by simp [hat_game_right.l0] at h
  | k + 1 => by
    have ih0 := hat_game_right.mono_l k
    · intro y0 y1 y2 y3 y4 y5
      unfold hat_game_right.l0
      repeat' first
      | (with_reducible exact ih0 _ _ _ _ _ _)
      | (with_reducible exact hat_game_guess.mono _ _ _ _ _)
      | (with_reducible exact LeO.refl _)
      | (with_reducible exact LeO.none _)
      | (with_reducible refine LeO.ite ?_ ?_)
      | (with_reducible refine LeO.bind ?_ (fun _ => ?_))
      | exact ih0 _ _ _ _ _ _
      | exact hat_game_guess.mono _ _ _ _ _
      | exact LeO.none _
      | refine LeO.ite ?_ ?_
      | refine LeO.bind ?_ (fun _ => ?_)
theorem hat_game_right.mono : ∀ a0 a1 a2 k, LeO (hat_game_right.f k a0 a1 a2) (hat_game_right.f (k + 1) a0 a1 a2) := by
  intro a0 a1 a2 k
  have ih0 := hat_game_right.mono_l k
  unfold hat_game_right.f
  repeat' first
      | (with_reducible exact ih0 _ _ _ _ _ _)
      | (with_reducible exact hat_game_guess.mono _ _ _ _ _)
      | (with_reducible exact LeO.refl _)
      | (with_reducible exact LeO.none _)
      | (with_reducible refine LeO.ite ?_ ?_)
      | (with_reducible refine LeO.bind ?_ (fun _ => ?_))
      | exact ih0 _ _ _ _ _ _
      | exact hat_game_guess.mono _ _ _ _ _
      | exact LeO.none _
      | refine LeO.ite ?_ ?_
      | refine LeO.bind ?_ (fun _ => ?_)
set_option maxHeartbeats 8000000 in
set_option maxRecDepth 100000 in
theorem hat_game_right.calls (k : Nat) (A770 : Option Addr) (c770 : Nat) (l770 : List (S103)) (A1 : Option Addr) (c1 : Nat) (l1 : List (List Int)) (A2 : Option Addr) (c2 : Nat) (l2 : List Int) (r : Int) (w : World) (hr770 : Kd.C k103 w A770 l770.length l770) (hc770 : l770.length ≤ c770) (hr1 : Kd.C (Kd.slice 3 (Kd.int .i64)) w A1 l1.length l1) (hc1 : l1.length ≤ c1) (hr2 : Kd.C (Kd.int .i64) w A2 l2.length l2) (hc2 : l2.length ≤ c2) (h : hat_game_right.f k l770 l1 l2 = some r) :
    Calls Try.prog 70 #[.pointer A770, .slice A1 l1.length c1, .slice A2 l2.length c2] w fun e w' => e = .returned (.int .i64 r) ∧ Drawn0 w w' := by
  have HR770 := Aside0.mk hr770
  have HC770 := Aside0.mk hc770
  clear hr770 hc770
  have HR1 := Aside0.mk hr1
  have HC1 := Aside0.mk hc1
  clear hr1 hc1
  have HR2 := Aside0.mk hr2
  have HC2 := Aside0.mk hc2
  clear hr2 hc2
  have H : (if 0 < (l770.length : Int) then (hat_game_right.l0 k l770 l1 l2 0 ((rd_T103 l770 0).f0) 0) else (none)) = some r := h
  clear h
  by_cases c4 : 0 < (l770.length : Int)
  · rw [if_pos c4] at H
    have c4b0 : decide (0 < (l770.length : Int)) = true := decide_eq_true c4
    have c4b1 : decide (0 < l770.length) = true := decide_eq_true (by omega)
    clear c4
    have H' := Aside0.mk H
    clear H
    have p599 : 0 ≤ (0 : Int) := (by omega)
    have q599 : 0 < (l770.length : Int) := of_decide_eq_true (by first | (with_reducible assumption) | assumption)
    obtain ⟨ad599, A599_2, c599_2, e599, hx599_0, hx599_1, hx599_2, hl599_2, hi599_2⟩ := at_T103 HR770.out 0 p599 q599
    cases e599
    (try simp only [show (0 : Int).toNat = 0 from rfl, Nat.zero_mul, rp_add0] at hx599_0)
    (try simp only [show (0 : Int).toNat = 0 from rfl, Nat.zero_mul, rp_add0] at hx599_1)
    (try simp only [show (0 : Int).toNat = 0 from rfl, Nat.zero_mul, rp_add0] at hx599_2)
    have qi599 : (0 < l770.length) = True := eq_true (by omega)
    (try rw [show ((0 : Int)).toNat = 0 from rfl] at hx599_0)
    (try rw [show 0 * 3 = 0 from rfl] at hx599_0)
    (try rw [Addr.add_zero'] at hx599_0)
    (try rw [show ((0 : Int)).toNat = 0 from rfl] at hx599_1)
    (try rw [show 0 * 3 = 0 from rfl] at hx599_1)
    (try rw [Addr.add_zero'] at hx599_1)
    (try rw [show ((0 : Int)).toNat = 0 from rfl] at hx599_2)
    (try rw [show 0 * 3 = 0 from rfl] at hx599_2)
    (try rw [Addr.add_zero'] at hx599_2)
    have HR599_2 := Aside0.mk hi599_2
    have HC599_2 := Aside0.mk hl599_2
    clear hi599_2 hl599_2
    replace p599 := eq_true p599
    replace q599 := eq_true q599
    go_enter Try.func70, Try.ntmps70
    go_wp2
    repeat (go_quiet (fail); try go_wp2)
    go_loopg [7, 13] k (fun kq v7 v13 w' => ∃ (x7_1 : Int) (x13_1 : Int), v7 = .int .i64 x7_1 ∧ v13 = .int .i64 x13_1 ∧ Aside0 (hat_game_right.l0 kq l770 l1 l2 x7_1 ((rd_T103 l770 0).f0) x13_1 = some r) ∧ Aside0 (kq ≤ k) ∧ Drawn0 w w')
    case atStart => exact ⟨(0), (0), (by first | rfl | (simp; done) | (simp [*]; done)), (by first | rfl | (simp; done) | (simp [*]; done)), H', ⟨Nat.le_refl _⟩, by repeat (first | exact Drawn0.refl _ | apply Drawn0.step)⟩
    case round =>
      clear H'
      try clear c1
      try clear c2
      try clear p2
      try clear c4
      try clear c4b0
      try clear c4b1
      try clear hx599_0
      try clear hx599_1
      try clear hx599_2
      try clear p599
      try clear q599
      obtain ⟨x7_1, x13_1, rfl, rfl, HA, HK1, ⟨m1, rfl⟩⟩ := hrel
      cases gk with
      | zero => exact absurd HA.out (by simp [hat_game_right.l0])
      | succ k1 =>
        have H := HA.out
        clear HA
        simp only [hat_game_right.l0] at H
        by_cases c5 : x13_1 < ((rd_T103 l770 0).f0)
        · rw [if_pos c5] at H
          have c5b0 : decide (x13_1 < ((rd_T103 l770 0).f0)) = true := decide_eq_true c5
          clear c5
          replace H := Option.bind_eq_some_iff.mp H
          obtain ⟨t600, A60, H⟩ := H
          replace H : (if 0 ≤ x13_1 then (if x13_1 < (l2.length : Int) then (if t600 = (rd l2 x13_1) then (hat_game_right.l0 k1 l770 l1 l2 (wrap64 (x7_1 + 1)) ((rd_T103 l770 0).f0) (wrap64 (x13_1 + 1))) else (hat_game_right.l0 k1 l770 l1 l2 x7_1 ((rd_T103 l770 0).f0) (wrap64 (x13_1 + 1)))) else (none)) else (none)) = some r := H
          have A6 := Aside0.mk A60
          clear A60
          by_cases c7 : 0 ≤ x13_1
          · rw [if_pos c7] at H
            have c7b0 : decide (0 ≤ x13_1) = true := decide_eq_true c7
            clear c7
            by_cases c8 : x13_1 < (l2.length : Int)
            · rw [if_pos c8] at H
              have c8b0 : decide (x13_1 < (l2.length : Int)) = true := decide_eq_true c8
              clear c8
              by_cases c9 : t600 = (rd l2 x13_1)
              · rw [if_pos c9] at H
                have c9b0 : (t600 == (rd l2 x13_1)) = true := beq_iff_eq.mpr c9
                have c9b1 : (t600 != (rd l2 x13_1)) = false := bne_eq_false_iff_eq.mpr c9
                clear c9
                have H' := Aside0.mk H
                clear H
                go_wp2_with (first | (go_at_call 66; (with_reducible refine (hat_game_guess.calls k1 _ c770 l770 _ _ l1 _ _ l2 x13_1 t600 _ ?side1 ?side2 ?side3 ?side4 ?side5 ?side6 A6.out).mono ?_); (case side1 => repeat (first | exact HR770.out | (with_reducible refine Kd.C_alloc ?_ _) | (with_reducible refine Kd.C_drewN ?_ _) | (with_reducible refine Kd.C_drew ?_))); (case side2 => exact HC770.out); (case side3 => repeat (first | exact HR1.out | (with_reducible refine Kd.C_alloc ?_ _) | (with_reducible refine Kd.C_drewN ?_ _) | (with_reducible refine Kd.C_drew ?_))); (case side4 => exact HC1.out); (case side5 => repeat (first | exact HR2.out | (with_reducible refine Kd.C_alloc ?_ _) | (with_reducible refine Kd.C_drewN ?_ _) | (with_reducible refine Kd.C_drew ?_))); (case side6 => exact HC2.out); rintro e w' ⟨rfl, ⟨nd, rfl⟩⟩; (try first | exact ⟨rfl, _, World.drewN_drewN _ _ _⟩ | exact ⟨rfl, _, Eq.trans (World.drewN_drewN _ _ _) (congrArg (World.drewN _) (Nat.add_assoc _ _ _))⟩); have p601 : 0 ≤ (x13_1 : Int) := of_decide_eq_true (by first | (with_reducible assumption) | assumption); have q601 : x13_1 < (l2.length : Int) := of_decide_eq_true (by first | (with_reducible assumption) | assumption); obtain ⟨ad601, e601, hx601_0⟩ := Kd.at_int HR2.out x13_1 p601 q601; cases e601; replace p601 := eq_true p601; replace q601 := eq_true q601))
                repeat (go_quiet (first | (go_at_call 66; (with_reducible refine (hat_game_guess.calls k1 _ c770 l770 _ _ l1 _ _ l2 x13_1 t600 _ ?side1 ?side2 ?side3 ?side4 ?side5 ?side6 A6.out).mono ?_); (case side1 => repeat (first | exact HR770.out | (with_reducible refine Kd.C_alloc ?_ _) | (with_reducible refine Kd.C_drewN ?_ _) | (with_reducible refine Kd.C_drew ?_))); (case side2 => exact HC770.out); (case side3 => repeat (first | exact HR1.out | (with_reducible refine Kd.C_alloc ?_ _) | (with_reducible refine Kd.C_drewN ?_ _) | (with_reducible refine Kd.C_drew ?_))); (case side4 => exact HC1.out); (case side5 => repeat (first | exact HR2.out | (with_reducible refine Kd.C_alloc ?_ _) | (with_reducible refine Kd.C_drewN ?_ _) | (with_reducible refine Kd.C_drew ?_))); (case side6 => exact HC2.out); rintro e w' ⟨rfl, ⟨nd, rfl⟩⟩; (try first | exact ⟨rfl, _, World.drewN_drewN _ _ _⟩ | exact ⟨rfl, _, Eq.trans (World.drewN_drewN _ _ _) (congrArg (World.drewN _) (Nat.add_assoc _ _ _))⟩); have p601 : 0 ≤ (x13_1 : Int) := of_decide_eq_true (by first | (with_reducible assumption) | assumption); have q601 : x13_1 < (l2.length : Int) := of_decide_eq_true (by first | (with_reducible assumption) | assumption); obtain ⟨ad601, e601, hx601_0⟩ := Kd.at_int HR2.out x13_1 p601 q601; cases e601; replace p601 := eq_true p601; replace q601 := eq_true q601)); try go_wp2_with (first | (go_at_call 66; (with_reducible refine (hat_game_guess.calls k1 _ c770 l770 _ _ l1 _ _ l2 x13_1 t600 _ ?side1 ?side2 ?side3 ?side4 ?side5 ?side6 A6.out).mono ?_); (case side1 => repeat (first | exact HR770.out | (with_reducible refine Kd.C_alloc ?_ _) | (with_reducible refine Kd.C_drewN ?_ _) | (with_reducible refine Kd.C_drew ?_))); (case side2 => exact HC770.out); (case side3 => repeat (first | exact HR1.out | (with_reducible refine Kd.C_alloc ?_ _) | (with_reducible refine Kd.C_drewN ?_ _) | (with_reducible refine Kd.C_drew ?_))); (case side4 => exact HC1.out); (case side5 => repeat (first | exact HR2.out | (with_reducible refine Kd.C_alloc ?_ _) | (with_reducible refine Kd.C_drewN ?_ _) | (with_reducible refine Kd.C_drew ?_))); (case side6 => exact HC2.out); rintro e w' ⟨rfl, ⟨nd, rfl⟩⟩; (try first | exact ⟨rfl, _, World.drewN_drewN _ _ _⟩ | exact ⟨rfl, _, Eq.trans (World.drewN_drewN _ _ _) (congrArg (World.drewN _) (Nat.add_assoc _ _ _))⟩); have p601 : 0 ≤ (x13_1 : Int) := of_decide_eq_true (by first | (with_reducible assumption) | assumption); have q601 : x13_1 < (l2.length : Int) := of_decide_eq_true (by first | (with_reducible assumption) | assumption); obtain ⟨ad601, e601, hx601_0⟩ := Kd.at_int HR2.out x13_1 p601 q601; cases e601; replace p601 := eq_true p601; replace q601 := eq_true q601)))
                go_roundg k1
                case measure => have := HK1.out; omega
                case rel => exact ⟨(wrap64 (x7_1 + 1)), (wrap64 (x13_1 + 1)), (by first | rfl | (simp; done) | (simp [*]; done)), (by first | rfl | (simp; done) | (simp [*]; done)), H', ⟨by have := HK1.out; omega⟩, by repeat (first | exact Drawn0.refl _ | apply Drawn0.step)⟩
              · rw [if_neg c9] at H
                have c9b0 : (t600 == (rd l2 x13_1)) = false := beq_eq_false_iff_ne.mpr c9
                have c9b1 : (t600 != (rd l2 x13_1)) = true := bne_iff_ne.mpr c9
                have H' := Aside0.mk H
                clear H
                go_wp2_with (first | (go_at_call 66; (with_reducible refine (hat_game_guess.calls k1 _ c770 l770 _ _ l1 _ _ l2 x13_1 t600 _ ?side1 ?side2 ?side3 ?side4 ?side5 ?side6 A6.out).mono ?_); (case side1 => repeat (first | exact HR770.out | (with_reducible refine Kd.C_alloc ?_ _) | (with_reducible refine Kd.C_drewN ?_ _) | (with_reducible refine Kd.C_drew ?_))); (case side2 => exact HC770.out); (case side3 => repeat (first | exact HR1.out | (with_reducible refine Kd.C_alloc ?_ _) | (with_reducible refine Kd.C_drewN ?_ _) | (with_reducible refine Kd.C_drew ?_))); (case side4 => exact HC1.out); (case side5 => repeat (first | exact HR2.out | (with_reducible refine Kd.C_alloc ?_ _) | (with_reducible refine Kd.C_drewN ?_ _) | (with_reducible refine Kd.C_drew ?_))); (case side6 => exact HC2.out); rintro e w' ⟨rfl, ⟨nd, rfl⟩⟩; (try first | exact ⟨rfl, _, World.drewN_drewN _ _ _⟩ | exact ⟨rfl, _, Eq.trans (World.drewN_drewN _ _ _) (congrArg (World.drewN _) (Nat.add_assoc _ _ _))⟩); have p601 : 0 ≤ (x13_1 : Int) := of_decide_eq_true (by first | (with_reducible assumption) | assumption); have q601 : x13_1 < (l2.length : Int) := of_decide_eq_true (by first | (with_reducible assumption) | assumption); obtain ⟨ad601, e601, hx601_0⟩ := Kd.at_int HR2.out x13_1 p601 q601; cases e601; replace p601 := eq_true p601; replace q601 := eq_true q601))
                repeat (go_quiet (first | (go_at_call 66; (with_reducible refine (hat_game_guess.calls k1 _ c770 l770 _ _ l1 _ _ l2 x13_1 t600 _ ?side1 ?side2 ?side3 ?side4 ?side5 ?side6 A6.out).mono ?_); (case side1 => repeat (first | exact HR770.out | (with_reducible refine Kd.C_alloc ?_ _) | (with_reducible refine Kd.C_drewN ?_ _) | (with_reducible refine Kd.C_drew ?_))); (case side2 => exact HC770.out); (case side3 => repeat (first | exact HR1.out | (with_reducible refine Kd.C_alloc ?_ _) | (with_reducible refine Kd.C_drewN ?_ _) | (with_reducible refine Kd.C_drew ?_))); (case side4 => exact HC1.out); (case side5 => repeat (first | exact HR2.out | (with_reducible refine Kd.C_alloc ?_ _) | (with_reducible refine Kd.C_drewN ?_ _) | (with_reducible refine Kd.C_drew ?_))); (case side6 => exact HC2.out); rintro e w' ⟨rfl, ⟨nd, rfl⟩⟩; (try first | exact ⟨rfl, _, World.drewN_drewN _ _ _⟩ | exact ⟨rfl, _, Eq.trans (World.drewN_drewN _ _ _) (congrArg (World.drewN _) (Nat.add_assoc _ _ _))⟩); have p601 : 0 ≤ (x13_1 : Int) := of_decide_eq_true (by first | (with_reducible assumption) | assumption); have q601 : x13_1 < (l2.length : Int) := of_decide_eq_true (by first | (with_reducible assumption) | assumption); obtain ⟨ad601, e601, hx601_0⟩ := Kd.at_int HR2.out x13_1 p601 q601; cases e601; replace p601 := eq_true p601; replace q601 := eq_true q601)); try go_wp2_with (first | (go_at_call 66; (with_reducible refine (hat_game_guess.calls k1 _ c770 l770 _ _ l1 _ _ l2 x13_1 t600 _ ?side1 ?side2 ?side3 ?side4 ?side5 ?side6 A6.out).mono ?_); (case side1 => repeat (first | exact HR770.out | (with_reducible refine Kd.C_alloc ?_ _) | (with_reducible refine Kd.C_drewN ?_ _) | (with_reducible refine Kd.C_drew ?_))); (case side2 => exact HC770.out); (case side3 => repeat (first | exact HR1.out | (with_reducible refine Kd.C_alloc ?_ _) | (with_reducible refine Kd.C_drewN ?_ _) | (with_reducible refine Kd.C_drew ?_))); (case side4 => exact HC1.out); (case side5 => repeat (first | exact HR2.out | (with_reducible refine Kd.C_alloc ?_ _) | (with_reducible refine Kd.C_drewN ?_ _) | (with_reducible refine Kd.C_drew ?_))); (case side6 => exact HC2.out); rintro e w' ⟨rfl, ⟨nd, rfl⟩⟩; (try first | exact ⟨rfl, _, World.drewN_drewN _ _ _⟩ | exact ⟨rfl, _, Eq.trans (World.drewN_drewN _ _ _) (congrArg (World.drewN _) (Nat.add_assoc _ _ _))⟩); have p601 : 0 ≤ (x13_1 : Int) := of_decide_eq_true (by first | (with_reducible assumption) | assumption); have q601 : x13_1 < (l2.length : Int) := of_decide_eq_true (by first | (with_reducible assumption) | assumption); obtain ⟨ad601, e601, hx601_0⟩ := Kd.at_int HR2.out x13_1 p601 q601; cases e601; replace p601 := eq_true p601; replace q601 := eq_true q601)))
                go_roundg k1
                case measure => have := HK1.out; omega
                case rel => exact ⟨(x7_1), (wrap64 (x13_1 + 1)), (by first | rfl | (simp; done) | (simp [*]; done)), (by first | rfl | (simp; done) | (simp [*]; done)), H', ⟨by have := HK1.out; omega⟩, by repeat (first | exact Drawn0.refl _ | apply Drawn0.step)⟩
            · rw [if_neg c8] at H
              exact absurd H (by simp)
          · rw [if_neg c7] at H
            exact absurd H (by simp)
        · rw [if_neg c5] at H
          have c5b0 : decide (x13_1 < ((rd_T103 l770 0).f0)) = false := decide_eq_false c5
          clear c5
          obtain rfl := Option.some.inj H
          go_wp2
          repeat (go_quiet (fail); try go_wp2)
          go_ret
          exact ⟨by first | rfl | (simp; done) | (simp [*]; done), by repeat (first | exact Drawn0.refl _ | apply Drawn0.step)⟩
  · rw [if_neg c4] at H
    exact absurd H (by simp)

end Go.Proofs.Ytgjmfehdjbepiaa.P

end

section
/- Plain laws of hat's small functions: powers, digits, reversal, a player's guess, all hats. -/
namespace Go.Proofs.Ytgjmfehdjbepiaa.P
set_option linter.unusedVariables false
set_option linter.unusedSimpArgs false
open Go.RowKit Go.Proofs.YtgjmfehdjbepiaaW.PrintWords Go.Proofs.YtgjmfehdjbepiaaW.PrintLast Go.Proofs.YtgjmfehdjbepiaaW.PrintMore

theorem wrap_in {x : Int} (h0 : -9223372036854775808 ≤ x) (h1 : x ≤ 9223372036854775807) : wrap64 x = x := by unfold wrap64; omega

/-- powers up to 4^4 -/
theorem pow_small (q : Int) (h0 : 0 ≤ q) (h4 : q ≤ 4) (m : Nat) (hm : m ≤ 8) : 0 ≤ q ^ m ∧ q ^ m ≤ 65536 := by
  have h : q = 0 ∨ q = 1 ∨ q = 2 ∨ q = 3 ∨ q = 4 := by omega
  have hm' : m = 0 ∨ m = 1 ∨ m = 2 ∨ m = 3 ∨ m = 4 ∨ m = 5 ∨ m = 6 ∨ m = 7 ∨ m = 8 := by omega
  rcases h with rfl | rfl | rfl | rfl | rfl <;> rcases hm' with rfl | rfl | rfl | rfl | rfl | rfl | rfl | rfl | rfl <;> decide
theorem pow_l0 (q : Int) (h0 : 0 ≤ q) (h4 : q ≤ 4) (m : Nat) (hm : m ≤ 8) (d : Nat) : ∀ (k i : Nat), i + d = m → d < k → hat_power.l0 k q (q ^ i) m i = some (q ^ m) := by
  induction d with
  | zero =>
    intro k i hi hk
    obtain ⟨k, rfl⟩ : ∃ m, k = m + 1 := ⟨k - 1, by omega⟩
    simp only [hat_power.l0]
    rw [if_neg (by omega), show i = m by omega]
  | succ d ih =>
    intro k i hi hk
    obtain ⟨k, rfl⟩ : ∃ m, k = m + 1 := ⟨k - 1, by omega⟩
    simp only [hat_power.l0]
    have h : 0 ≤ q ^ i.succ ∧ q ^ i.succ ≤ 65536 := pow_small q h0 h4 (i + 1) (by omega)
    rw [if_pos (by omega), wrap_in (x := (i : Int) + 1) (by omega) (by omega), ← Int.pow_succ, wrap_in (by omega) (by omega)]
    exact ih k (i + 1) (by omega) (by omega)
theorem pow_f (q : Int) (h0 : 0 ≤ q) (h4 : q ≤ 4) (m : Nat) (hm : m ≤ 8) (k : Nat) (hk : m < k) : hat_power.f k q m = some (q ^ m) := by
  have := pow_l0 q h0 h4 m hm m k 0 (by omega) hk
  simpa [hat_power.f] using this

/-- The place in a player's table, by the first m players that it sees. -/
def ixTo (q : Int) (row hats : List Int) : Nat → Int
  | 0 => 0
  | m + 1 => ixTo q row hats m + rd hats (rd row m) * q ^ m
/-- Hats of colours below q. -/
def Colours (q : Int) (hats : List Int) : Prop := ∀ c ∈ hats, 0 ≤ c ∧ c < q
/-- A player's list of others. -/
def Below_ (n : Nat) (row : List Int) : Prop := ∀ j ∈ row, 0 ≤ j ∧ j < (n : Int)
theorem rd_mem (l : List Int) (i : Int) (h0 : 0 ≤ i) (h : i < l.length) : rd l i ∈ l := by
  unfold rd
  rw [List.getD_eq_getElem?_getD, List.getElem?_eq_getElem (by omega)]
  exact List.getElem_mem _
theorem ix_bound (q : Int) (row hats : List Int) (hc : Colours q hats) (hr : Below_ hats.length row) (h1 : 1 ≤ q) : ∀ m : Nat, m ≤ row.length → 0 ≤ ixTo q row hats m ∧ ixTo q row hats m < q ^ m
  | 0, _ => by simp [ixTo]
  | m + 1, hm => by
    have ih := ix_bound q row hats hc hr h1 m (by omega)
    have hj := hr _ (rd_mem row m (by omega) (by omega))
    have hx := hc _ (rd_mem hats _ hj.1 hj.2)
    have hp : 0 ≤ q ^ m := Int.pow_nonneg (by omega)
    simp only [ixTo]
    rw [Int.pow_succ]
    have h2 : rd hats (rd row m) * q ^ m ≤ (q - 1) * q ^ m := Int.mul_le_mul_of_nonneg_right (by omega) hp
    have h3 : 0 ≤ rd hats (rd row m) * q ^ m := Int.mul_nonneg hx.1 hp
    rw [Int.sub_mul, Int.one_mul] at h2
    rw [Int.mul_comm (q ^ m) q]
    omega
/-- What a player guesses. -/
def guessP (q : Int) (row table hats : List Int) : Int := rd table (ixTo q row hats row.length)

theorem guess_l0 (n q i : Int) (sees strat : List (List Int)) (hats : List Int) (h1 : 1 ≤ q) (h4 : q ≤ 4) (hi0 : 0 ≤ i) (hi : i < strat.length) (hc : Colours q hats) (hr : Below_ hats.length (rd_L2 sees i)) (hl : (rd_L2 sees i).length ≤ 4)
    (ht : (rd_L2 strat i).length = (q ^ (rd_L2 sees i).length).toNat) (d : Nat) : ∀ (k m : Nat), m + d = (rd_L2 sees i).length → d + 8 < k →
    hat_game_guess.l0 k [⟨n, q, sees⟩] strat hats i (ixTo q (rd_L2 sees i) hats m) (rd_L2 sees i) ((rd_L2 sees i).length : Int) m = some (guessP q (rd_L2 sees i) (rd_L2 strat i) hats) := by
  induction d with
  | zero =>
    intro k m hm hk
    obtain ⟨k, rfl⟩ : ∃ m, k = m + 1 := ⟨k - 1, by omega⟩
    have hb := ix_bound q _ _ hc hr h1 m (by omega)
    simp only [hat_game_guess.l0]
    have e : m = (rd_L2 sees i).length := by omega
    have hlt : ixTo q (rd_L2 sees i) hats m < ((rd_L2 strat i).length : Int) := by rw [ht, ← e]; omega
    rw [if_neg (by omega), if_pos hi0, if_pos hi, if_pos hb.1, if_pos hlt, e]; rfl
  | succ d ih =>
    intro k m hm hk
    obtain ⟨k, rfl⟩ : ∃ m, k = m + 1 := ⟨k - 1, by omega⟩
    have hj := hr _ (rd_mem (rd_L2 sees i) m (by omega) (by omega))
    have hx := hc _ (rd_mem hats _ hj.1 hj.2)
    have hb := ix_bound q _ _ hc hr h1 m (by omega)
    have hb1 := ix_bound q _ _ hc hr h1 (m + 1) (by omega)
    have hp := pow_small q (by omega) h4 m (by omega)
    have hp1 := pow_small q (by omega) h4 (m + 1) (by omega)
    simp only [ixTo] at hb1
    have h2 : 0 ≤ rd hats (rd (rd_L2 sees i) m) * q ^ m := Int.mul_nonneg hx.1 hp.1
    have hz : (rd_T103 [(⟨n, q, sees⟩ : S103)] 0).f1 = q := rfl
    simp only [hat_game_guess.l0]
    rw [if_pos (by omega), if_pos (by omega), if_pos (by omega), if_pos hj.1, if_pos hj.2, if_pos (by simp), hz, pow_f q (by omega) h4 m (by omega) k (by omega)]
    simp only [Option.bind_some]
    rw [wrap_in (x := rd hats (rd (rd_L2 sees i) m) * q ^ m) (by omega) (by omega), wrap_in (x := ixTo q (rd_L2 sees i) hats m + _) (by omega) (by omega), wrap_in (x := (m : Int) + 1) (by omega) (by omega)]
    exact ih k (m + 1) (by omega) (by omega)
theorem guess_some (n q i : Int) (sees strat : List (List Int)) (hats : List Int) (h1 : 1 ≤ q) (h4 : q ≤ 4) (hi0 : 0 ≤ i) (his : i < sees.length) (hi : i < strat.length) (hc : Colours q hats) (hr : Below_ hats.length (rd_L2 sees i)) (hl : (rd_L2 sees i).length ≤ 4)
    (ht : (rd_L2 strat i).length = (q ^ (rd_L2 sees i).length).toNat) (k : Nat) (hk : 12 < k) : hat_game_guess.f k [⟨n, q, sees⟩] strat hats i = some (guessP q (rd_L2 sees i) (rd_L2 strat i) hats) := by
  unfold hat_game_guess.f
  have hz : (rd_T103 [(⟨n, q, sees⟩ : S103)] 0).f2 = sees := rfl
  rw [if_pos (by simp), if_pos hi0, hz, if_pos his]
  exact guess_l0 n q i sees strat hats h1 h4 hi0 hi hc hr hl ht (rd_L2 sees i).length k 0 (by omega) (by omega)

/-- The digits of a number, the lowest one first. -/
def digs (q : Int) : Nat → Int → List Int
  | 0, _ => []
  | n + 1, x => x % q :: digs q n (x / q)
theorem digs_len (q : Int) : ∀ (n : Nat) (x : Int), (digs q n x).length = n
  | 0, _ => rfl
  | n + 1, x => by simp [digs, digs_len q n]
theorem digs_mem (q : Int) (h : 1 ≤ q) : ∀ (n : Nat) (x : Int), Colours q (digs q n x)
  | 0, _ => fun c hc => by simp [digs] at hc
  | n + 1, x => fun c hc => by
    simp only [digs, List.mem_cons] at hc
    rcases hc with rfl | hc
    · exact ⟨Int.emod_nonneg _ (by omega), Int.emod_lt_of_pos _ (by omega)⟩
    · exact digs_mem q h n _ c hc
theorem digits_l0 (q : Int) (hq : 1 ≤ q) (n : Nat) (hn : n ≤ 1000000) (d : Nat) : ∀ (k i : Nat) (x : Int) (p : List Int), 0 ≤ x → x ≤ 9223372036854775807 → i + d = n → p.length = i → d < k →
    hat_digits.l0 k x q (p ++ List.replicate d 0) n i = some (p ++ digs q d x) := by
  induction d with
  | zero =>
    intro k i x p hx hx2 hi hp hk
    obtain ⟨k, rfl⟩ : ∃ m, k = m + 1 := ⟨k - 1, by omega⟩
    simp only [hat_digits.l0]
    rw [if_neg (by omega)]; rfl
  | succ d ih =>
    intro k i x p hx hx2 hi hp hk
    obtain ⟨k, rfl⟩ : ∃ m, k = m + 1 := ⟨k - 1, by omega⟩
    simp only [hat_digits.l0]
    have hm : Int.tmod x q = x % q := Int.tmod_eq_emod_of_nonneg hx
    have hd : Int.tdiv x q = x / q := Int.tdiv_eq_ediv_of_nonneg hx
    have h1 : 0 ≤ x / q := Int.ediv_nonneg hx (by omega)
    have h2 : x / q ≤ x := Int.ediv_le_self _ hx
    have hs : (p ++ List.replicate (d + 1) (0 : Int)).set i (x % q) = (p ++ [x % q]) ++ List.replicate d 0 := by
      rw [List.set_append_right _ _ (by omega), show i - p.length = 0 by omega, List.replicate_succ, List.set_cons_zero, List.append_assoc]; rfl
    rw [if_pos (by omega), if_neg (by omega), if_pos (by omega), if_pos (by simp; omega), hm, hd, wrap_in (x := x / q) (by omega) (by omega), wrap_in (x := (i : Int) + 1) (by omega) (by omega), Int.toNat_natCast, hs]
    rw [show ((i : Int) + 1) = ((i + 1 : Nat) : Int) from rfl, ih k (i + 1) (x / q) (p ++ [x % q]) h1 (by omega) (by omega) (by simp; omega) (by omega)]
    rw [List.append_assoc]; rfl
theorem digits_f (q : Int) (hq : 1 ≤ q) (n : Nat) (hn : n ≤ 1000000) (x : Int) (hx : 0 ≤ x) (hx2 : x ≤ 9223372036854775807) (k : Nat) (hk : n < k) : hat_digits.f k x q n = some (digs q n x) := by
  unfold hat_digits.f
  rw [if_pos (by omega), if_pos (by omega)]
  simp only [Option.bind_some, Int.toNat_natCast, List.length_replicate]
  have := digits_l0 q hq n hn n k 0 x [] hx hx2 (by omega) rfl hk
  simpa using this

/-- Reversal of a short list. -/
theorem rev_f (l : List Int) (h : l.length ≤ 4) (k : Nat) (hk : 4 < k) : slices_Reverse_int_int.f k l = some l.reverse := by
  obtain ⟨k, rfl⟩ : ∃ m, k = m + 5 := ⟨k - 5, by omega⟩
  match l, h with
  | [], _ => simp [slices_Reverse_int_int.f, slices_Reverse_int_int.l0, rd, wrap64]
  | [a], _ => simp [slices_Reverse_int_int.f, slices_Reverse_int_int.l0, rd, wrap64]
  | [a, b], _ => simp [slices_Reverse_int_int.f, slices_Reverse_int_int.l0, rd, wrap64]
  | [a, b, c], _ => simp [slices_Reverse_int_int.f, slices_Reverse_int_int.l0, rd, wrap64]
  | [a, b, c, d], _ => simp [slices_Reverse_int_int.f, slices_Reverse_int_int.l0, rd, wrap64]

/-- All hats, in lexicographic order. -/
def allHats (n : Nat) (q : Int) : List (List Int) := (List.range (q ^ n).toNat).map fun x : Nat => (digs q n x).reverse
def allTo (n : Nat) (q : Int) (m : Nat) : List (List Int) := (List.range m).map fun x : Nat => (digs q n x).reverse
theorem allTo_succ (n : Nat) (q : Int) (m : Nat) : allTo n q (m + 1) = allTo n q m ++ [(digs q n m).reverse] := by
  unfold allTo; rw [List.range_succ, List.map_append]; rfl
theorem all_l0 (n : Nat) (hn : n ≤ 4) (q : Int) (h1 : 1 ≤ q) (h4 : q ≤ 4) (sees : List (List Int)) (N : Nat) (hN : N ≤ 65536) (d : Nat) : ∀ (k m : Nat), m + d = N → d + 8 < k →
    hat_game_all.l0 k [⟨n, q, sees⟩] (allTo n q m) N m = some (allTo n q N) := by
  induction d with
  | zero =>
    intro k m hm hk
    obtain ⟨k, rfl⟩ : ∃ m, k = m + 1 := ⟨k - 1, by omega⟩
    simp only [hat_game_all.l0]
    rw [if_neg (by omega), show m = N by omega]
  | succ d ih =>
    intro k m hm hk
    obtain ⟨k, rfl⟩ : ∃ m, k = m + 1 := ⟨k - 1, by omega⟩
    have hz1 : (rd_T103 [(⟨n, q, sees⟩ : S103)] 0).f1 = q := rfl
    have hz0 : (rd_T103 [(⟨n, q, sees⟩ : S103)] 0).f0 = n := rfl
    simp only [hat_game_all.l0]
    rw [if_pos (by omega), if_pos (by simp), hz1, hz0, digits_f q h1 n (by omega) m (by omega) (by omega) k (by omega)]
    simp only [Option.bind_some]
    rw [rev_f _ (by rw [digs_len]; exact hn) k (by omega)]
    simp only [Option.bind_some]
    rw [if_pos (by unfold allTo; simp; omega), ← allTo_succ, wrap_in (x := (m : Int) + 1) (by omega) (by omega)]
    exact ih k (m + 1) (by omega) (by omega)
theorem all_some (n : Nat) (hn : n ≤ 4) (q : Int) (h1 : 1 ≤ q) (h4 : q ≤ 4) (sees : List (List Int)) : ∃ k, hat_game_all.f k [⟨n, q, sees⟩] = some (allHats n q) := by
  have hp := pow_small q (by omega) h4 n (by omega)
  refine ⟨(q ^ n).toNat + 20, ?_⟩
  unfold hat_game_all.f
  have hz1 : (rd_T103 [(⟨n, q, sees⟩ : S103)] 0).f1 = q := rfl
  have hz0 : (rd_T103 [(⟨n, q, sees⟩ : S103)] 0).f0 = n := rfl
  rw [if_pos (by simp), hz1, hz0, pow_f q (by omega) h4 n (by omega) _ (by omega)]
  simp only [Option.bind_some]
  have := all_l0 n hn q h1 h4 sees (q ^ n).toNat (by omega) (q ^ n).toNat ((q ^ n).toNat + 20) 0 (by omega) (by omega)
  rw [Int.toNat_of_nonneg hp.1] at this
  exact this

end Go.Proofs.Ytgjmfehdjbepiaa.P

end

section
/- The contracts of slices.Clone, IndexFunc and DeleteFunc at rows of numbers. -/
namespace Go.Proofs.Ytgjmfehdjbepiaa.P
set_option linter.unusedVariables false
open Go.RowKit Go.Proofs.YtgjmfehdjbepiaaW.PrintWords Go.Proofs.YtgjmfehdjbepiaaW.PrintLast Go.Proofs.YtgjmfehdjbepiaaW.PrintMore

/-- A row of rows of numbers. -/
abbrev rr : Kd (List Int) := Kd.slice 3 (Kd.int .i64)

set_option maxRecDepth 100000 in
set_option maxHeartbeats 2000000 in
theorem clone_rows (ok : Nat → Prop) (A : Option Addr) (c : Nat) (ls : List (List Int)) (w : World) (hF : Kd.F rr w ok A ls.length ls) (hl : ls.length ≤ 1000000) :
    Calls Try.prog 75 #[.slice A ls.length c] w fun e w' => ∃ v, e = .returned v ∧ Kd.N rr 37 w' w.heap.size (fun k => ok k ∨ w.heap.size ≤ k) v ls ∧ Below w.heap.size w w' := by
  have HF := Aside0.mk hF
  clear hF
  cases A with
  | none =>
    have hnil := fun W : World => Lib.run_eql_slice_nil (P := Try.prog) W 27 37 none ls.length c 0 0 Try.underlying27
    have h0 := Aside0.mk (show ls = [] by
      have := (Kd.F_now HF.out).2.2
      cases ls with
      | nil => rfl
      | cons x xs => obtain ⟨ad, h, _⟩ := this (by simp); cases h)
    go_enter Try.func75, Try.ntmps75
    go_wp2
    go_ret
    exact ⟨_, rfl, by rw [h0.out]; exact Kd.N_nil _ _ _ _ _, Below.refl _ _⟩
  | some ad =>
    have hnil := fun W : World => Lib.run_eql_slice_nil (P := Try.prog) W 27 37 (some ad) ls.length c 0 0 Try.underlying27
    go_enter Try.func75, Try.ntmps75
    go_wp2_with (first
      | ((with_reducible refine gate_dst (N := 5) rfl ?_); refine Kd.N_lit rr w.heap.size 37 ?hg (N' := 5) ?hd (xs := ([] : List (List Int))) (inner := []) (ok := fun k => ok k ∨ w.heap.size ≤ k) (okp := fun _ => False) ?hr ?hp (fun _ hk => hk.elim) (.inr (Nat.le_refl _)) (Below.refl _ _) (Nat.le_refl _) (by simp) ?_; (case hd => rfl); (case hg => rfl); (case hr => first | (go_simp; done) | (go_simp; rfl)); (case hp => exact Reps.none _ _); intro v1 w1 ho hb hg hat; have HO := Aside0.mk ho; have HB := Aside0.mk hb; clear ho hb hg hat)
      | ((with_reducible refine gate_builtin (b := .append) (xs := #[.tmp 5, .tmp 6]) rfl ?_); at_builtin; refine Kd.N_append_rows rr (w0 := w) w.heap.size rfl (.tmp 5) (.tmp 6) 27 37 (.slice none 0 0) 24 rfl Try.underlying27 info37 rfl (by decide) (by omega) v1 [] ls _ _ _ (fun k => ok k ∨ w.heap.size ≤ k) (fun k => ok k ∧ k < w.heap.size) rfl rfl ?aO ?aR ?aA ?aF ?aB ?aS ?aL ?_; (case aO => exact HO.out); (case aR => exact Kd.F_old HF.out HB.out); (case aA => exact fun k hk => ⟨.inl hk.1, fun e => by have := Kd.N_base HO.out k e.symm; omega⟩); (case aF => exact fun k hk => .inr (Nat.le_trans HB.out.size hk)); (case aB => exact HB.out); (case aS => exact HB.out.size); (case aL => simp; omega); intro v2 w2 ho hb hg hat))
    go_ret
    exact ⟨_, rfl, ho, hb⟩

theorem rdL_nat (l : List (List Int)) (k : Nat) (h : k < l.length) : rd_L2 l k = l[k] := by unfold rd_L2; simp [h]
def firstRow (p : List Int → Bool) (l : List (List Int)) : Int := match l.findIdx? p with | some i => (i : Int) | none => -1
theorem firstRow_hit {p : List Int → Bool} {l : List (List Int)} {k : Nat} (hk : k < l.length) (hp : p (rd_L2 l k) = true) (hn : ∀ j : Nat, j < k → p (rd_L2 l j) = false) : firstRow p l = k := by
  have h : l.findIdx? p = some k := by
    rw [List.findIdx?_eq_some_iff_getElem]
    refine ⟨hk, by rw [← rdL_nat l k hk]; exact hp, fun j hj => ?_⟩
    rw [← rdL_nat l j (by omega)]; simp [hn j hj]
  unfold firstRow; rw [h]
theorem firstRow_miss {p : List Int → Bool} {l : List (List Int)} (hn : ∀ j : Nat, j < l.length → p (rd_L2 l j) = false) : firstRow p l = -1 := by
  have h : l.findIdx? p = none := by
    rw [List.findIdx?_eq_none_iff]
    intro x hx
    obtain ⟨j, hj, rfl⟩ := List.getElem_of_mem hx
    rw [← rdL_nat l j hj]; exact hn j hj
  unfold firstRow; rw [h]

/-- What is asked of a predicate on rows, from the world w on: at each row of l it tells p. -/
def RowPred (g : Nat) (lb : Array Value) (p : List Int → Bool) (l : List (List Int)) (w : World) : Prop :=
  ∀ (W : World) (x : List Int) (A : Option Addr) (c : Nat), x ∈ l → Below w.heap.size w W → Kd.C (Kd.int .i64) W A x.length x → x.length ≤ c →
    Calls Try.prog g (#[.slice A x.length c] ++ lb) W fun e w' => e = .returned (.bool (p x)) ∧ Below W.heap.size W w'

set_option maxRecDepth 100000 in
set_option maxHeartbeats 2000000 in
theorem idxRow (p : List Int → Bool) (g : Nat) (lb : Array Value) (eg : ∀ args w, (callFunc g args).run Try.prog w = .ok (.enter g args) w) (A : Option Addr) (c : Nat) (l : List (List Int)) (w0 w : World) (hb0 : Below w0.heap.size w0 w)
    (hr : Kd.C rr w A l.length l) (hp : RowPred g lb p l w0) :
    Calls Try.prog 84 #[.slice A l.length c, .func (.func g) #[] lb] w fun e w' => e = .returned (.int .i64 (firstRow p l)) ∧ Below w.heap.size w w' := by
  have hlen : l.length ≤ 9223372036854775807 := hr.2.1
  have HP := Aside0.mk hp
  have HB0 := Aside0.mk hb0
  have HR := Aside0.mk hr
  clear hr hp hb0
  go_enter Try.func84, Try.ntmps84
  go_wp2
  go_loopg [5, 8] l.length (fun gg _ s8 wr => ∃ kk : Nat, kk ≤ l.length ∧ l.length - kk ≤ gg ∧ s8 = .int .i64 kk ∧ Aside0 (Below w.heap.size w wr) ∧ Aside0 (∀ j : Nat, j < kk → p (rd_L2 l j) = false))
  case atStart => exact ⟨0, Nat.zero_le _, by omega, rfl, ⟨Below.refl _ w⟩, ⟨fun j hj => absurd hj (Nat.not_lt_zero _)⟩⟩
  case round =>
    obtain ⟨kk, hkk, hg, rfl, BW, A0⟩ := hrel
    by_cases hlt : kk < l.length
    · have hltz : (kk : Int) < (l.length : Int) := by omega
      obtain ⟨ad, A1, c1, e1, hx, hl1, hi1⟩ := at_L2 HR.out kk (by omega) hltz
      have hcall := HP.out wr (rd_L2 l kk) A1 c1 (by rw [rdL_nat l kk hlt]; exact List.getElem_mem hlt) (HB0.out.trans (BW.out.mono HB0.out.size)) (Kd.C_below hi1 BW.out) hl1
      replace hx := (BW.out.cell (World.block_lt_of_cell? w _ hx)).trans hx
      rw [Int.toNat_natCast] at hx
      cases e1
      clear hl1 hi1
      generalize hy : rd_L2 l kk = y at hx hcall
      have B : Aside0 (rd_L2 l kk = y) := ⟨hy⟩
      clear hy
      cases hq : p y with
      | true =>
        rw [hq] at hcall
        go_wp2_with (go_at_fn g; refine hcall.mono ?_; rintro e w' ⟨rfl, hb'⟩)
        go_ret
        refine ⟨?_, BW.out.trans (hb'.mono BW.out.size)⟩
        rw [firstRow_hit hlt (by rw [B.out]; exact hq) A0.out]; rfl
      | false =>
        rw [hq] at hcall
        go_wp2_with (go_at_fn g; refine hcall.mono ?_; rintro e w' ⟨rfl, hb'⟩)
        go_roundg (l.length - (kk + 1))
        case measure => omega
        case rel =>
          refine ⟨kk + 1, by omega, by omega, by go_num, ⟨BW.out.trans (hb'.mono BW.out.size)⟩, ⟨fun j hj => ?_⟩⟩
          by_cases e : j = kk
          · subst e
            rw [B.out]; exact hq
          · exact A0.out j (by omega)
    · have hk := Aside0.mk (show kk = l.length by omega)
      have hltz : decide (kk < l.length) = false := decide_eq_false (by omega)
      clear hlt hg hkk hlen
      go_wp2
      go_ret
      refine ⟨?_, BW.out⟩
      rw [firstRow_miss (fun j hj => A0.out j (by have := hk.out; omega))]; rfl

end Go.Proofs.Ytgjmfehdjbepiaa.P

end

section
/- The contract of slices.DeleteFunc at rows of numbers that the caller has cloned. -/
namespace Go.Proofs.Ytgjmfehdjbepiaa.P
set_option linter.unusedVariables false
open Go.RowKit Go.Proofs.YtgjmfehdjbepiaaW.PrintWords Go.Proofs.YtgjmfehdjbepiaaW.PrintLast Go.Proofs.YtgjmfehdjbepiaaW.PrintMore

theorem rr_cut {W : World} {base b n cap i : Nat} {ok : Nat → Prop} {xs : List (List Int)} (h : Kd.N rr 37 W base ok (.slice (some ⟨b, 0, none⟩) n cap) xs) (hi : i ≤ n) (z : Value) :
    Kd.N rr 37 (W.setCells b i (List.replicate (n - i) z)) base ok (.slice (some ⟨b, 0, none⟩) i cap) (xs.take i) ∧ Below base W (W.setCells b i (List.replicate (n - i) z)) := by
  have hn := (Kd.N_reads' h).1
  have hbase := Kd.N_base h b (by simp [Value.ownBlock])
  have hlt := Kd.N_lt h b (by simp [Value.ownBlock])
  obtain ⟨s1, s2, s3, s4⟩ := setCells_same b (List.replicate (n - i) z) i W
  have hfar : ∀ k, k ≠ b → (W.setCells b i (List.replicate (n - i) z)).heap[k]? = W.heap[k]? := fun k hk => setCells_far _ _ _ hk
  refine ⟨?_, ⟨s1, s2, s3, by rw [s4]; omega, fun j hj => hfar j (by omega)⟩⟩
  obtain ⟨h0, rows, hl, hR, hf⟩ := Kd.N_take h (by omega : i ≤ xs.length)
  refine ⟨h0, rows, hl, ?_, fun j x c hx hc => Kd.FK_step (hf j x c hx hc) (fun k hk _ => hfar k (fun e => hk.2 (by rw [e]; simp [Value.ownBlock])))⟩
  obtain ⟨r0, inner, ho, hr⟩ := hR
  refine ⟨r0, inner, ?_, hr.imp_ (fun p c hp => hp)⟩
  obtain ⟨hlen, ho⟩ := ho
  refine ⟨hlen, ?_⟩
  rcases ho with ⟨e, _⟩ | ⟨g, cap', cur, e, hg, hh, hc1, hc2, hc3, hc4⟩
  · cases e
  · injection e with e1 e2 e3
    injection e1 with e1
    injection e1 with e1
    subst e1; subst e3
    obtain ⟨_, rows0, hl0, hR0, _⟩ := h
    obtain ⟨_, inner0, ⟨_, ho0⟩, _⟩ := hR0
    rcases ho0 with ⟨e, _⟩ | ⟨g', cap'', cur0, e, _, hh0, hc10, _, hc30, _⟩
    · cases e
    · injection e with e1 e2 e3
      injection e1 with e1
      injection e1 with e1
      subst e1; subst e3
      rw [hh] at hh0
      injection hh0 with hh0
      injection hh0 with hh0
      subst hh0
      obtain ⟨cur', k1, k2, k3⟩ := setCells_row (List.replicate (n - i) z) i W cur hh (by
        rw [List.length_replicate, hc3]
        have : (Kd.raw rr.sz).sz = 1 := rfl
        rw [this]; omega)
      have hsz : (Kd.raw rr.sz).sz = 1 := rfl
      have hrl : rows.length = i := by rw [hl, List.length_take]; omega
      rw [hsz] at hc3 hc4 hlen ⊢
      rw [hrl, Nat.mul_one] at hc4
      rw [hrl, Nat.mul_one]
      rw [Nat.mul_one] at hc3
      refine .inr ⟨b, cap, cur', rfl, hg, k1, by omega, hc2, by rw [k2, hc3, Nat.mul_one], ?_⟩
      have hti : (cur.toList.take i).length = i := by rw [List.length_take, Array.length_toList, hc3]; omega
      rw [k3, ← hc4, List.append_assoc, List.take_append_of_le_length (by omega), List.take_take, Nat.min_self]

theorem rr_store {W : World} {base b n cap : Nat} {ok : Nat → Prop} {xs : List (List Int)} (h : Kd.N rr 37 W base ok (.slice (some ⟨b, 0, none⟩) n cap) xs) {i : Nat} (hi : i < n) {x : List Int} {A : Option Addr} {c : Nat} (hx : x.length ≤ c) (hF : Kd.F (Kd.int .i64) W (fun k => ok k ∧ k ≠ b) A x.length x) :
    Kd.N rr 37 (W.setCell ⟨b, i, none⟩ (.slice A x.length c)) base ok (.slice (some ⟨b, 0, none⟩) n cap) (xs.set i x) ∧ Below base W (W.setCell ⟨b, i, none⟩ (.slice A x.length c)) := by
  obtain ⟨c0, hcl, _, hcc, _⟩ := Kd.N_elem h ([] : List Int) (i : Int) (by omega) (by omega)
  have hl : c0.length = 1 := hcl
  have hM : Kd.FK rr W (fun k => ok k ∧ k ≠ b) x (c0.take 0 ++ [.slice A x.length c] ++ c0.drop (0 + 1)) := by
    rw [List.take_zero, List.nil_append, List.drop_of_length_le (by omega), List.append_nil]
    exact Kd.FK_slice_mk hx hF
  have h2 := (Kd.N_seg h (i : Int) (by omega) (by omega) hcl hcc (seg := [.slice A x.length c]) (j := 0) (by show 0 + 1 ≤ 1; omega) hM (fun _ hk => hk)).1
  have e : W.setCells b ((i : Int).toNat * rr.sz + 0) [.slice A x.length c] = W.setCell ⟨b, i, none⟩ (.slice A x.length c) := by
    show W.setCells b ((i : Int).toNat * 1 + 0) [.slice A x.length c] = _
    rw [Int.toNat_natCast, Nat.mul_one, Nat.add_zero]; rfl
  rw [e, Int.toNat_natCast] at h2
  exact ⟨h2, (Below.refl _ _).setCell (Kd.N_base h b (by simp [Value.ownBlock])) _⟩

theorem firstRow_neg {p : List Int → Bool} {l : List (List Int)} (h : firstRow p l = -1) : l.filter (fun x => !p x) = l := by
  unfold firstRow at h
  cases e : l.findIdx? p with
  | some i => rw [e] at h; simp at h
  | none =>
    rw [List.findIdx?_eq_none_iff] at e
    rw [List.filter_eq_self]
    intro x hx; simp [e x hx]
theorem firstRow_pos {p : List Int → Bool} {l : List (List Int)} (h : firstRow p l ≠ -1) : ∃ i : Nat, firstRow p l = i ∧ i < l.length ∧ (l.take (i + 1)).filter (fun x => !p x) = l.take i := by
  unfold firstRow at h ⊢
  cases e : l.findIdx? p with
  | none => rw [e] at h; exact absurd rfl h
  | some i =>
    obtain ⟨hi, hp, hn⟩ := List.findIdx?_eq_some_iff_getElem.1 e
    refine ⟨i, rfl, hi, ?_⟩
    rw [List.take_succ_eq_append_getElem hi, List.filter_append]
    simp only [List.filter_cons, hp, Bool.not_true, List.filter_nil]
    rw [if_neg (by simp), List.append_nil, List.filter_eq_self]
    intro x hx
    obtain ⟨j, hj, rfl⟩ := List.getElem_of_mem hx
    have := hn j (by rw [List.length_take] at hj; omega)
    simpa using this
theorem filt_snoc {p : List Int → Bool} {l : List (List Int)} {j : Nat} (hj : j < l.length) : (l.take (j + 1)).filter (fun x => !p x) = (l.take j).filter (fun x => !p x) ++ (if p l[j] then [] else [l[j]]) := by
  rw [List.take_succ_eq_append_getElem hj, List.filter_append]
  congr 1
  simp only [List.filter_cons, List.filter_nil]
  cases p l[j] <;> simp
theorem zero37 (w : World) : (zeroValue 37).run Try.prog w = .ok (.slice none 0 0) w := by kernel_rfl

set_option maxRecDepth 100000 in
set_option maxHeartbeats 4000000 in
theorem deleteRows (p : List Int → Bool) (g : Nat) (lb : Array Value) (eg : ∀ args w, (callFunc g args).run Try.prog w = .ok (.enter g args) w) (v : Value) (ls : List (List Int)) (w0 w : World) (base : Nat) (ok : Nat → Prop) (hs0 : w0.heap.size ≤ base) (hbs : base ≤ w.heap.size) (hb0 : Below w0.heap.size w0 w)
    (hN : Kd.N rr 37 w base ok v ls) (hp : RowPred g lb p ls w0) :
    Calls Try.prog 76 #[v, .func (.func g) #[] lb] w fun e w' => ∃ v', e = .returned v' ∧ Kd.N rr 37 w' base ok v' (ls.filter fun x => !p x) ∧ Below base w w' := by
  obtain ⟨A, c, rfl⟩ := Kd.N_slice hN
  have hC := (Kd.N_reads' hN).2.2
  have hidx := idxRow p g lb eg A c ls w0 w hb0 hC hp
  have HP := Aside0.mk hp
  have HN := Aside0.mk hN
  have HB0 := Aside0.mk hb0
  clear hp hN hC hb0
  by_cases hneg : firstRow p ls = -1
  · have hf := Aside0.mk (firstRow_neg hneg)
    rw [hneg] at hidx
    clear hneg
    go_enter Try.func76, Try.ntmps76
    go_wp2_with (go_at_call 84; refine hidx.mono ?_; rintro e w' ⟨rfl, hb'⟩)
    go_ret
    exact ⟨_, rfl, by rw [hf.out]; exact Kd.N_below HN.out hb', hb'.mono hbs⟩
  · obtain ⟨i0, hi0, hi1, hi2⟩ := firstRow_pos hneg
    have hn0 : 0 < ls.length := by omega
    obtain ⟨b, cap, e, hbb, hbw, _⟩ := Kd.N_form HN.out hn0
    injection e with e1 e2 e3
    subst e1; subst e3
    rw [hi0] at hidx
    have hi2' := Aside0.mk hi2
    have hm : ((i0 : Int) == -1) = false := by rw [beq_eq_false_iff_ne]; omega
    have hmax : ls.length ≤ 9223372036854775807 := (Kd.N_reads' HN.out).2.2.2.1
    clear hneg hi0 hi2
    go_enter Try.func76, Try.ntmps76
    go_wp2_with (go_at_call 84; refine hidx.mono ?_; rintro e w1 ⟨rfl, hb1⟩; have HN1 := Aside0.mk (Kd.N_below HN.out hb1); have HB1 := Aside0.mk hb1; clear hb1)
    go_loopg [5, 6] ls.length (fun gg v5 v6 wr => ∃ (i j : Nat) (xs : List (List Int)), i < j ∧ j ≤ ls.length ∧ ls.length - j ≤ gg ∧ v5 = .int .i64 i ∧ v6 = .int .i64 j ∧
      Aside0 (xs.take i = (ls.take j).filter (fun x => !p x) ∧ xs.drop j = ls.drop j ∧ xs.length = ls.length) ∧ Aside0 (Kd.N rr 37 wr base ok (.slice (some ⟨b, 0, none⟩) ls.length c) xs) ∧ Aside0 (Below base w wr))
    case atStart => exact ⟨i0, i0 + 1, ls, by omega, by omega, by omega, rfl, by go_num, ⟨hi2'.out.symm, rfl, rfl⟩, HN1, ⟨HB1.out.mono hbs⟩⟩
    case round =>
      obtain ⟨i, j, xs, hij, hj, hg, rfl, rfl, HX, HNr, HBr⟩ := hrel
      have hWr := Aside0.mk (HB0.out.trans (HBr.out.mono hs0))
      by_cases hlt : j < ls.length
      · have hltb : decide (j < ls.length) = true := decide_eq_true hlt
        have hxj : xs.getD j [] = ls[j] := by
          have h1 := congrArg (fun l => l[0]?) HX.out.2.1
          simp only [List.getElem?_drop, Nat.add_zero, List.getElem?_eq_getElem hlt] at h1
          rw [List.getD_eq_getElem?_getD, h1]; rfl
        obtain ⟨cj, hcl, hK, hcc, hfr⟩ := Kd.N_elem HNr.out ([] : List Int) (j : Int) (by omega) (by omega)
        rw [Int.toNat_natCast, hxj] at hK
        obtain ⟨A1, c1, rfl, hl1, hF1⟩ := Kd.FK_slice_open hK
        have hcj : wr.cell? ⟨b, j, none⟩ = some (.slice A1 ls[j].length c1) := by
          have := hcc 0 _ rfl
          rw [Int.toNat_natCast] at this
          have e : j * rr.sz + 0 = j := by show j * 1 + 0 = j; omega
          rwa [e] at this
        have hcall := HP.out wr ls[j] A1 c1 (List.getElem_mem hlt) hWr.out (Kd.F_now hF1) hl1
        have hsn := filt_snoc (p := p) hlt
        obtain ⟨ci, hcli, _, hcci, hfri⟩ := Kd.N_elem HNr.out ([] : List Int) (i : Int) (by omega) (by omega)
        obtain ⟨u, rfl⟩ : ∃ u, ci = [u] := by
          have h1 : ci.length = 1 := hcli
          match ci, h1 with
          | [u], _ => exact ⟨u, rfl⟩
        have hci : wr.cell? ⟨b, i, none⟩ = some u := by
          have := hcci 0 _ rfl
          rw [Int.toNat_natCast] at this
          have e : i * rr.sz + 0 = i := by show i * 1 + 0 = i; omega
          rwa [e] at this
        have hfi : wr.frozen? ⟨b, i, none⟩ = false := by
          have := hfri 0
          rw [Int.toNat_natCast] at this
          have e : i * rr.sz + 0 = i := by show i * 1 + 0 = i; omega
          rwa [e] at this
        clear hcc hfr hcl hcli hcci hfri hK
        have HXJ := Aside0.mk hxj
        have HSN := Aside0.mk hsn
        have HF := Aside0.mk hF1
        have HL1 := Aside0.mk hl1
        have HLT := Aside0.mk hlt
        clear hxj hsn hF1 hl1
        generalize hy : ls[j] = y at *
        clear hy
        cases hq : p y with
        | true =>
          rw [hq] at hcall
          have HQ := Aside0.mk hq
          clear hq
          go_wp2_with (go_at_fn g; refine hcall.mono ?_; rintro e w2 ⟨rfl, hb2⟩; have HB2 := Aside0.mk hb2; clear hb2)
          go_roundg (ls.length - (j + 1))
          case measure => have := HLT.out; omega
          case rel =>
            refine ⟨i, j + 1, xs, by omega, HLT.out, by omega, rfl, by go_num, ⟨?_, ?_, HX.out.2.2⟩, ⟨Kd.N_below HNr.out HB2.out⟩, ⟨HBr.out.trans (HB2.out.mono (Nat.le_trans hbs HBr.out.size))⟩⟩
            · rw [HSN.out, HQ.out, if_pos rfl, List.append_nil]; exact HX.out.1
            · have h1 := congrArg (List.drop 1) HX.out.2.1
              simpa [List.drop_drop, Nat.add_comm] using h1
        | false =>
          rw [hq] at hcall
          have HQ := Aside0.mk hq
          clear hq
          have hblt := World.block_lt_of_cell? wr _ hci
          have HCI := Aside0.mk hci
          have HFI := Aside0.mk hfi
          have HBL := Aside0.mk hblt
          clear hci hfi hblt
          go_wp2_with (go_at_fn g; refine hcall.mono ?_; rintro e w2 ⟨rfl, hb2⟩; have hci := (hb2.cell (p := ⟨b, i, none⟩) HBL.out).trans HCI.out; have hfi := (hb2.frozen (p := ⟨b, i, none⟩) HBL.out).trans HFI.out; have HB2 := Aside0.mk hb2; clear hb2)
          go_roundg (ls.length - (j + 1))
          case measure => have := HLT.out; omega
          case rel =>
            have hst := rr_store (Kd.N_below HNr.out HB2.out) (show i < ls.length by omega) HL1.out (Kd.F_below HF.out HB2.out)
            have hlx := HX.out.2.2
            refine ⟨i + 1, j + 1, xs.set i y, by omega, HLT.out, by omega, by go_num, by go_num, ⟨?_, ?_, by rw [List.length_set]; exact hlx⟩, ⟨hst.1⟩, ⟨(HBr.out.trans (HB2.out.mono (Nat.le_trans hbs HBr.out.size))).trans hst.2⟩⟩
            · rw [HSN.out, HQ.out, if_neg (by simp), ← HX.out.1, List.take_succ_eq_append_getElem (by rw [List.length_set]; omega)]
              rw [List.getElem_set_self, List.take_set_of_le (by omega)]
            · rw [List.drop_set_of_lt (by omega)]
              have h1 := congrArg (List.drop 1) HX.out.2.1
              simpa [List.drop_drop, Nat.add_comm] using h1
      · have hltb : decide (j < ls.length) = false := decide_eq_false hlt
        have HJ := Aside0.mk (show j = ls.length by omega)
        have hi : i < ls.length := by omega
        have hnc := (Kd.N_reads' HNr.out).2.1
        obtain ⟨i37, hi37, _, hsz37, _⟩ := info_parts info37
        have hcut := cut_from (P := Try.prog) 27 37 .i64 Try.underlying27 hi37 1 hsz37 (some ⟨b, 0, none⟩) ls.length c (i : Int) (by omega) (by omega)
        have hcut2 := cut_to (P := Try.prog) 27 37 .i64 Try.underlying27 hi37 (some ⟨b, 0, none⟩) ls.length c (i : Int) (by omega) (by omega) hnc
        rw [Int.toNat_natCast, if_neg (by omega)] at hcut
        rw [Int.toNat_natCast] at hcut2
        have hcut' : ∀ W : World, (Instr.slice 27 (.slice (some ⟨b, 0, none⟩) ls.length c) (some (.int .i64 (i : Int))) none none).run Try.prog W = .ok (.slice (some ⟨b, i, none⟩) (ls.length - i) (c - i)) W := fun W => by
          rw [hcut W]
          congr 3
          simp [Addr.add]
          omega
        clear hcut
        have hcl : ∀ ty, (Builtin.clear_ #[27] ty #[.slice (some ⟨b, i, none⟩) (ls.length - i) (c - i)]).run Try.prog wr = .ok (.tuple #[]) (wr.setCells b i (List.replicate (ls.length - i) (.slice none 0 0))) := fun ty =>
          Lib.run_clear_slice wr 27 37 ty (.slice none 0 0) Try.underlying27 zero37 rfl rfl b i _ _ (by omega) (fun k hk => by
            obtain ⟨ck, hclk, _, hcck, _⟩ := Kd.N_elem HNr.out ([] : List Int) ((i + k : Nat) : Int) (by omega) (by omega)
            have h1 : ck.length = 1 := hclk
            match ck, h1 with
            | [u], _ =>
              have := hcck 0 u rfl
              rw [Int.toNat_natCast] at this
              have e : (i + k) * rr.sz + 0 = i + k := by show (i + k) * 1 + 0 = i + k; omega
              rw [e] at this
              rw [this]; rfl) (fun k hk => by
            obtain ⟨_, _, _, _, hfr⟩ := Kd.N_elem HNr.out ([] : List Int) ((i + k : Nat) : Int) (by omega) (by omega)
            have := hfr 0
            rw [Int.toNat_natCast] at this
            have e : (i + k) * rr.sz + 0 = i + k := by show (i + k) * 1 + 0 = i + k; omega
            rwa [e] at this)
        have hfin := rr_cut HNr.out (show i ≤ ls.length by omega) (.slice none 0 0)
        have HFIN := Aside0.mk hfin
        clear hfin hlt hi hnc
        go_wp2_with (simp only [hcl])
        go_ret
        refine ⟨_, rfl, ?_, HBr.out.trans HFIN.out.2⟩
        have h1 := HX.out.1
        rw [HJ.out, List.take_length] at h1
        rw [← h1]
        exact HFIN.out.1

end Go.Proofs.Ytgjmfehdjbepiaa.P

end

section
/- The contract of hat's search (game.find): the first strategy that goes on with some tables and wins against some hats. -/
namespace Go.Proofs.Ytgjmfehdjbepiaa.P
set_option linter.unusedVariables false
open Go.RowKit Go.Proofs.YtgjmfehdjbepiaaW.PrintWords Go.Proofs.YtgjmfehdjbepiaaW.PrintLast Go.Proofs.YtgjmfehdjbepiaaW.PrintMore

/-- Is player i's guess right? -/
def hits (q : Int) (sees : List (List Int)) (i : Nat) (t h : List Int) : Bool := guessP q (rd_L2 sees i) t h == rd h i
/-- The search: m players are left, s are the tables so far. -/
def findP (q : Int) (sees : List (List Int)) : Nat → List (List Int) → List (List Int) → Option (List (List Int))
  | 0, s, left => if left = [] then some s else none
  | m + 1, s, left => (allHats (q ^ (rd_L2 sees s.length).length).toNat q).findSome? fun t => findP q sees m (s ++ [t]) (left.filter fun h => !hits q sees s.length t h)
theorem findP_len (q : Int) (sees : List (List Int)) : ∀ (m : Nat) (s left r : List (List Int)), findP q sees m s left = some r → r.length = s.length + m
  | 0, s, left, r, h => by
    unfold findP at h
    split at h
    · injection h with h; subst h; rfl
    · cases h
  | m + 1, s, left, r, h => by
    unfold findP at h
    obtain ⟨t, _, h2⟩ := List.exists_of_findSome?_eq_some h
    have := findP_len q sees m _ _ _ h2
    simp at this; omega

/-- The literal of find: is the player's guess right at those hats? -/
theorem find_lit (n : Int) (q : Int) (sees strat : List (List Int)) (i : Nat) (BG BN BI : Nat) (AG AN : Option Addr) (cn : Nat) (W : World) (x : List Int) (A : Option Addr) (c : Nat)
    (hx : Kd.C (Kd.int .i64) W A x.length x) (hc : x.length ≤ c) (hG : W.cell? ⟨BG, 0, none⟩ = some (.pointer AG)) (hN : W.cell? ⟨BN, 0, none⟩ = some (.slice AN strat.length cn)) (hI : W.cell? ⟨BI, 0, none⟩ = some (.int .i64 i))
    (hg : Kd.C k103 W AG 1 [(⟨n, q, sees⟩ : S103)]) (hs : Kd.C rr W AN strat.length strat) (hcn : strat.length ≤ cn)
    (h1 : 1 ≤ q) (h4 : q ≤ 4) (his : i < sees.length) (hi : i < strat.length) (hix : i < x.length) (hcol : Colours q x) (hr : Below_ x.length (rd_L2 sees i)) (hl : (rd_L2 sees i).length ≤ 4)
    (ht : (rd_L2 strat i).length = (q ^ (rd_L2 sees i).length).toNat) :
    Calls Try.prog 77 #[.slice A x.length c, .pointer (some ⟨BG, 0, none⟩), .pointer (some ⟨BN, 0, none⟩), .pointer (some ⟨BI, 0, none⟩)] W fun e w' => e = .returned (.bool (hits q sees i (rd_L2 strat i) x)) ∧ Drawn0 W w' := by
  have hgs := guess_some n q i sees strat x h1 h4 (by omega) (by omega) (by omega) hcol hr hl ht 20 (by omega)
  have HCALL := Aside0.mk (fun (m : Nat) => hat_game_guess.calls 20 AG 1 [(⟨n, q, sees⟩ : S103)] AN cn strat A c x (i : Int) _ (W.drewN m) (Kd.C_drewN hg m) (by simp) (Kd.C_drewN hs m) hcn (Kd.C_drewN hx m) hc hgs)
  obtain ⟨ad, e1, hcell⟩ := Kd.at_int hx (i : Int) (by omega) (by omega)
  cases e1
  rw [Int.toNat_natCast] at hcell
  have hf : Aside0 (hits q sees i (rd_L2 strat i) x = (guessP q (rd_L2 sees i) (rd_L2 strat i) x == rd x i)) := ⟨rfl⟩
  have hlt : decide (i < x.length) = true := decide_eq_true hix
  have hlt2 : ((i : Int) < (x.length : Int)) = True := eq_true (by omega)
  generalize guessP q (rd_L2 sees i) (rd_L2 strat i) x = gp at *
  generalize rd x (i : Int) = ri at *
  generalize hits q sees i (rd_L2 strat i) x = rs at *
  clear hx hg hs hgs hcol hr hl ht his hi
  go_enter Try.func77, Try.ntmps77
  go_wp2
  repeat (go_quiet (first | (go_at_call 66; refine (HCALL.out _).mono ?_; rintro e w' ⟨rfl, ⟨nd, rfl⟩⟩; (first | exact ⟨rfl, _, World.drewN_drewN _ _ _⟩ | exact ⟨rfl, _, Eq.trans (World.drewN_drewN _ _ _) (congrArg (World.drewN _) (Nat.add_assoc _ _ _))⟩))); try go_wp2)
  go_ret
  exact ⟨by rw [hf.out]; rfl, by repeat (first | exact Drawn0.refl _ | apply Drawn0.step)⟩

theorem fs_miss {α β : Type} (f : Nat → α) (g : α → Option β) : ∀ (N : Nat), (∀ y, y < N → g (f y) = none) → ((List.range N).map f).findSome? g = none
  | 0, _ => rfl
  | N + 1, h => by
    rw [List.range_succ, List.map_append, List.findSome?_append, fs_miss f g N (fun y hy => h y (by omega))]
    simp [h N (by omega)]
theorem fs_hit {α β : Type} (f : Nat → α) (g : α → Option β) (r : β) : ∀ (N x : Nat), x < N → (∀ y, y < x → g (f y) = none) → g (f x) = some r → ((List.range N).map f).findSome? g = some r
  | 0, x, hx, _, _ => absurd hx (Nat.not_lt_zero _)
  | N + 1, x, hx, h, h2 => by
    rw [List.range_succ, List.map_append, List.findSome?_append]
    by_cases e : x < N
    · rw [fs_hit f g r N x e h h2]; rfl
    · obtain rfl : x = N := by omega
      rw [fs_miss f g x h]
      simp [h2]
/-- What find hands back: nil, or tables that lie in memory that is new since B. -/
def Found (B : Nat) (r : Option (List (List Int))) (v : Value) (w' : World) : Prop :=
  match r with | none => v = .slice none 0 0 | some s => 0 < s.length ∧ Kd.V rr 37 w' B (fun k => B ≤ k) v s

structure FindCtx (n : Nat) (sees : List (List Int)) : Prop where
  n1 : 1 ≤ n
  n3 : n ≤ 3
  len : sees.length = n
  row : ∀ i : Nat, i < n → Below_ n (rd_L2 sees i) ∧ (rd_L2 sees i).length ≤ 2
def HatsOf (n : Nat) (left : List (List Int)) : Prop := left.length ≤ 1000 ∧ ∀ h ∈ left, h.length = n ∧ Colours 2 h

set_option maxRecDepth 100000 in
set_option maxHeartbeats 8000000 in
theorem find_zero (n : Nat) (sees : List (List Int)) (C : FindCtx n sees) (B : Nat) (s left : List (List Int)) (AG : Option Addr) (A1 : Option Addr) (c1 : Nat) (A2 : Option Addr) (c2 : Nat) (w : World) (hB : B ≤ w.heap.size)
    (hg : Kd.C k103 w AG 1 [(⟨n, 2, sees⟩ : S103)]) (hs : Kd.F rr w (fun k => B ≤ k) A1 s.length s) (hc1 : s.length ≤ c1) (hl : Kd.C rr w A2 left.length left) (hsn : s.length = n) :
    Calls Try.prog 53 #[.pointer AG, .slice A1 s.length c1, .slice A2 left.length c2] w fun e w' => ∃ v, e = .returned v ∧ Below w.heap.size w w' ∧ Found B (findP 2 sees 0 s left) v w' := by
  obtain ⟨ad, A0, c0, e0, hx0, hx1, hx2, hl0, hi0⟩ := at_T103 hg 0 (by omega) (by omega)
  cases e0
  simp only [show (0 : Int).toNat = 0 from rfl, Nat.zero_mul, rp_add0] at hx0 hx1 hx2
  have z0 : (rd_T103 [(⟨n, 2, sees⟩ : S103)] 0).f0 = n := rfl
  rw [z0] at hx0
  have hn : ((n : Int) == (n : Int)) = true := by simp
  have HW : ∀ o1 o2, Below w.heap.size w ((w.alloc o1).alloc o2) := fun o1 o2 => below_alloc (below_alloc (Below.refl _ _) _) _
  have HWA := Aside0.mk HW
  have HS := Aside0.mk hs
  have HSN := Aside0.mk hsn
  have hblt := World.block_lt_of_cell? w _ hx0
  have n1 := C.n1
  clear hs hl hi0 hl0 hx1 hx2 hg HW C z0
  by_cases hle : left = []
  · have hf : Aside0 (findP 2 sees 0 s left = some s) := ⟨by unfold findP; rw [if_pos hle]⟩
    subst hle
    rw [hf.out]
    clear hf
    go_enter Try.func53, Try.ntmps53
    go_wp2
    repeat (go_quiet (fail); try go_wp2)
    go_ret
    refine ⟨_, rfl, pw_below_drewN (HWA.out _ _) _, by omega, ?_⟩
    exact Kd.V_mk hc1 (Kd.F_below HS.out (pw_below_drewN (HWA.out _ _) _))
  · have hf : Aside0 (findP 2 sees 0 s left = none) := ⟨by unfold findP; rw [if_neg hle]⟩
    rw [hf.out]
    have hle2 : ((left.length : Int) == 0) = false := by
      rw [beq_eq_false_iff_ne]
      intro h
      exact hle (List.eq_nil_of_length_eq_zero (by omega))
    clear hf
    go_enter Try.func53, Try.ntmps53
    go_wp2
    repeat (go_quiet (fail); try go_wp2)
    all_goals go_ret
    all_goals exact ⟨_, rfl, pw_below_drewN (HWA.out _ _) _, rfl⟩

/-- What holds in the search's loop: the two variables in memory. -/
structure FC (w W : World) (ad : Addr) (i : Nat) : Prop where
  hb : Below w.heap.size w W
  two : w.heap.size + 2 ≤ W.heap.size
  cG : W.cell? ⟨w.heap.size, 0, none⟩ = some (.pointer (some ad))
  cI : W.cell? ⟨w.heap.size + 1, 0, none⟩ = some (.int .i64 i)
theorem FC.below {w W W1 : World} {ad : Addr} {i : Nat} (h : FC w W ad i) (hb : Below W.heap.size W W1) : FC w W1 ad i :=
  ⟨h.hb.trans (hb.mono h.hb.size), Nat.le_trans h.two hb.size, (hb.cell (p := ⟨w.heap.size, 0, none⟩) (by have := h.two; show w.heap.size < _; omega)).trans h.cG, (hb.cell (p := ⟨w.heap.size + 1, 0, none⟩) (by have := h.two; show w.heap.size + 1 < _; omega)).trans h.cI⟩
theorem FC.below_ {w W W1 : World} {ad : Addr} {i b : Nat} (h : FC w W ad i) (hb : Below b W W1) (hbw : b ≤ W.heap.size) (h2 : w.heap.size + 2 ≤ b) : FC w W1 ad i :=
  ⟨h.hb.trans (hb.mono (by omega)), Nat.le_trans h.two hb.size, (hb.cell (p := ⟨w.heap.size, 0, none⟩) (by show w.heap.size < _; omega)).trans h.cG, (hb.cell (p := ⟨w.heap.size + 1, 0, none⟩) (by show w.heap.size + 1 < _; omega)).trans h.cI⟩
def FindAt (n : Nat) (sees : List (List Int)) (B m : Nat) : Prop := ∀ (s left : List (List Int)) (AG A1 : Option Addr) (c1 : Nat) (A2 : Option Addr) (c2 : Nat) (w : World), B ≤ w.heap.size →
    Kd.C k103 w AG 1 [(⟨n, 2, sees⟩ : S103)] → Kd.F rr w (fun k => B ≤ k) A1 s.length s → s.length ≤ c1 → Kd.C rr w A2 left.length left → left.length ≤ c2 → HatsOf n left → s.length + m = n →
    Calls Try.prog 53 #[.pointer AG, .slice A1 s.length c1, .slice A2 left.length c2] w fun e w' => ∃ v, e = .returned v ∧ Below w.heap.size w w' ∧ Found B (findP 2 sees m s left) v w'

set_option maxRecDepth 100000 in
set_option maxHeartbeats 16000000 in
theorem find_succ (n : Nat) (sees : List (List Int)) (C : FindCtx n sees) (B m : Nat) (ih : FindAt n sees B m) : FindAt n sees B (m + 1) := by
  intro s left AG A1 c1 A2 c2 w hB hg hs hc1 hl hc2 hh hsm
  have hi : s.length < n := by omega
  have hrow := C.row s.length hi
  have hlen := C.len
  have n3 := C.n3
  obtain ⟨ad, A0, c0, e0, hx0, hx1, hx2, hl0, hi0⟩ := at_T103 hg 0 (by omega) (by omega)
  cases e0
  simp only [show (0 : Int).toNat = 0 from rfl, Nat.zero_mul, rp_add0] at hx0 hx1 hx2
  have z0 : (rd_T103 [(⟨n, 2, sees⟩ : S103)] 0).f0 = n := rfl
  have z1 : (rd_T103 [(⟨n, 2, sees⟩ : S103)] 0).f1 = 2 := rfl
  have z2 : (rd_T103 [(⟨n, 2, sees⟩ : S103)] 0).f2 = sees := rfl
  rw [z0] at hx0
  rw [z1] at hx1
  rw [z2] at hx2 hl0 hi0
  obtain ⟨ad2, A3, c3, e2, hy, hl3, hi3⟩ := at_L2 hi0 (s.length : Int) (by omega) (by omega)
  cases e2
  rw [Int.toNat_natCast] at hy
  obtain ⟨L, hL⟩ : ∃ L, (rd_L2 sees s.length).length = L := ⟨_, rfl⟩
  rw [hL] at hy
  have hL2 : L ≤ 2 := by rw [← hL]; exact hrow.2
  have hpow : hat_power.f 20 2 L = some ((2 : Int) ^ L) := pow_f 2 (by omega) (by omega) L (by omega) 20 (by omega)
  have hp2 := pow_small 2 (by omega) (by omega) L (by omega)
  obtain ⟨S, hS⟩ : ∃ S : Nat, (2 : Int) ^ L = S := ⟨((2 : Int) ^ L).toNat, by omega⟩
  have hS4 : S ≤ 4 := by
    have : L = 0 ∨ L = 1 ∨ L = 2 := by omega
    rcases this with rfl | rfl | rfl <;> simp at hS <;> omega
  rw [hS] at hpow
  have hpow2 : hat_power.f 20 2 S = some ((2 : Int) ^ S) := pow_f 2 (by omega) (by omega) S (by omega) 20 (by omega)
  have hp3 := pow_small 2 (by omega) (by omega) S (by omega)
  obtain ⟨N, hN⟩ : ∃ N : Nat, (2 : Int) ^ S = N := ⟨((2 : Int) ^ S).toNat, by omega⟩
  rw [hN] at hpow2
  have hfs : Aside0 (findP 2 sees (m + 1) s left = ((List.range N).map fun x : Nat => (digs 2 S x).reverse).findSome? fun t => findP 2 sees m (s ++ [t]) (left.filter fun h => !hits 2 sees s.length t h)) := ⟨by
    show (allHats ((2 : Int) ^ (rd_L2 sees s.length).length).toNat 2).findSome? _ = _
    rw [hL, hS]; unfold allHats; rw [Int.toNat_natCast, hN, Int.toNat_natCast]⟩
  have hine : ((s.length : Int) == (n : Int)) = false := by rw [beq_eq_false_iff_ne]; omega
  have hpc := Lib.hid (fun (W : World) => hat_power.calls 20 2 (L : Int) (S : Int) W hpow)
  have hpc2 := Lib.hid (fun (W : World) => hat_power.calls 20 2 (S : Int) (N : Int) W hpow2)
  have HG := Aside0.mk hg
  have HS := Aside0.mk hs
  have HL := Aside0.mk hl
  have HH := Aside0.mk hh
  have HX := Aside0.mk (And.intro hL (And.intro hS (And.intro hN (And.intro hp2 hp3))))
  have hblt : ad.block < w.heap.size := World.block_lt_of_cell? w _ hx0
  have hblt2 : (ad2.add s.length).block < w.heap.size := World.block_lt_of_cell? w _ hy
  have hlt : decide (s.length < sees.length) = true := decide_eq_true (by omega)
  have hlt2 : ((s.length : Int) < (sees.length : Int)) = True := eq_true (by omega)
  clear hg hs hl hh hpow hpow2 hL hS hN hp2 hp3 z0 z1 z2 hi0 hi3 hl3 hl0 hrow hlen
  go_enter Try.func53, Try.ntmps53
  go_wp2
  repeat (go_quiet (first | (go_at_call 61; refine (hpc.out _).mono ?_; rintro e w' ⟨rfl, ⟨nd, rfl⟩⟩; (try first | exact ⟨rfl, _, World.drewN_drewN _ _ _⟩ | exact ⟨rfl, _, Eq.trans (World.drewN_drewN _ _ _) (congrArg (World.drewN _) (Nat.add_assoc _ _ _))⟩))); try go_wp2_with fail)
  refine (hpc2.out _).mono ?_
  rintro e w' ⟨rfl, hd⟩
  obtain ⟨nd, rfl⟩ := hd
  go_wp2_with fail
  go_loopg [45] N (fun gg v45 wr => ∃ x : Nat, x ≤ N ∧ N - x ≤ gg ∧ v45 = .int .i64 x ∧ Aside0 (FC w wr ad s.length) ∧ Aside0 (∀ y : Nat, y < x → findP 2 sees m (s ++ [(digs 2 S y).reverse]) (left.filter fun h => !hits 2 sees s.length (digs 2 S y).reverse h) = none))
  case atStart => exact ⟨0, Nat.zero_le _, by omega, rfl, ⟨⟨pw_below_drewN (below_alloc (below_alloc (Below.refl _ _) _) _) _, by simp, by simp, by simp⟩⟩, ⟨fun y hy => absurd hy (Nat.not_lt_zero _)⟩⟩
  case round =>
    obtain ⟨x, hxN, hgg, rfl, HF, HNo⟩ := hrel
    by_cases hlt3 : x < N
    · have hltb : decide (x < N) = true := decide_eq_true hlt3
      have HLT3 := Aside0.mk hlt3
      have hNb : N ≤ 65536 := by have h1 := HX.out.2.2.1; have h2 := HX.out.2.2.2.2.2; omega
      have hcG := HF.out.cG
      have hcI := HF.out.cI
      have hx1' := (HF.out.hb.cell (by exact hblt)).trans hx1
      have hdig := digits_f 2 (by omega) S (by omega) (x : Int) (by omega) (by have := HX.out.2.2.2.2; have := HX.out.2.2.1; omega) 20 (by omega)
      have hdc := hat_digits.calls 20 (x : Int) 2 (S : Int) _ wr hdig
      clear hdig hx0 hx1 hx2 hy hblt2
      go_wp2_with fail
      refine hdc.mono ?_
      rintro e w1 ⟨vt, rfl, hR, hb1⟩
      clear hdc
      have hR1 := Kd.R_tight rfl hR
      have hrev := rev_f (digs 2 S x) (by rw [digs_len]; exact hS4) 20 (by omega)
      have hrc := slices_Reverse_int_int.calls 20 (fun k => some k = vt.ownBlock) vt _ _ wr w1 hb1 hR1 hrev
      clear hR hR1 hrev
      have HF1 := Aside0.mk (HF.out.below hb1)
      clear hb1 hcG hcI hx1'
      go_wp2_with fail
      refine hrc.mono ?_
      rintro e w2 ⟨rfl, hR2, hb2, _⟩
      clear hrc HF1
      have HF2 := Aside0.mk (HF.out.below hb2)
      obtain ⟨t, ht⟩ : ∃ t, (digs 2 S x).reverse = t := ⟨_, rfl⟩
      rw [ht] at hR2
      have HT := Aside0.mk (And.intro ht (show t.length = S by rw [← ht, List.length_reverse, digs_len]))
      clear ht
      have hcl := clone_rows (fun k => B ≤ k) A1 c1 s w2 (Kd.F_below HS.out HF2.out.hb) (by omega)
      obtain ⟨At, ct, et⟩ := Kd.R_slice hR2
      subst et
      have HR2 := Aside0.mk (Kd.R_F (Kd.R_mono (Kd.R_bound hR2) (ok' := fun k => wr.heap.size ≤ k) (fun k hk => hk.2.1)))
      have HWS := Aside0.mk (show B ≤ wr.heap.size by have := HF.out.hb.size; omega)
      have HRl := Aside0.mk (Kd.R_reads' hR2).2.1
      have HB2 := Aside0.mk hb2
      clear hR2 hb2 HF
      go_wp2_with fail
      refine hcl.mono ?_
      rintro e w3 ⟨v3, rfl, hN3, hb3⟩
      clear hcl
      have HN3 := Aside0.mk (Kd.N_mono hN3 (ok' := fun k => B ≤ k) (fun k hk => hk.elim id (fun h => by have := HF2.out.hb.size; omega)))
      have HF3 := Aside0.mk (HF2.out.below hb3)
      have HR3 := Aside0.mk (Kd.F_old HR2.out hb3)
      have HS3 := Aside0.mk hb3.size
      have HTW := Aside0.mk HF2.out.two
      clear hN3 hb3 HF2 HR2
      have hb3s := HF3.out.hb.size
      go_wp2_with (first | ((with_reducible refine gate_builtin (b := .append) (xs := #[.tmp 58, .tmp 60]) rfl ?_); at_builtin; refine Kd.N_append rr (w0 := w3) w2.heap.size rfl (.tmp 58) (.tmp 60) 27 37 (.slice none 0 0) 24 rfl Try.underlying27 info37 rfl (by decide) (by omega) v3 s t [.slice At t.length ct] (fun k => B ≤ k) (fun k => wr.heap.size ≤ k ∧ k < w2.heap.size) rfl rfl ?aP ?aA ?aF ?aO ?aB ?aS ?aL ?_; (case aP => exact Kd.FK_slice_mk HRl.out HR3.out); (case aA => exact fun k hk => ⟨by have := HWS.out; have := hk.1; omega, fun e => by have := Kd.N_base HN3.out k e.symm; have := hk.2; omega⟩); (case aF => exact fun k hk => by omega); (case aO => exact HN3.out); (case aB => exact Below.refl _ _); (case aS => exact HS3.out); (case aL => omega); intro v4 w4 hN4 hb4 hg4 _; have HF4 := Aside0.mk (HF3.out.below_ hb4 HS3.out HTW.out); have HN4 := Aside0.mk hN4; clear hb4 hg4 hN4 HF3 HN3; obtain ⟨AN, cn, en⟩ := Kd.N_slice HN4.out; subst en))
      obtain ⟨w5, hw5⟩ : ∃ w5, w4.alloc (.cells #[.slice AN (s ++ [t]).length cn] 27) = w5 := ⟨_, rfl⟩
      have hb45 : Below w4.heap.size w4 w5 := by rw [← hw5]; exact below_alloc (Below.refl _ _) _
      have hsz5 : w5.heap.size = w4.heap.size + 1 := by rw [← hw5]; simp
      have hcN : w5.cell? ⟨w4.heap.size, 0, none⟩ = some (.slice AN (s ++ [t]).length cn) := by rw [← hw5]; simp
      have HF5 := Aside0.mk (HF4.out.below hb45)
      have HN5 := Aside0.mk (Kd.N_below HN4.out hb45)
      have hcl := clone_rows (fun k => k < w.heap.size) A2 c2 left w5 (Kd.F_below (Kd.C_F (Kd.heap_slice 3 (Kd.heap_int .i64)) HL.out) HF5.out.hb) (Nat.le_trans HH.out.1 (by omega))
      have hlen1 : (s ++ [t]).length = s.length + 1 := by simp
      rw [List.length_append, List.length_singleton] at hw5
      rw [hw5]
      have HCN := Aside0.mk hcN
      have HSZ := Aside0.mk hsz5
      clear hcN hsz5 hb45 HF4 HN4 hlen1 hw5
      refine hcl.mono ?_
      rintro e w6 ⟨v6, rfl, hN6, hb6⟩
      clear hcl
      have HF6 := Aside0.mk (HF5.out.below hb6)
      have hrp : RowPred 77 #[.pointer (some ⟨w.heap.size, 0, none⟩), .pointer (some ⟨w4.heap.size, 0, none⟩), .pointer (some ⟨w.heap.size + 1, 0, none⟩)] (fun h => hits 2 sees s.length t h) left w5 := by
        intro W h A c hm hbW hC hcc
        have hh := HH.out.2 h hm
        have hr := C.row s.length hi
        have hlt4 : w4.heap.size < w5.heap.size := by rw [HSZ.out]; omega
        have hst : rd_L2 (s ++ [t]) s.length = t := by rw [rdL_nat _ _ (by simp)]; simp
        have hfl := HF5.out.below hbW
        have hm1 := find_lit n 2 sees (s ++ [t]) s.length w.heap.size w4.heap.size (w.heap.size + 1) (some ad) AN cn W h A c hC hcc hfl.cG ((hbW.cell (p := ⟨w4.heap.size, 0, none⟩) hlt4).trans HCN.out) hfl.cI
          (Kd.C_below HG.out hfl.hb) (Kd.C_below (Kd.N_reads' HN5.out).2.2 hbW) (Kd.N_reads' HN5.out).2.1 (by omega) (by omega) (by rw [C.len]; exact hi) (by simp) (by rw [hh.1]; exact hi) hh.2 (by rw [hh.1]; exact hr.1) (by have := hr.2; omega)
          (by rw [hst, HT.out.2, HX.out.1, HX.out.2.1]; simp)
        rw [hst] at hm1
        exact hm1.mono fun e w' ⟨he, hd⟩ => ⟨he, hd.below⟩
      have hdel := deleteRows (fun h => hits 2 sees s.length t h) 77 _ (Go.Proofs.enters_of Try.func77 (by kernel_rfl) rfl) v6 left w5 w6 w5.heap.size _ (Nat.le_refl _) hb6.size hb6 hN6 hrp
      have HS6 := Aside0.mk hb6.size
      have HB6 := Aside0.mk hb6
      clear hrp hN6 hb6
      go_wp2_with (fail)
      refine hdel.mono ?_
      rintro e w7 ⟨v7, rfl, hN7, hb7⟩
      clear hdel
      have hb57 := HB6.out.trans hb7
      have HF7 := Aside0.mk (HF5.out.below hb57)
      have HN7 := Aside0.mk (Kd.N_below HN5.out hb57)
      obtain ⟨A7, c7, e7⟩ := Kd.N_slice hN7
      subst e7
      have hr7 := Kd.N_reads' hN7
      have hih := ih (s ++ [t]) (left.filter fun h => !hits 2 sees s.length t h) (some ad) AN cn A7 c7 w7 (by have := HF7.out.hb.size; omega) (Kd.C_below HG.out HF7.out.hb) (Kd.N_F HN7.out) (Kd.N_reads' HN7.out).2.1 hr7.2.2 hr7.2.1
        ⟨Nat.le_trans (List.length_filter_le _ _) HH.out.1, fun h hm => HH.out.2 h (List.mem_filter.1 hm).1⟩ (by simp; omega)
      have hcG := HF7.out.cG
      have hcN7 := (hb57.cell (p := ⟨w4.heap.size, 0, none⟩) (by show w4.heap.size < w5.heap.size; rw [HSZ.out]; omega)).trans HCN.out
      obtain ⟨NF, hNF⟩ : ∃ NF, (left.filter fun h => !hits 2 sees s.length t h) = NF := ⟨_, rfl⟩
      rw [hNF] at hih ⊢
      rw [List.length_append, List.length_singleton] at hih
      have HNF := Aside0.mk hNF
      clear hN7 hb7 hb57 hr7 HN5 HCN HSZ HB6 HS6 HF6 HF5 hNF
      go_wp2_with (fail)
      with_reducible refine hih.mono ?_
      rintro e w8 ⟨v8, rfl, hb8, hfound⟩
      clear hih hcG hcN7
      have HF8 := Aside0.mk (HF7.out.below hb8)
      cases hfp : findP 2 sees m (s ++ [t]) NF with
      | none =>
        rw [hfp] at hfound
        obtain rfl : v8 = .slice none 0 0 := hfound
        have hneq := fun W : World => run_neq_slice_nil_any (P := Try.prog) W 27 37 none 0 0 0 0 Try.underlying27
        have HFP := Aside0.mk hfp
        clear hfp hb8 HF7 HN7
        go_wp2
        go_roundg (N - (x + 1))
        case measure => omega
        case rel =>
          refine ⟨x + 1, HLT3.out, Nat.le_refl _, by go_num, HF8, ⟨fun y hy => ?_⟩⟩
          by_cases e : y = x
          · subst e; rw [HT.out.1, HNF.out]; exact HFP.out
          · exact HNo.out y (by omega)
      | some r =>
        rw [hfp] at hfound
        obtain ⟨hr0, hV⟩ := hfound
        obtain ⟨A8, c8, rfl⟩ := Kd.V_slice hV
        obtain ⟨ad8, rfl, _⟩ := (Kd.V_reads' hV).2.2.2.2 hr0
        have hneq := fun W : World => run_neq_slice_nil_any (P := Try.prog) W 27 37 (some ad8) r.length c8 0 0 Try.underlying27
        have HFP := Aside0.mk hfp
        have HV := Aside0.mk hV
        have HR0 := Aside0.mk hr0
        clear hfp hb8 HF7 HN7 hV hr0
        go_wp2
        go_ret
        refine ⟨_, rfl, HF8.out.hb, ?_⟩
        rw [hfs.out, fs_hit (fun x : Nat => (digs 2 S x).reverse) _ r N x HLT3.out HNo.out (by show findP 2 sees m (s ++ [(digs 2 S x).reverse]) (left.filter fun h => !hits 2 sees s.length (digs 2 S x).reverse h) = some r; rw [HT.out.1, HNF.out]; exact HFP.out)]
        exact ⟨HR0.out, HV.out⟩
    · have hltb : decide (x < N) = false := decide_eq_false hlt3
      have HXN := Aside0.mk (show x = N by omega)
      clear hlt3
      go_wp2
      go_ret
      refine ⟨_, rfl, HF.out.hb, ?_⟩
      rw [hfs.out, fs_miss (fun x : Nat => (digs 2 S x).reverse) _ N (by have := HXN.out; subst this; exact HNo.out)]
      exact rfl

end Go.Proofs.Ytgjmfehdjbepiaa.P

end

section
/- The contract of hat.Find: the first strategy that wins, or the error. -/
namespace Go.Proofs.Ytgjmfehdjbepiaa.P
set_option linter.unusedVariables false
open Go.RowKit Go.Proofs.YtgjmfehdjbepiaaW.PrintWords Go.Proofs.YtgjmfehdjbepiaaW.PrintLast Go.Proofs.YtgjmfehdjbepiaaW.PrintMore

instance (n q : Int) (l : List S71) : Decidable (goodNums n q l) := by unfold goodNums; infer_instance
/-- The players that each one sees. -/
def seesOf (l : List S71) (n : Nat) : List (List Int) := seesTo l n n
/-- What Find answers, and its error. -/
def hat_Find.f (n q : Int) (l : List S71) : Option (List (List Int) × Int) :=
  if goodNums n q l ∧ l.any (badEdge n) = false ∧ n ≤ 3 ∧ q = 2 then
    (match findP 2 (seesOf l n.toNat) n.toNat [] (allHats n.toNat 2) with | some s => some (s, 0) | none => some ([], 5))
  else some ([], 1)

theorem rowTo_mem (l : List S71) (i : Int) (n : Nat) : Below_ n (rowTo l i n) := by
  intro j hj
  unfold rowTo at hj
  obtain ⟨h1, _⟩ := List.mem_filter.1 hj
  obtain ⟨k, hk, rfl⟩ := List.mem_map.1 h1
  have := List.mem_range.1 hk
  omega
theorem rowTo_less (l : List S71) (i n : Nat) (h : i < n) : (rowTo l i n).length ≤ n - 1 := by
  unfold rowTo
  have h1 : (((List.range n).map fun k : Nat => (k : Int)).filter (nb l i)).length < ((List.range n).map fun k : Nat => (k : Int)).length := by
    rw [List.length_filter_lt_length_iff_exists]
    exact ⟨(i : Int), List.mem_map.2 ⟨i, List.mem_range.2 h, rfl⟩, by simp [nb]⟩
  rw [List.length_map, List.length_range] at h1
  omega
theorem sees_ctx (l : List S71) (n : Nat) (h1 : 1 ≤ n) (h3 : n ≤ 3) : FindCtx n (seesOf l n) := by
  refine ⟨h1, h3, seesTo_len l n n, fun i hi => ?_⟩
  have e : rd_L2 (seesOf l n) i = rowTo l i n := by
    rw [rdL_nat _ _ (by rw [seesOf, seesTo_len]; exact hi)]
    unfold seesOf seesTo; simp
  rw [e]
  exact ⟨rowTo_mem l i n, by have := rowTo_less l i n hi; omega⟩
theorem allHats_of (n : Nat) (h3 : n ≤ 3) : HatsOf n (allHats n 2) := by
  unfold HatsOf allHats
  have hp := pow_small 2 (by omega) (by omega) n (by omega)
  have h8 : (2 : Int) ^ n ≤ 8 := by
    have : n = 0 ∨ n = 1 ∨ n = 2 ∨ n = 3 := by omega
    rcases this with rfl | rfl | rfl | rfl <;> decide
  refine ⟨by simp; omega, fun h hh => ?_⟩
  obtain ⟨x, _, rfl⟩ := List.mem_map.1 hh
  refine ⟨by rw [List.length_reverse, digs_len], fun c hc => digs_mem 2 (by omega) n _ c (List.mem_reverse.1 hc)⟩
theorem find_all (n : Nat) (sees : List (List Int)) (C : FindCtx n sees) (B : Nat) : ∀ m, FindAt n sees B m
  | 0 => fun s left AG A1 c1 A2 c2 w hB hg hs hc1 hl hc2 hh hsm => find_zero n sees C B s left AG A1 c1 A2 c2 w hB hg hs hc1 hl (by omega)
  | m + 1 => find_succ n sees C B m (find_all n sees C B m)

set_option maxRecDepth 100000 in
set_option maxHeartbeats 8000000 in
theorem hat_Find.calls (a0 : Int) (a1 : Int) (A2 : Option Addr) (c2 : Nat) (l2 : List S71) (r1 : List (List Int)) (r2 : Int) (w : World) (hr2 : Kd.C k71 w A2 l2.length l2) (hc2 : l2.length ≤ c2) (h : hat_Find.f a0 a1 l2 = some (r1, r2)) :
    Calls Try.prog 18 #[.int .i64 a0, .int .i64 a1, .slice A2 l2.length c2] w fun e w' => ∃ v0_ : Value, e = .returned (.tuple #[v0_, .int .i64 r2]) ∧ Kd.V (Kd.slice 3 (Kd.int .i64)) 37 w' w.heap.size (fun k_ => (w.heap.size ≤ k_)) v0_ r1 ∧ Below w.heap.size w w' := by
  unfold hat_Find.f at h
  by_cases hg : goodNums a0 a1 l2
  · have hrd := read_good a0 a1 A2 c2 l2 w hr2 hc2 hg
    by_cases hb : l2.any (badEdge a0) = false
    · by_cases h3 : a0 ≤ 3
      · by_cases hq : a1 = 2
        · rw [if_pos ⟨hg, hb, h3, hq⟩] at h
          subst hq
          have g1 := hg.1
          obtain ⟨n, rfl⟩ := Int.eq_ofNat_of_zero_le (show 0 ≤ a0 by omega)
          rw [Int.toNat_natCast] at h hrd
          have C := sees_ctx l2 n (by omega) (by omega)
          obtain ⟨k, hk⟩ := all_some n (by omega) 2 (by omega) (by omega) (seesOf l2 n)
          rw [hb] at hrd
          have h3b : decide (3 < (n : Int)) = false := decide_eq_false (by omega)
          have h3c : decide (3 < n) = false := decide_eq_false (by omega)
          have HH := Aside0.mk h
          have HRD := Aside0.mk hrd
          have HK := Aside0.mk hk
          clear h hrd hr2 hc2 hg hb h3 g1 hk
          go_enter Try.func18, Try.ntmps18
          go_wp2_with (fail)
          refine HRD.out.mono ?_
          rintro e w1 ⟨rfl, hb1, hG⟩
          have HG := Aside0.mk hG
          have HB1 := Aside0.mk hb1
          clear hG hb1
          go_wp2_with (fail)
          refine (hat_game_all.calls k _ 1 [(⟨n, 2, seesOf l2 n⟩ : S103)] _ w1 HG.out (by simp) HK.out).mono ?_
          rintro e w2 ⟨va, rfl, hS, hb2⟩
          obtain ⟨Aa, ca, rfl⟩ := Kd.S_slice hS
          have hra := Kd.S_reads' hS
          have HB2 := Aside0.mk (HB1.out.trans (hb2.mono HB1.out.size))
          have hfind := find_all n (seesOf l2 n) C w.heap.size n [] (allHats n 2) (some ⟨w.heap.size + 1, 0, none⟩) none 0 Aa ca w2 HB2.out.size (Kd.C_below HG.out hb2) (Kd.F_nil _ _ _) (by simp) hra.2.2 hra.2.1 (allHats_of n (by have := C.n3; omega)) (by simp)
          rw [List.length_nil] at hfind
          clear hS hra hb2
          go_wp2_with (fail)
          with_reducible refine hfind.mono ?_
          rintro e w3 ⟨v3, rfl, hb3, hfd⟩
          have HB3 := Aside0.mk (HB2.out.trans (hb3.mono HB2.out.size))
          clear hfind hb3
          cases hfp : findP 2 (seesOf l2 n) n [] (allHats n 2) with
          | none =>
            rw [hfp] at hfd HH
            obtain rfl : v3 = .slice none 0 0 := hfd
            have hneq := fun W : World => Lib.run_eql_slice_nil (P := Try.prog) W 27 37 none 0 0 0 0 Try.underlying27
            obtain ⟨rfl, rfl⟩ : [] = r1 ∧ (5 : Int) = r2 := by simpa using HH.out
            clear hfp
            go_wp2
            go_ret2
            exact ⟨_, rfl, Kd.V_nil _ _ _ _ _, HB3.out⟩
          | some s =>
            rw [hfp] at hfd HH
            obtain ⟨hr0, hV⟩ := hfd
            obtain ⟨A8, c8, rfl⟩ := Kd.V_slice hV
            obtain ⟨ad8, rfl, _⟩ := (Kd.V_reads' hV).2.2.2.2 hr0
            have hneq := fun W : World => Lib.run_eql_slice_nil (P := Try.prog) W 27 37 (some ad8) s.length c8 0 0 Try.underlying27
            obtain ⟨rfl, rfl⟩ : s = r1 ∧ (0 : Int) = r2 := by simpa using HH.out
            have HV := Aside0.mk hV
            clear hfp hV hr0
            go_wp2
            go_ret2
            exact ⟨_, rfl, HV.out, HB3.out⟩
        · rw [if_neg (fun hh => hq hh.2.2.2)] at h
          obtain ⟨rfl, rfl⟩ : [] = r1 ∧ (1 : Int) = r2 := by simpa using h
          rw [hb] at hrd
          have h3b : decide (3 < a0) = false := decide_eq_false (by omega)
          have hqb : (a1 != 2) = true := by rw [bne_iff_ne]; exact hq
          have HRD := Aside0.mk hrd
          clear h hrd hr2 hc2 hg hb h3 hq
          go_enter Try.func18, Try.ntmps18
          go_wp2_with (fail)
          refine HRD.out.mono ?_
          rintro e w1 ⟨rfl, hb1, hG⟩
          clear hG
          go_wp2
          go_ret2
          exact ⟨_, rfl, Kd.V_nil _ _ _ _ _, hb1⟩
      · rw [if_neg (fun hh => h3 hh.2.2.1)] at h
        obtain ⟨rfl, rfl⟩ : [] = r1 ∧ (1 : Int) = r2 := by simpa using h
        rw [hb] at hrd
        have h3b : decide (3 < a0) = true := decide_eq_true (by omega)
        have HRD := Aside0.mk hrd
        clear h hrd hr2 hc2 hg hb h3
        go_enter Try.func18, Try.ntmps18
        go_wp2_with (fail)
        refine HRD.out.mono ?_
        rintro e w1 ⟨rfl, hb1, hG⟩
        clear hG
        go_wp2
        go_ret2
        exact ⟨_, rfl, Kd.V_nil _ _ _ _ _, hb1⟩
    · rw [if_neg (fun hh => hb hh.2.1)] at h
      obtain ⟨rfl, rfl⟩ : [] = r1 ∧ (1 : Int) = r2 := by simpa using h
      rw [Bool.not_eq_false] at hb
      rw [hb] at hrd
      have HRD := Aside0.mk hrd
      clear h hrd hr2 hc2 hg hb
      go_enter Try.func18, Try.ntmps18
      go_wp2_with (fail)
      refine HRD.out.mono ?_
      rintro e w1 ⟨rfl, hb1, hG⟩
      clear hG
      go_wp2
      go_ret2
      exact ⟨_, rfl, Kd.V_nil _ _ _ _ _, hb1⟩
  · have hrd := read_bad a0 a1 A2 c2 l2 w hc2 hg
    rw [if_neg (fun hh => hg hh.1)] at h
    obtain ⟨rfl, rfl⟩ : [] = r1 ∧ (1 : Int) = r2 := by simpa using h
    have HRD := Aside0.mk hrd
    clear h hrd hr2 hc2 hg
    go_enter Try.func18, Try.ntmps18
    go_wp2_with (fail)
    refine HRD.out.mono ?_
    rintro e w1 ⟨rfl, hb1⟩
    go_wp2
    go_ret2
    exact ⟨_, rfl, Kd.V_nil _ _ _ _ _, hb1⟩

end Go.Proofs.Ytgjmfehdjbepiaa.P

end

section
-- written by a program of this session
namespace Go.Proofs.Ytgjmfehdjbepiaa.P
open Go.RowKit Go.Proofs.YtgjmfehdjbepiaaW.PrintWords Go.Proofs.YtgjmfehdjbepiaaW.PrintLast Go.Proofs.YtgjmfehdjbepiaaW.PrintMore
attribute [local go_sem] max2_int min2_int max_two min_two max_three min_three max_four min_four   -- for this text's walks alone
set_option linter.unusedVariables false
set_option linter.unusedSimpArgs false

/-! ### wogglelaw09_lives: function 20 -/
def wogglelaw09_lives.f (k : Nat)  : Option (Bool) := (hat_Find.f 2 2 (([(⟨0, 1⟩ : S71)] : List (S71)))).bind fun bt195 => ((hat_Ebert.f k (([0, 1, 0] : List Int))).bind fun bt202 => ((hat_Wins.f k (([0, 0, 0] : List Int))).bind fun bt209 => ((hat_Line.f k 2 (([1, 0, 1] : List Int))).bind fun bt214 => ((woggleref01_SameLists.f k bt195.1 (([(([0, 1] : List Int)), (([1, 0] : List Int))] : List (List Int)))).bind fun t227 => (if t227 = true then (if bt195.2 = 0 then ((woggleref01_Same.f k bt202.1 (([(-1), 1, (-1)] : List Int))).bind fun t231 => (if t231 = true then (if bt202.2 = 0 then (if bt209.1 = true then (some false) else (if bt209.2 = 0 then ((woggleref01_Same.f k bt214.1 (([1, 0, 1] : List Int))).bind fun t235 => (if t235 = true then (some (bt214.2 == 0)) else (some false))) else (some false))) else (some false)) else (some false))) else (some false)) else (some false))))))
theorem wogglelaw09_lives.mono : ∀ k, LeO (wogglelaw09_lives.f k ) (wogglelaw09_lives.f (k + 1) ) := by
  intro  k
  unfold wogglelaw09_lives.f
  repeat' first
      | (with_reducible exact hat_Ebert.mono _ _)
      | (with_reducible exact hat_Line.mono _ _ _)
      | (with_reducible exact hat_Wins.mono _ _)
      | (with_reducible exact woggleref01_Same.mono _ _ _)
      | (with_reducible exact woggleref01_SameLists.mono _ _ _)
      | (with_reducible exact LeO.refl _)
      | (with_reducible exact LeO.none _)
      | (with_reducible refine LeO.ite ?_ ?_)
      | (with_reducible refine LeO.bind ?_ (fun _ => ?_))
      | exact hat_Ebert.mono _ _
      | exact hat_Line.mono _ _ _
      | exact hat_Wins.mono _ _
      | exact woggleref01_Same.mono _ _ _
      | exact woggleref01_SameLists.mono _ _ _
      | exact LeO.none _
      | refine LeO.ite ?_ ?_
      | refine LeO.bind ?_ (fun _ => ?_)

end Go.Proofs.Ytgjmfehdjbepiaa.P

end

section
namespace Go.Proofs.Ytgjmfehdjbepiaa.P
open Go.RowKit Go.Proofs.YtgjmfehdjbepiaaW.PrintWords
set_option maxRecDepth 100000
theorem hat_lives_at : wogglelaw09_lives.f 40 = some true := by decide +kernel
theorem leo_up {α : Type} {f : Nat → Option α} (m : ∀ k, LeO (f k) (f (k + 1))) {k : Nat} {r : α} (h : f k = some r) : ∀ j, f (k + j) = some r
  | 0 => h
  | j + 1 => m _ _ (leo_up m h j)
theorem wogglelaw09_lives.only (k : Nat) (r : Bool) (h : wogglelaw09_lives.f k = some r) : r = true := by
  have h1 := leo_up wogglelaw09_lives.mono h 40
  have h2 := leo_up wogglelaw09_lives.mono hat_lives_at k
  rw [Nat.add_comm] at h2
  exact Option.some.inj (h1.symm.trans h2)
end Go.Proofs.Ytgjmfehdjbepiaa.P

end

section
-- written by a program of this session
namespace Go.Proofs.Ytgjmfehdjbepiaa.P
open Go.RowKit Go.Proofs.YtgjmfehdjbepiaaW.PrintWords Go.Proofs.YtgjmfehdjbepiaaW.PrintLast Go.Proofs.YtgjmfehdjbepiaaW.PrintMore
attribute [local go_sem] max2_int min2_int max_two min_two max_three min_three max_four min_four   -- for this text's walks alone
set_option linter.unusedVariables false
set_option linter.unusedSimpArgs false

set_option maxHeartbeats 8000000 in
set_option maxRecDepth 100000 in
theorem wogglelaw09_lives.calls (k : Nat)  (r : Bool) (w : World) (h : wogglelaw09_lives.f k  = some r) :
    Calls Try.prog 20 #[] w fun e w' => e = .returned (.bool r) ∧ Below w.heap.size w w' := by
  have hu71 := Try.underlying71
  have HB := Aside0.mk (Below.refl w.heap.size w)
  have hr_ : r = true := wogglelaw09_lives.only k r h
  have H : ((hat_Find.f 2 2 (([(⟨0, 1⟩ : S71)] : List (S71)))).bind fun bt195 => ((hat_Ebert.f k (([0, 1, 0] : List Int))).bind fun bt202 => ((hat_Wins.f k (([0, 0, 0] : List Int))).bind fun bt209 => ((hat_Line.f k 2 (([1, 0, 1] : List Int))).bind fun bt214 => ((woggleref01_SameLists.f k bt195.1 (([(([0, 1] : List Int)), (([1, 0] : List Int))] : List (List Int)))).bind fun t227 => (if t227 = true then (if bt195.2 = 0 then ((woggleref01_Same.f k bt202.1 (([(-1), 1, (-1)] : List Int))).bind fun t231 => (if t231 = true then (if bt202.2 = 0 then (if bt209.1 = true then (some false) else (if bt209.2 = 0 then ((woggleref01_Same.f k bt214.1 (([1, 0, 1] : List Int))).bind fun t235 => (if t235 = true then (some (bt214.2 == 0)) else (some false))) else (some false))) else (some false)) else (some false))) else (some false)) else (some false))))))) = some r := h
  clear h
  obtain ⟨y192, hy192⟩ : ∃ y_ : List (S71), y_ = (([(⟨0, 1⟩ : S71)] : List (S71))) := ⟨_, rfl⟩
  replace H : ((hat_Find.f 2 2 y192).bind fun bt195 => ((hat_Ebert.f k (([0, 1, 0] : List Int))).bind fun bt202 => ((hat_Wins.f k (([0, 0, 0] : List Int))).bind fun bt209 => ((hat_Line.f k 2 (([1, 0, 1] : List Int))).bind fun bt214 => ((woggleref01_SameLists.f k bt195.1 (([(([0, 1] : List Int)), (([1, 0] : List Int))] : List (List Int)))).bind fun t227 => (if t227 = true then (if bt195.2 = 0 then ((woggleref01_Same.f k bt202.1 (([(-1), 1, (-1)] : List Int))).bind fun t231 => (if t231 = true then (if bt202.2 = 0 then (if bt209.1 = true then (some false) else (if bt209.2 = 0 then ((woggleref01_Same.f k bt214.1 (([1, 0, 1] : List Int))).bind fun t235 => (if t235 = true then (some (bt214.2 == 0)) else (some false))) else (some false))) else (some false)) else (some false))) else (some false)) else (some false))))))) = some r := by first | (rw [hy192]; with_reducible exact H) | (have H2_ := (Option.bind_some _ _).symm.trans H; rw [hy192]; with_reducible exact H2_) | (have H2_ := (Option.bind_some _ _).symm.trans H; with_reducible exact H2_) | with_reducible exact H | (rw [hy192]; exact H) | exact H
  have Ny192 := Aside0.mk hy192
  clear hy192
  replace H := Option.bind_eq_some_iff.mp H
  obtain ⟨⟨t195, t198⟩, A10, H⟩ := H
  replace H : ((hat_Ebert.f k (([0, 1, 0] : List Int))).bind fun bt202 => ((hat_Wins.f k (([0, 0, 0] : List Int))).bind fun bt209 => ((hat_Line.f k 2 (([1, 0, 1] : List Int))).bind fun bt214 => ((woggleref01_SameLists.f k t195 (([(([0, 1] : List Int)), (([1, 0] : List Int))] : List (List Int)))).bind fun t227 => (if t227 = true then (if t198 = 0 then ((woggleref01_Same.f k bt202.1 (([(-1), 1, (-1)] : List Int))).bind fun t231 => (if t231 = true then (if bt202.2 = 0 then (if bt209.1 = true then (some false) else (if bt209.2 = 0 then ((woggleref01_Same.f k bt214.1 (([1, 0, 1] : List Int))).bind fun t235 => (if t235 = true then (some (bt214.2 == 0)) else (some false))) else (some false))) else (some false)) else (some false))) else (some false)) else (some false)))))) = some r := H
  have A1 := Aside0.mk A10
  clear A10
  obtain ⟨y199, hy199⟩ : ∃ y_ : List Int, y_ = (([0, 1, 0] : List Int)) := ⟨_, rfl⟩
  replace H : ((hat_Ebert.f k y199).bind fun bt202 => ((hat_Wins.f k (([0, 0, 0] : List Int))).bind fun bt209 => ((hat_Line.f k 2 (([1, 0, 1] : List Int))).bind fun bt214 => ((woggleref01_SameLists.f k t195 (([(([0, 1] : List Int)), (([1, 0] : List Int))] : List (List Int)))).bind fun t227 => (if t227 = true then (if t198 = 0 then ((woggleref01_Same.f k bt202.1 (([(-1), 1, (-1)] : List Int))).bind fun t231 => (if t231 = true then (if bt202.2 = 0 then (if bt209.1 = true then (some false) else (if bt209.2 = 0 then ((woggleref01_Same.f k bt214.1 (([1, 0, 1] : List Int))).bind fun t235 => (if t235 = true then (some (bt214.2 == 0)) else (some false))) else (some false))) else (some false)) else (some false))) else (some false)) else (some false)))))) = some r := by first | (rw [hy199]; with_reducible exact H) | (have H2_ := (Option.bind_some _ _).symm.trans H; rw [hy199]; with_reducible exact H2_) | (have H2_ := (Option.bind_some _ _).symm.trans H; with_reducible exact H2_) | with_reducible exact H | (rw [hy199]; exact H) | exact H
  have Ny199 := Aside0.mk hy199
  clear hy199
  replace H := Option.bind_eq_some_iff.mp H
  obtain ⟨⟨t202, t203⟩, A20, H⟩ := H
  replace H : ((hat_Wins.f k (([0, 0, 0] : List Int))).bind fun bt209 => ((hat_Line.f k 2 (([1, 0, 1] : List Int))).bind fun bt214 => ((woggleref01_SameLists.f k t195 (([(([0, 1] : List Int)), (([1, 0] : List Int))] : List (List Int)))).bind fun t227 => (if t227 = true then (if t198 = 0 then ((woggleref01_Same.f k t202 (([(-1), 1, (-1)] : List Int))).bind fun t231 => (if t231 = true then (if t203 = 0 then (if bt209.1 = true then (some false) else (if bt209.2 = 0 then ((woggleref01_Same.f k bt214.1 (([1, 0, 1] : List Int))).bind fun t235 => (if t235 = true then (some (bt214.2 == 0)) else (some false))) else (some false))) else (some false)) else (some false))) else (some false)) else (some false))))) = some r := H
  have A2 := Aside0.mk A20
  clear A20
  obtain ⟨y206, hy206⟩ : ∃ y_ : List Int, y_ = (([0, 0, 0] : List Int)) := ⟨_, rfl⟩
  replace H : ((hat_Wins.f k y206).bind fun bt209 => ((hat_Line.f k 2 (([1, 0, 1] : List Int))).bind fun bt214 => ((woggleref01_SameLists.f k t195 (([(([0, 1] : List Int)), (([1, 0] : List Int))] : List (List Int)))).bind fun t227 => (if t227 = true then (if t198 = 0 then ((woggleref01_Same.f k t202 (([(-1), 1, (-1)] : List Int))).bind fun t231 => (if t231 = true then (if t203 = 0 then (if bt209.1 = true then (some false) else (if bt209.2 = 0 then ((woggleref01_Same.f k bt214.1 (([1, 0, 1] : List Int))).bind fun t235 => (if t235 = true then (some (bt214.2 == 0)) else (some false))) else (some false))) else (some false)) else (some false))) else (some false)) else (some false))))) = some r := by first | (rw [hy206]; with_reducible exact H) | (have H2_ := (Option.bind_some _ _).symm.trans H; rw [hy206]; with_reducible exact H2_) | (have H2_ := (Option.bind_some _ _).symm.trans H; with_reducible exact H2_) | with_reducible exact H | (rw [hy206]; exact H) | exact H
  have Ny206 := Aside0.mk hy206
  clear hy206
  replace H := Option.bind_eq_some_iff.mp H
  obtain ⟨⟨t209, t210⟩, A30, H⟩ := H
  replace H : ((hat_Line.f k 2 (([1, 0, 1] : List Int))).bind fun bt214 => ((woggleref01_SameLists.f k t195 (([(([0, 1] : List Int)), (([1, 0] : List Int))] : List (List Int)))).bind fun t227 => (if t227 = true then (if t198 = 0 then ((woggleref01_Same.f k t202 (([(-1), 1, (-1)] : List Int))).bind fun t231 => (if t231 = true then (if t203 = 0 then (if t209 = true then (some false) else (if t210 = 0 then ((woggleref01_Same.f k bt214.1 (([1, 0, 1] : List Int))).bind fun t235 => (if t235 = true then (some (bt214.2 == 0)) else (some false))) else (some false))) else (some false)) else (some false))) else (some false)) else (some false)))) = some r := H
  have A3 := Aside0.mk A30
  clear A30
  obtain ⟨y211, hy211⟩ : ∃ y_ : List Int, y_ = (([1, 0, 1] : List Int)) := ⟨_, rfl⟩
  replace H : ((hat_Line.f k 2 y211).bind fun bt214 => ((woggleref01_SameLists.f k t195 (([(([0, 1] : List Int)), (([1, 0] : List Int))] : List (List Int)))).bind fun t227 => (if t227 = true then (if t198 = 0 then ((woggleref01_Same.f k t202 (([(-1), 1, (-1)] : List Int))).bind fun t231 => (if t231 = true then (if t203 = 0 then (if t209 = true then (some false) else (if t210 = 0 then ((woggleref01_Same.f k bt214.1 (([1, 0, 1] : List Int))).bind fun t235 => (if t235 = true then (some (bt214.2 == 0)) else (some false))) else (some false))) else (some false)) else (some false))) else (some false)) else (some false)))) = some r := by first | (rw [hy211]; with_reducible exact H) | (have H2_ := (Option.bind_some _ _).symm.trans H; rw [hy211]; with_reducible exact H2_) | (have H2_ := (Option.bind_some _ _).symm.trans H; with_reducible exact H2_) | with_reducible exact H | (rw [hy211]; exact H) | exact H
  have Ny211 := Aside0.mk hy211
  clear hy211
  replace H := Option.bind_eq_some_iff.mp H
  obtain ⟨⟨t214, t215⟩, A40, H⟩ := H
  replace H : ((woggleref01_SameLists.f k t195 (([(([0, 1] : List Int)), (([1, 0] : List Int))] : List (List Int)))).bind fun t227 => (if t227 = true then (if t198 = 0 then ((woggleref01_Same.f k t202 (([(-1), 1, (-1)] : List Int))).bind fun t231 => (if t231 = true then (if t203 = 0 then (if t209 = true then (some false) else (if t210 = 0 then ((woggleref01_Same.f k t214 (([1, 0, 1] : List Int))).bind fun t235 => (if t235 = true then (some (t215 == 0)) else (some false))) else (some false))) else (some false)) else (some false))) else (some false)) else (some false))) = some r := H
  have A4 := Aside0.mk A40
  clear A40
  obtain ⟨y218, hy218⟩ : ∃ y_ : List Int, y_ = (([0, 1] : List Int)) := ⟨_, rfl⟩
  replace H : ((woggleref01_SameLists.f k t195 (([y218, (([1, 0] : List Int))] : List (List Int)))).bind fun t227 => (if t227 = true then (if t198 = 0 then ((woggleref01_Same.f k t202 (([(-1), 1, (-1)] : List Int))).bind fun t231 => (if t231 = true then (if t203 = 0 then (if t209 = true then (some false) else (if t210 = 0 then ((woggleref01_Same.f k t214 (([1, 0, 1] : List Int))).bind fun t235 => (if t235 = true then (some (t215 == 0)) else (some false))) else (some false))) else (some false)) else (some false))) else (some false)) else (some false))) = some r := by first | (rw [hy218]; with_reducible exact H) | (have H2_ := (Option.bind_some _ _).symm.trans H; rw [hy218]; with_reducible exact H2_) | (have H2_ := (Option.bind_some _ _).symm.trans H; with_reducible exact H2_) | with_reducible exact H | (rw [hy218]; exact H) | exact H
  have Ny218 := Aside0.mk hy218
  clear hy218
  obtain ⟨y221, hy221⟩ : ∃ y_ : List Int, y_ = (([1, 0] : List Int)) := ⟨_, rfl⟩
  replace H : ((woggleref01_SameLists.f k t195 (([y218, y221] : List (List Int)))).bind fun t227 => (if t227 = true then (if t198 = 0 then ((woggleref01_Same.f k t202 (([(-1), 1, (-1)] : List Int))).bind fun t231 => (if t231 = true then (if t203 = 0 then (if t209 = true then (some false) else (if t210 = 0 then ((woggleref01_Same.f k t214 (([1, 0, 1] : List Int))).bind fun t235 => (if t235 = true then (some (t215 == 0)) else (some false))) else (some false))) else (some false)) else (some false))) else (some false)) else (some false))) = some r := by first | (rw [hy221]; with_reducible exact H) | (have H2_ := (Option.bind_some _ _).symm.trans H; rw [hy221]; with_reducible exact H2_) | (have H2_ := (Option.bind_some _ _).symm.trans H; with_reducible exact H2_) | with_reducible exact H | (rw [hy221]; exact H) | exact H
  have Ny221 := Aside0.mk hy221
  clear hy221
  obtain ⟨y224, hy224⟩ : ∃ y_ : List (List Int), y_ = (([y218, y221] : List (List Int))) := ⟨_, rfl⟩
  replace H : ((woggleref01_SameLists.f k t195 y224).bind fun t227 => (if t227 = true then (if t198 = 0 then ((woggleref01_Same.f k t202 (([(-1), 1, (-1)] : List Int))).bind fun t231 => (if t231 = true then (if t203 = 0 then (if t209 = true then (some false) else (if t210 = 0 then ((woggleref01_Same.f k t214 (([1, 0, 1] : List Int))).bind fun t235 => (if t235 = true then (some (t215 == 0)) else (some false))) else (some false))) else (some false)) else (some false))) else (some false)) else (some false))) = some r := by first | (rw [hy224]; with_reducible exact H) | (have H2_ := (Option.bind_some _ _).symm.trans H; rw [hy224]; with_reducible exact H2_) | (have H2_ := (Option.bind_some _ _).symm.trans H; with_reducible exact H2_) | with_reducible exact H | (rw [hy224]; exact H) | exact H
  have Ny224 := Aside0.mk hy224
  clear hy224
  replace H := Option.bind_eq_some_iff.mp H
  obtain ⟨t227, A50, H⟩ := H
  replace H : (if t227 = true then (if t198 = 0 then ((woggleref01_Same.f k t202 (([(-1), 1, (-1)] : List Int))).bind fun t231 => (if t231 = true then (if t203 = 0 then (if t209 = true then (some false) else (if t210 = 0 then ((woggleref01_Same.f k t214 (([1, 0, 1] : List Int))).bind fun t235 => (if t235 = true then (some (t215 == 0)) else (some false))) else (some false))) else (some false)) else (some false))) else (some false)) else (some false)) = some r := H
  have A5 := Aside0.mk A50
  clear A50
  by_cases c6 : t227 = true
  · subst c6
    have H1 : (if t198 = 0 then ((woggleref01_Same.f k t202 (([(-1), 1, (-1)] : List Int))).bind fun t231 => (if t231 = true then (if t203 = 0 then (if t209 = true then (some false) else (if t210 = 0 then ((woggleref01_Same.f k t214 (([1, 0, 1] : List Int))).bind fun t235 => (if t235 = true then (some (t215 == 0)) else (some false))) else (some false))) else (some false)) else (some false))) else (some false)) = some r := by rw [if_pos rfl] at H; exact H
    clear H
    have H := H1
    clear H1
    by_cases c7 : t198 = 0
    · rw [if_pos c7] at H
      have c7b0 : (t198 == 0) = true := beq_iff_eq.mpr c7
      have c7b1 : (t198 != 0) = false := bne_eq_false_iff_eq.mpr c7
      clear c7
      obtain ⟨y228, hy228⟩ : ∃ y_ : List Int, y_ = (([(-1), 1, (-1)] : List Int)) := ⟨_, rfl⟩
      replace H : ((woggleref01_Same.f k t202 y228).bind fun t231 => (if t231 = true then (if t203 = 0 then (if t209 = true then (some false) else (if t210 = 0 then ((woggleref01_Same.f k t214 (([1, 0, 1] : List Int))).bind fun t235 => (if t235 = true then (some (t215 == 0)) else (some false))) else (some false))) else (some false)) else (some false))) = some r := by first | (rw [hy228]; with_reducible exact H) | (have H2_ := (Option.bind_some _ _).symm.trans H; rw [hy228]; with_reducible exact H2_) | (have H2_ := (Option.bind_some _ _).symm.trans H; with_reducible exact H2_) | with_reducible exact H | (rw [hy228]; exact H) | exact H
      have Ny228 := Aside0.mk hy228
      clear hy228
      replace H := Option.bind_eq_some_iff.mp H
      obtain ⟨t231, A80, H⟩ := H
      replace H : (if t231 = true then (if t203 = 0 then (if t209 = true then (some false) else (if t210 = 0 then ((woggleref01_Same.f k t214 (([1, 0, 1] : List Int))).bind fun t235 => (if t235 = true then (some (t215 == 0)) else (some false))) else (some false))) else (some false)) else (some false)) = some r := H
      have A8 := Aside0.mk A80
      clear A80
      by_cases c9 : t231 = true
      · subst c9
        have H1 : (if t203 = 0 then (if t209 = true then (some false) else (if t210 = 0 then ((woggleref01_Same.f k t214 (([1, 0, 1] : List Int))).bind fun t235 => (if t235 = true then (some (t215 == 0)) else (some false))) else (some false))) else (some false)) = some r := by rw [if_pos rfl] at H; exact H
        clear H
        have H := H1
        clear H1
        by_cases c10 : t203 = 0
        · rw [if_pos c10] at H
          have c10b0 : (t203 == 0) = true := beq_iff_eq.mpr c10
          have c10b1 : (t203 != 0) = false := bne_eq_false_iff_eq.mpr c10
          clear c10
          by_cases c11 : t209 = true
          · subst c11
            have H1 : (some false) = some r := by rw [if_pos rfl] at H; exact H
            clear H
            have H := H1
            clear H1
            exact absurd (H.trans (congrArg some hr_)) (by decide)
          · replace c11 := Bool.eq_false_iff.mpr c11
            subst c11
            have H1 : (if t210 = 0 then ((woggleref01_Same.f k t214 (([1, 0, 1] : List Int))).bind fun t235 => (if t235 = true then (some (t215 == 0)) else (some false))) else (some false)) = some r := by rw [if_neg (show ¬ (false = true) by decide)] at H; exact H
            clear H
            have H := H1
            clear H1
            by_cases c12 : t210 = 0
            · rw [if_pos c12] at H
              have c12b0 : (t210 == 0) = true := beq_iff_eq.mpr c12
              have c12b1 : (t210 != 0) = false := bne_eq_false_iff_eq.mpr c12
              clear c12
              obtain ⟨y232, hy232⟩ : ∃ y_ : List Int, y_ = (([1, 0, 1] : List Int)) := ⟨_, rfl⟩
              replace H : ((woggleref01_Same.f k t214 y232).bind fun t235 => (if t235 = true then (some (t215 == 0)) else (some false))) = some r := by first | (rw [hy232]; with_reducible exact H) | (have H2_ := (Option.bind_some _ _).symm.trans H; rw [hy232]; with_reducible exact H2_) | (have H2_ := (Option.bind_some _ _).symm.trans H; with_reducible exact H2_) | with_reducible exact H | (rw [hy232]; exact H) | exact H
              have Ny232 := Aside0.mk hy232
              clear hy232
              replace H := Option.bind_eq_some_iff.mp H
              obtain ⟨t235, A130, H⟩ := H
              replace H : (if t235 = true then (some (t215 == 0)) else (some false)) = some r := H
              have A13 := Aside0.mk A130
              clear A130
              by_cases c14 : t235 = true
              · subst c14
                have H1 : (some (t215 == 0)) = some r := by rw [if_pos rfl] at H; exact H
                clear H
                have H := H1
                clear H1
                obtain rfl := Option.some.inj H
                go_enter Try.func20, Try.ntmps20
                go_wp2_with (first | ((with_reducible refine gate_dst (N := 11) rfl ?_); (try (refine gate_guard (by rfl) ?_; dsimp only)); refine Kd.R_lit k71 _ 71 ?hg (N := 11) ?hd (xs := ([(⟨0, 1⟩ : S71)] : List (S71))) (inner := [.int .i64 0, .int .i64 1]) (ok := fun _ => True) (okp := fun _ => True) ?hr ?hp (fun _ hk => hk) trivial (Below.refl _ _) (Nat.le_refl _) (by simp) ?_; (case hd => rfl); (case hg => rfl); (case hr => first | (go_simp; done) | (go_simp; rfl)); (case hp => exact (Reps.c2 (show Kd.M k71 _ _ _ (⟨0, 1⟩ : S71) [.int .i64 0, .int .i64 1] from (k71_mkM _ _ _ (⟨0, 1⟩ : S71) )) (Reps.none _ _))); intro v193 w15 ho16 hb hg_ hnew_; clear hg_ hnew_; (first | rw [← Ny192.out] at ho16 | (simp only [Int.reduceToNat] at ho16; rw [← Ny192.out] at ho16)); have n0_ := Aside0.mk (Kd.R_lower ho16 (below_size (by repeat (first | (with_reducible first | exact HB.out | apply below_alloc | apply pw_below_drewN | apply below_drew1) | exact HB.out)))); have n1_ := Aside0.mk (below_step (by repeat (first | (with_reducible first | exact HB.out | apply below_alloc | apply pw_below_drewN | apply below_drew1) | exact HB.out)) hb); clear HB; have HO194 := n0_; have HB := n1_; clear n0_ n1_; clear hb ho16; obtain ⟨Ao17, co17, eo17⟩ := Kd.R_slice HO194.out; subst eo17) | ((with_reducible refine gate_callee (f := 18) rfl ?_); refine goesL_ (some 12) rfl rfl Try.func18 (by kernel_rfl) rfl #[.int .i64 2, .int .i64 2, .slice Ao17 y192.length co17] rfl (by (try simp only [List.map_toArray, List.map_cons, List.map_nil]); first | done | rfl | (simp only [List.length_drop, List.length_take]; rfl)) ?_; (with_reducible refine (hat_Find.calls 2 2 _ _ y192 t195 t198 _ ?side1 ?side2 A1.out).mono ?_); (case side1 => repeat (first | exact (Kd.R_reads' HO194.out).2.2 | (with_reducible refine Kd.C_alloc ?_ _) | (with_reducible refine Kd.C_drewN ?_ _) | (with_reducible refine Kd.C_drew ?_))); (case side2 => exact (Kd.R_reads' HO194.out).2.1); rintro e w18 ⟨v196, rfl, ho0, hb⟩; refine ⟨_, rfl, ?_⟩; have n0_ := Aside0.mk (Kd.R_below (by (with_reducible repeat (first | apply Kd.R_alloc | apply Kd.R_drewN | apply Kd.R_drew)); exact HO194.out) hb); have n1_ := Aside0.mk (Kd.V_lower (Kd.V_mono (ok' := fun k_ => some k_ ≠ (.slice Ao17 y192.length co17 : Value).ownBlock) ho0 (fun k_ hk_ => (Kd.fresh' (Kd.R_lt (by (with_reducible repeat (first | apply Kd.R_alloc | apply Kd.R_drewN | apply Kd.R_drew)); exact HO194.out)) k_ hk_))) (below_size (by repeat (first | (with_reducible first | exact HB.out | apply below_alloc | apply pw_below_drewN | apply below_drew1) | exact HB.out)))); have n2_ := Aside0.mk (below_step (by repeat (first | (with_reducible first | exact HB.out | apply below_alloc | apply pw_below_drewN | apply below_drew1) | exact HB.out)) hb); clear HO194; clear HB; have HO194 := n0_; have HO197 := n1_; have HB := n2_; clear n0_ n1_ n2_; (try clear hb); (try clear hb2); (try clear hk); (try clear hi); (try clear ho0)) | ((with_reducible refine gate_dst (N := 16) rfl ?_); (try (refine gate_guard (by rfl) ?_; dsimp only)); refine Kd.R_lit (Kd.int .i64) _ 3 ?hg (N := 16) ?hd (xs := ([0, 1, 0] : List Int)) (inner := [.int .i64 0, .int .i64 1, .int .i64 0]) (ok := fun _ => True) (okp := fun _ => True) ?hr ?hp (fun _ hk => hk) trivial (Below.refl _ _) (Nat.le_refl _) (by simp) ?_; (case hd => rfl); (case hg => rfl); (case hr => first | (go_simp; done) | (go_simp; rfl)); (case hp => exact (Reps.one (show Kd.M (Kd.int .i64) _ _ _ 0 [.int .i64 0] from rfl) (Reps.one (show Kd.M (Kd.int .i64) _ _ _ 1 [.int .i64 1] from rfl) (Reps.one (show Kd.M (Kd.int .i64) _ _ _ 0 [.int .i64 0] from rfl) (Reps.none _ _))))); intro v200 w19 ho20 hb hg_ hnew_; clear hg_ hnew_; (first | rw [← Ny199.out] at ho20 | (simp only [Int.reduceToNat] at ho20; rw [← Ny199.out] at ho20)); have n0_ := Aside0.mk (Kd.R_below (by (with_reducible repeat (first | apply Kd.R_alloc | apply Kd.R_drewN | apply Kd.R_drew)); exact HO194.out) hb); have n1_ := Aside0.mk (Kd.V_elder' (by (with_reducible repeat (first | apply Kd.V_alloc | apply Kd.V_drewN | apply Kd.V_drew)); exact HO197.out) (Kd.R_base ho20) hb); have n2_ := Aside0.mk (Kd.R_lower ho20 (below_size (by repeat (first | (with_reducible first | exact HB.out | apply below_alloc | apply pw_below_drewN | apply below_drew1) | exact HB.out)))); have n3_ := Aside0.mk (below_step (by repeat (first | (with_reducible first | exact HB.out | apply below_alloc | apply pw_below_drewN | apply below_drew1) | exact HB.out)) hb); clear HO194; clear HO197; clear HB; have HO194 := n0_; have HO197 := n1_; have HO201 := n2_; have HB := n3_; clear n0_ n1_ n2_ n3_; clear hb ho20; obtain ⟨Ao21, co21, eo21⟩ := Kd.R_slice HO201.out; subst eo21) | ((with_reducible refine gate_callee (f := 24) rfl ?_); refine goesL_ (some 17) rfl rfl Try.func24 (by kernel_rfl) rfl #[.slice Ao21 y199.length co21] rfl (by (try simp only [List.map_toArray, List.map_cons, List.map_nil]); first | done | rfl | (simp only [List.length_drop, List.length_take]; rfl)) ?_; (with_reducible refine (hat_Ebert.calls k _ _ y199 t202 t203 _ ?side1 ?side2 A2.out).mono ?_); (case side1 => repeat (first | exact (Kd.R_reads' HO201.out).2.2 | (with_reducible refine Kd.C_alloc ?_ _) | (with_reducible refine Kd.C_drewN ?_ _) | (with_reducible refine Kd.C_drew ?_))); (case side2 => exact (Kd.R_reads' HO201.out).2.1); rintro e w22 ⟨v204, rfl, ho0, hb⟩; refine ⟨_, rfl, ?_⟩; have n0_ := Aside0.mk (Kd.R_below (by (with_reducible repeat (first | apply Kd.R_alloc | apply Kd.R_drewN | apply Kd.R_drew)); exact HO194.out) hb); have n1_ := Aside0.mk (Kd.V_elder' (by (with_reducible repeat (first | apply Kd.V_alloc | apply Kd.V_drewN | apply Kd.V_drew)); exact HO197.out) (Kd.R_base ho0) hb); have n2_ := Aside0.mk (Kd.R_elder' (by (with_reducible repeat (first | apply Kd.R_alloc | apply Kd.R_drewN | apply Kd.R_drew)); exact HO201.out) (Kd.R_base ho0) hb); have n3_ := Aside0.mk (Kd.R_lower (Kd.R_new' ho0 (Kd.R_lt (by (with_reducible repeat (first | apply Kd.R_alloc | apply Kd.R_drewN | apply Kd.R_drew)); exact HO201.out))) (below_size (by repeat (first | (with_reducible first | exact HB.out | apply below_alloc | apply pw_below_drewN | apply below_drew1) | exact HB.out)))); have n4_ := Aside0.mk (below_step (by repeat (first | (with_reducible first | exact HB.out | apply below_alloc | apply pw_below_drewN | apply below_drew1) | exact HB.out)) hb); clear HO194; clear HO197; clear HO201; clear HB; have HO194 := n0_; have HO197 := n1_; have HO201 := n2_; have HO205 := n3_; have HB := n4_; clear n0_ n1_ n2_ n3_ n4_; (try clear hb); (try clear hb2); (try clear hk); (try clear hi); (try clear ho0)) | ((with_reducible refine gate_dst (N := 21) rfl ?_); (try (refine gate_guard (by rfl) ?_; dsimp only)); refine Kd.R_lit (Kd.int .i64) _ 3 ?hg (N := 21) ?hd (xs := ([0, 0, 0] : List Int)) (inner := [.int .i64 0, .int .i64 0, .int .i64 0]) (ok := fun _ => True) (okp := fun _ => True) ?hr ?hp (fun _ hk => hk) trivial (Below.refl _ _) (Nat.le_refl _) (by simp) ?_; (case hd => rfl); (case hg => rfl); (case hr => first | (go_simp; done) | (go_simp; rfl)); (case hp => exact (Reps.one (show Kd.M (Kd.int .i64) _ _ _ 0 [.int .i64 0] from rfl) (Reps.one (show Kd.M (Kd.int .i64) _ _ _ 0 [.int .i64 0] from rfl) (Reps.one (show Kd.M (Kd.int .i64) _ _ _ 0 [.int .i64 0] from rfl) (Reps.none _ _))))); intro v207 w23 ho24 hb hg_ hnew_; clear hg_ hnew_; (first | rw [← Ny206.out] at ho24 | (simp only [Int.reduceToNat] at ho24; rw [← Ny206.out] at ho24)); have n0_ := Aside0.mk (Kd.R_below (by (with_reducible repeat (first | apply Kd.R_alloc | apply Kd.R_drewN | apply Kd.R_drew)); exact HO194.out) hb); have n1_ := Aside0.mk (Kd.V_elder' (by (with_reducible repeat (first | apply Kd.V_alloc | apply Kd.V_drewN | apply Kd.V_drew)); exact HO197.out) (Kd.R_base ho24) hb); have n2_ := Aside0.mk (Kd.R_elder' (by (with_reducible repeat (first | apply Kd.R_alloc | apply Kd.R_drewN | apply Kd.R_drew)); exact HO201.out) (Kd.R_base ho24) hb); have n3_ := Aside0.mk (Kd.R_elder' (by (with_reducible repeat (first | apply Kd.R_alloc | apply Kd.R_drewN | apply Kd.R_drew)); exact HO205.out) (Kd.R_base ho24) hb); have n4_ := Aside0.mk (Kd.R_lower (Kd.R_new' (Kd.R_new' ho24 (Kd.R_lt (by (with_reducible repeat (first | apply Kd.R_alloc | apply Kd.R_drewN | apply Kd.R_drew)); exact HO201.out))) (Kd.R_lt (by (with_reducible repeat (first | apply Kd.R_alloc | apply Kd.R_drewN | apply Kd.R_drew)); exact HO205.out))) (below_size (by repeat (first | (with_reducible first | exact HB.out | apply below_alloc | apply pw_below_drewN | apply below_drew1) | exact HB.out)))); have n5_ := Aside0.mk (below_step (by repeat (first | (with_reducible first | exact HB.out | apply below_alloc | apply pw_below_drewN | apply below_drew1) | exact HB.out)) hb); clear HO194; clear HO197; clear HO201; clear HO205; clear HB; have HO194 := n0_; have HO197 := n1_; have HO201 := n2_; have HO205 := n3_; have HO208 := n4_; have HB := n5_; clear n0_ n1_ n2_ n3_ n4_ n5_; clear hb ho24; obtain ⟨Ao25, co25, eo25⟩ := Kd.R_slice HO208.out; subst eo25) | ((with_reducible refine gate_callee (f := 25) rfl ?_); refine goesL_ (some 22) rfl rfl Try.func25 (by kernel_rfl) rfl #[.slice Ao25 y206.length co25] rfl (by (try simp only [List.map_toArray, List.map_cons, List.map_nil]); first | done | rfl | (simp only [List.length_drop, List.length_take]; rfl)) ?_; (with_reducible refine (hat_Wins.calls k _ _ y206 false t210 _ ?side1 ?side2 A3.out).mono ?_); (case side1 => repeat (first | exact (Kd.R_reads' HO208.out).2.2 | (with_reducible refine Kd.C_alloc ?_ _) | (with_reducible refine Kd.C_drewN ?_ _) | (with_reducible refine Kd.C_drew ?_))); (case side2 => exact (Kd.R_reads' HO208.out).2.1); rintro e w26 ⟨rfl, hb⟩; refine ⟨_, rfl, ?_⟩; have n0_ := Aside0.mk (Kd.R_below (by (with_reducible repeat (first | apply Kd.R_alloc | apply Kd.R_drewN | apply Kd.R_drew)); exact HO194.out) hb); have n1_ := Aside0.mk (Kd.V_below (by (with_reducible repeat (first | apply Kd.V_alloc | apply Kd.V_drewN | apply Kd.V_drew)); exact HO197.out) hb); have n2_ := Aside0.mk (Kd.R_below (by (with_reducible repeat (first | apply Kd.R_alloc | apply Kd.R_drewN | apply Kd.R_drew)); exact HO201.out) hb); have n3_ := Aside0.mk (Kd.R_below (by (with_reducible repeat (first | apply Kd.R_alloc | apply Kd.R_drewN | apply Kd.R_drew)); exact HO205.out) hb); have n4_ := Aside0.mk (Kd.R_below (by (with_reducible repeat (first | apply Kd.R_alloc | apply Kd.R_drewN | apply Kd.R_drew)); exact HO208.out) hb); have n5_ := Aside0.mk (below_step (by repeat (first | (with_reducible first | exact HB.out | apply below_alloc | apply pw_below_drewN | apply below_drew1) | exact HB.out)) hb); clear HO194; clear HO197; clear HO201; clear HO205; clear HO208; clear HB; have HO194 := n0_; have HO197 := n1_; have HO201 := n2_; have HO205 := n3_; have HO208 := n4_; have HB := n5_; clear n0_ n1_ n2_ n3_ n4_ n5_; (try clear hb); (try clear hb2); (try clear hk); (try clear hi)) | ((with_reducible refine gate_dst (N := 26) rfl ?_); (try (refine gate_guard (by rfl) ?_; dsimp only)); refine Kd.R_lit (Kd.int .i64) _ 3 ?hg (N := 26) ?hd (xs := ([1, 0, 1] : List Int)) (inner := [.int .i64 1, .int .i64 0, .int .i64 1]) (ok := fun _ => True) (okp := fun _ => True) ?hr ?hp (fun _ hk => hk) trivial (Below.refl _ _) (Nat.le_refl _) (by simp) ?_; (case hd => rfl); (case hg => rfl); (case hr => first | (go_simp; done) | (go_simp; rfl)); (case hp => exact (Reps.one (show Kd.M (Kd.int .i64) _ _ _ 1 [.int .i64 1] from rfl) (Reps.one (show Kd.M (Kd.int .i64) _ _ _ 0 [.int .i64 0] from rfl) (Reps.one (show Kd.M (Kd.int .i64) _ _ _ 1 [.int .i64 1] from rfl) (Reps.none _ _))))); intro v212 w27 ho28 hb hg_ hnew_; clear hg_ hnew_; (first | rw [← Ny211.out] at ho28 | (simp only [Int.reduceToNat] at ho28; rw [← Ny211.out] at ho28)); have n0_ := Aside0.mk (Kd.R_below (by (with_reducible repeat (first | apply Kd.R_alloc | apply Kd.R_drewN | apply Kd.R_drew)); exact HO194.out) hb); have n1_ := Aside0.mk (Kd.V_elder' (by (with_reducible repeat (first | apply Kd.V_alloc | apply Kd.V_drewN | apply Kd.V_drew)); exact HO197.out) (Kd.R_base ho28) hb); have n2_ := Aside0.mk (Kd.R_elder' (by (with_reducible repeat (first | apply Kd.R_alloc | apply Kd.R_drewN | apply Kd.R_drew)); exact HO201.out) (Kd.R_base ho28) hb); have n3_ := Aside0.mk (Kd.R_elder' (by (with_reducible repeat (first | apply Kd.R_alloc | apply Kd.R_drewN | apply Kd.R_drew)); exact HO205.out) (Kd.R_base ho28) hb); have n4_ := Aside0.mk (Kd.R_elder' (by (with_reducible repeat (first | apply Kd.R_alloc | apply Kd.R_drewN | apply Kd.R_drew)); exact HO208.out) (Kd.R_base ho28) hb); have n5_ := Aside0.mk (Kd.R_lower (Kd.R_new' (Kd.R_new' (Kd.R_new' ho28 (Kd.R_lt (by (with_reducible repeat (first | apply Kd.R_alloc | apply Kd.R_drewN | apply Kd.R_drew)); exact HO201.out))) (Kd.R_lt (by (with_reducible repeat (first | apply Kd.R_alloc | apply Kd.R_drewN | apply Kd.R_drew)); exact HO205.out))) (Kd.R_lt (by (with_reducible repeat (first | apply Kd.R_alloc | apply Kd.R_drewN | apply Kd.R_drew)); exact HO208.out))) (below_size (by repeat (first | (with_reducible first | exact HB.out | apply below_alloc | apply pw_below_drewN | apply below_drew1) | exact HB.out)))); have n6_ := Aside0.mk (below_step (by repeat (first | (with_reducible first | exact HB.out | apply below_alloc | apply pw_below_drewN | apply below_drew1) | exact HB.out)) hb); clear HO194; clear HO197; clear HO201; clear HO205; clear HO208; clear HB; have HO194 := n0_; have HO197 := n1_; have HO201 := n2_; have HO205 := n3_; have HO208 := n4_; have HO213 := n5_; have HB := n6_; clear n0_ n1_ n2_ n3_ n4_ n5_ n6_; clear hb ho28; obtain ⟨Ao29, co29, eo29⟩ := Kd.R_slice HO213.out; subst eo29) | ((with_reducible refine gate_callee (f := 30) rfl ?_); refine goesL_ (some 27) rfl rfl Try.func30 (by kernel_rfl) rfl #[.int .i64 2, .slice Ao29 y211.length co29] rfl (by (try simp only [List.map_toArray, List.map_cons, List.map_nil]); first | done | rfl | (simp only [List.length_drop, List.length_take]; rfl)) ?_; (with_reducible refine (hat_Line.calls k 2 _ _ y211 t214 t215 _ ?side1 ?side2 A4.out).mono ?_); (case side1 => repeat (first | exact (Kd.R_reads' HO213.out).2.2 | (with_reducible refine Kd.C_alloc ?_ _) | (with_reducible refine Kd.C_drewN ?_ _) | (with_reducible refine Kd.C_drew ?_))); (case side2 => exact (Kd.R_reads' HO213.out).2.1); rintro e w30 ⟨v216, rfl, ho0, hb⟩; refine ⟨_, rfl, ?_⟩; have n0_ := Aside0.mk (Kd.R_below (by (with_reducible repeat (first | apply Kd.R_alloc | apply Kd.R_drewN | apply Kd.R_drew)); exact HO194.out) hb); have n1_ := Aside0.mk (Kd.V_elder' (by (with_reducible repeat (first | apply Kd.V_alloc | apply Kd.V_drewN | apply Kd.V_drew)); exact HO197.out) (Kd.R_base ho0) hb); have n2_ := Aside0.mk (Kd.R_elder' (by (with_reducible repeat (first | apply Kd.R_alloc | apply Kd.R_drewN | apply Kd.R_drew)); exact HO201.out) (Kd.R_base ho0) hb); have n3_ := Aside0.mk (Kd.R_elder' (by (with_reducible repeat (first | apply Kd.R_alloc | apply Kd.R_drewN | apply Kd.R_drew)); exact HO205.out) (Kd.R_base ho0) hb); have n4_ := Aside0.mk (Kd.R_elder' (by (with_reducible repeat (first | apply Kd.R_alloc | apply Kd.R_drewN | apply Kd.R_drew)); exact HO208.out) (Kd.R_base ho0) hb); have n5_ := Aside0.mk (Kd.R_elder' (by (with_reducible repeat (first | apply Kd.R_alloc | apply Kd.R_drewN | apply Kd.R_drew)); exact HO213.out) (Kd.R_base ho0) hb); have n6_ := Aside0.mk (Kd.R_lower (Kd.R_new' (Kd.R_new' (Kd.R_new' (Kd.R_new' ho0 (Kd.R_lt (by (with_reducible repeat (first | apply Kd.R_alloc | apply Kd.R_drewN | apply Kd.R_drew)); exact HO201.out))) (Kd.R_lt (by (with_reducible repeat (first | apply Kd.R_alloc | apply Kd.R_drewN | apply Kd.R_drew)); exact HO205.out))) (Kd.R_lt (by (with_reducible repeat (first | apply Kd.R_alloc | apply Kd.R_drewN | apply Kd.R_drew)); exact HO208.out))) (Kd.R_lt (by (with_reducible repeat (first | apply Kd.R_alloc | apply Kd.R_drewN | apply Kd.R_drew)); exact HO213.out))) (below_size (by repeat (first | (with_reducible first | exact HB.out | apply below_alloc | apply pw_below_drewN | apply below_drew1) | exact HB.out)))); have n7_ := Aside0.mk (below_step (by repeat (first | (with_reducible first | exact HB.out | apply below_alloc | apply pw_below_drewN | apply below_drew1) | exact HB.out)) hb); clear HO194; clear HO197; clear HO201; clear HO205; clear HO208; clear HO213; clear HB; have HO194 := n0_; have HO197 := n1_; have HO201 := n2_; have HO205 := n3_; have HO208 := n4_; have HO213 := n5_; have HO217 := n6_; have HB := n7_; clear n0_ n1_ n2_ n3_ n4_ n5_ n6_ n7_; (try clear hb); (try clear hb2); (try clear hk); (try clear hi); (try clear ho0)) | ((with_reducible refine gate_dst (N := 31) rfl ?_); (try (refine gate_guard (by rfl) ?_; dsimp only)); refine Kd.R_lit (Kd.int .i64) _ 3 ?hg (N := 31) ?hd (xs := ([0, 1] : List Int)) (inner := [.int .i64 0, .int .i64 1]) (ok := fun _ => True) (okp := fun _ => True) ?hr ?hp (fun _ hk => hk) trivial (Below.refl _ _) (Nat.le_refl _) (by simp) ?_; (case hd => rfl); (case hg => rfl); (case hr => first | (go_simp; done) | (go_simp; rfl)); (case hp => exact (Reps.one (show Kd.M (Kd.int .i64) _ _ _ 0 [.int .i64 0] from rfl) (Reps.one (show Kd.M (Kd.int .i64) _ _ _ 1 [.int .i64 1] from rfl) (Reps.none _ _)))); intro v219 w31 ho32 hb hg_ hnew_; clear hg_ hnew_; (first | rw [← Ny218.out] at ho32 | (simp only [Int.reduceToNat] at ho32; rw [← Ny218.out] at ho32)); have n0_ := Aside0.mk (Kd.R_below (by (with_reducible repeat (first | apply Kd.R_alloc | apply Kd.R_drewN | apply Kd.R_drew)); exact HO194.out) hb); have n1_ := Aside0.mk (Kd.V_elder' (by (with_reducible repeat (first | apply Kd.V_alloc | apply Kd.V_drewN | apply Kd.V_drew)); exact HO197.out) (Kd.R_base ho32) hb); have n2_ := Aside0.mk (Kd.R_elder' (by (with_reducible repeat (first | apply Kd.R_alloc | apply Kd.R_drewN | apply Kd.R_drew)); exact HO201.out) (Kd.R_base ho32) hb); have n3_ := Aside0.mk (Kd.R_elder' (by (with_reducible repeat (first | apply Kd.R_alloc | apply Kd.R_drewN | apply Kd.R_drew)); exact HO205.out) (Kd.R_base ho32) hb); have n4_ := Aside0.mk (Kd.R_elder' (by (with_reducible repeat (first | apply Kd.R_alloc | apply Kd.R_drewN | apply Kd.R_drew)); exact HO208.out) (Kd.R_base ho32) hb); have n5_ := Aside0.mk (Kd.R_elder' (by (with_reducible repeat (first | apply Kd.R_alloc | apply Kd.R_drewN | apply Kd.R_drew)); exact HO213.out) (Kd.R_base ho32) hb); have n6_ := Aside0.mk (Kd.R_elder' (by (with_reducible repeat (first | apply Kd.R_alloc | apply Kd.R_drewN | apply Kd.R_drew)); exact HO217.out) (Kd.R_base ho32) hb); have n7_ := Aside0.mk (Kd.R_lower (Kd.R_new' (Kd.R_new' (Kd.R_new' (Kd.R_new' (Kd.R_new' ho32 (Kd.R_lt (by (with_reducible repeat (first | apply Kd.R_alloc | apply Kd.R_drewN | apply Kd.R_drew)); exact HO201.out))) (Kd.R_lt (by (with_reducible repeat (first | apply Kd.R_alloc | apply Kd.R_drewN | apply Kd.R_drew)); exact HO205.out))) (Kd.R_lt (by (with_reducible repeat (first | apply Kd.R_alloc | apply Kd.R_drewN | apply Kd.R_drew)); exact HO208.out))) (Kd.R_lt (by (with_reducible repeat (first | apply Kd.R_alloc | apply Kd.R_drewN | apply Kd.R_drew)); exact HO213.out))) (Kd.R_lt (by (with_reducible repeat (first | apply Kd.R_alloc | apply Kd.R_drewN | apply Kd.R_drew)); exact HO217.out))) (below_size (by repeat (first | (with_reducible first | exact HB.out | apply below_alloc | apply pw_below_drewN | apply below_drew1) | exact HB.out)))); have n8_ := Aside0.mk (below_step (by repeat (first | (with_reducible first | exact HB.out | apply below_alloc | apply pw_below_drewN | apply below_drew1) | exact HB.out)) hb); clear HO194; clear HO197; clear HO201; clear HO205; clear HO208; clear HO213; clear HO217; clear HB; have HO194 := n0_; have HO197 := n1_; have HO201 := n2_; have HO205 := n3_; have HO208 := n4_; have HO213 := n5_; have HO217 := n6_; have HO220 := n7_; have HB := n8_; clear n0_ n1_ n2_ n3_ n4_ n5_ n6_ n7_ n8_; clear hb ho32) | ((with_reducible refine gate_dst (N := 32) rfl ?_); (try (refine gate_guard (by rfl) ?_; dsimp only)); refine Kd.R_lit (Kd.int .i64) _ 3 ?hg (N := 32) ?hd (xs := ([1, 0] : List Int)) (inner := [.int .i64 1, .int .i64 0]) (ok := fun _ => True) (okp := fun _ => True) ?hr ?hp (fun _ hk => hk) trivial (Below.refl _ _) (Nat.le_refl _) (by simp) ?_; (case hd => rfl); (case hg => rfl); (case hr => first | (go_simp; done) | (go_simp; rfl)); (case hp => exact (Reps.one (show Kd.M (Kd.int .i64) _ _ _ 1 [.int .i64 1] from rfl) (Reps.one (show Kd.M (Kd.int .i64) _ _ _ 0 [.int .i64 0] from rfl) (Reps.none _ _)))); intro v222 w33 ho34 hb hg_ hnew_; clear hg_ hnew_; (first | rw [← Ny221.out] at ho34 | (simp only [Int.reduceToNat] at ho34; rw [← Ny221.out] at ho34)); have n0_ := Aside0.mk (Kd.R_below (by (with_reducible repeat (first | apply Kd.R_alloc | apply Kd.R_drewN | apply Kd.R_drew)); exact HO194.out) hb); have n1_ := Aside0.mk (Kd.V_elder' (by (with_reducible repeat (first | apply Kd.V_alloc | apply Kd.V_drewN | apply Kd.V_drew)); exact HO197.out) (Kd.R_base ho34) hb); have n2_ := Aside0.mk (Kd.R_elder' (by (with_reducible repeat (first | apply Kd.R_alloc | apply Kd.R_drewN | apply Kd.R_drew)); exact HO201.out) (Kd.R_base ho34) hb); have n3_ := Aside0.mk (Kd.R_elder' (by (with_reducible repeat (first | apply Kd.R_alloc | apply Kd.R_drewN | apply Kd.R_drew)); exact HO205.out) (Kd.R_base ho34) hb); have n4_ := Aside0.mk (Kd.R_elder' (by (with_reducible repeat (first | apply Kd.R_alloc | apply Kd.R_drewN | apply Kd.R_drew)); exact HO208.out) (Kd.R_base ho34) hb); have n5_ := Aside0.mk (Kd.R_elder' (by (with_reducible repeat (first | apply Kd.R_alloc | apply Kd.R_drewN | apply Kd.R_drew)); exact HO213.out) (Kd.R_base ho34) hb); have n6_ := Aside0.mk (Kd.R_elder' (by (with_reducible repeat (first | apply Kd.R_alloc | apply Kd.R_drewN | apply Kd.R_drew)); exact HO217.out) (Kd.R_base ho34) hb); have n7_ := Aside0.mk (Kd.R_elder' (by (with_reducible repeat (first | apply Kd.R_alloc | apply Kd.R_drewN | apply Kd.R_drew)); exact HO220.out) (Kd.R_base ho34) hb); have n8_ := Aside0.mk (Kd.R_lower (Kd.R_new' (Kd.R_new' (Kd.R_new' (Kd.R_new' (Kd.R_new' (Kd.R_new' ho34 (Kd.R_lt (by (with_reducible repeat (first | apply Kd.R_alloc | apply Kd.R_drewN | apply Kd.R_drew)); exact HO201.out))) (Kd.R_lt (by (with_reducible repeat (first | apply Kd.R_alloc | apply Kd.R_drewN | apply Kd.R_drew)); exact HO205.out))) (Kd.R_lt (by (with_reducible repeat (first | apply Kd.R_alloc | apply Kd.R_drewN | apply Kd.R_drew)); exact HO208.out))) (Kd.R_lt (by (with_reducible repeat (first | apply Kd.R_alloc | apply Kd.R_drewN | apply Kd.R_drew)); exact HO213.out))) (Kd.R_lt (by (with_reducible repeat (first | apply Kd.R_alloc | apply Kd.R_drewN | apply Kd.R_drew)); exact HO217.out))) (Kd.R_lt (by (with_reducible repeat (first | apply Kd.R_alloc | apply Kd.R_drewN | apply Kd.R_drew)); exact HO220.out))) (below_size (by repeat (first | (with_reducible first | exact HB.out | apply below_alloc | apply pw_below_drewN | apply below_drew1) | exact HB.out)))); have n9_ := Aside0.mk (below_step (by repeat (first | (with_reducible first | exact HB.out | apply below_alloc | apply pw_below_drewN | apply below_drew1) | exact HB.out)) hb); clear HO194; clear HO197; clear HO201; clear HO205; clear HO208; clear HO213; clear HO217; clear HO220; clear HB; have HO194 := n0_; have HO197 := n1_; have HO201 := n2_; have HO205 := n3_; have HO208 := n4_; have HO213 := n5_; have HO217 := n6_; have HO220 := n7_; have HO223 := n8_; have HB := n9_; clear n0_ n1_ n2_ n3_ n4_ n5_ n6_ n7_ n8_ n9_; clear hb ho34; obtain ⟨Ao35, co35, eo35⟩ := Kd.R_slice HO220.out; subst eo35; obtain ⟨Ao36, co36, eo36⟩ := Kd.R_slice HO223.out; subst eo36) | ((with_reducible refine gate_dst (N := 33) rfl ?_); (try (refine gate_guard (by rfl) ?_; dsimp only)); refine Kd.N_lit (Kd.slice 3 (Kd.int .i64)) _ 37 ?hg (N' := 33) ?hd (xs := ([y218, y221] : List (List Int))) (inner := [.slice Ao35 y218.length co35, .slice Ao36 y221.length co36]) (ok := (fun k_ => some k_ ≠ (.slice Ao17 y192.length co17 : Value).ownBlock ∧ some k_ ≠ (.slice Ao21 y199.length co21 : Value).ownBlock ∧ some k_ ≠ (v204 : Value).ownBlock ∧ some k_ ≠ (.slice Ao25 y206.length co25 : Value).ownBlock ∧ some k_ ≠ (.slice Ao29 y211.length co29 : Value).ownBlock ∧ some k_ ≠ (v216 : Value).ownBlock)) (okp := (fun k_ => some k_ ≠ (.slice Ao17 y192.length co17 : Value).ownBlock ∧ some k_ ≠ (.slice Ao21 y199.length co21 : Value).ownBlock ∧ some k_ ≠ (v204 : Value).ownBlock ∧ some k_ ≠ (.slice Ao25 y206.length co25 : Value).ownBlock ∧ some k_ ≠ (.slice Ao29 y211.length co29 : Value).ownBlock ∧ some k_ ≠ (v216 : Value).ownBlock)) ?hr ?hp (fun _ hk => hk) ((show ∀ k_, w33.heap.size ≤ k_ → (fun k_ => some k_ ≠ (.slice Ao17 y192.length co17 : Value).ownBlock ∧ some k_ ≠ (.slice Ao21 y199.length co21 : Value).ownBlock ∧ some k_ ≠ (v204 : Value).ownBlock ∧ some k_ ≠ (.slice Ao25 y206.length co25 : Value).ownBlock ∧ some k_ ≠ (.slice Ao29 y211.length co29 : Value).ownBlock ∧ some k_ ≠ (v216 : Value).ownBlock) k_ from fun k_ hk => ⟨Kd.fresh' (Kd.R_lt (by (with_reducible repeat (first | apply Kd.R_alloc | apply Kd.R_drewN | apply Kd.R_drew)); exact HO194.out)) k_ hk, Kd.fresh' (Kd.R_lt (by (with_reducible repeat (first | apply Kd.R_alloc | apply Kd.R_drewN | apply Kd.R_drew)); exact HO201.out)) k_ hk, Kd.fresh' (Kd.R_lt (by (with_reducible repeat (first | apply Kd.R_alloc | apply Kd.R_drewN | apply Kd.R_drew)); exact HO205.out)) k_ hk, Kd.fresh' (Kd.R_lt (by (with_reducible repeat (first | apply Kd.R_alloc | apply Kd.R_drewN | apply Kd.R_drew)); exact HO208.out)) k_ hk, Kd.fresh' (Kd.R_lt (by (with_reducible repeat (first | apply Kd.R_alloc | apply Kd.R_drewN | apply Kd.R_drew)); exact HO213.out)) k_ hk, Kd.fresh' (Kd.R_lt (by (with_reducible repeat (first | apply Kd.R_alloc | apply Kd.R_drewN | apply Kd.R_drew)); exact HO217.out)) k_ hk⟩) _ (Nat.le_refl _)) (Below.refl _ _) (Nat.le_refl _) (by simp) ?_; (case hd => rfl); (case hg => rfl); (case hr => first | (go_simp; done) | (go_simp; rfl)); (case hp => exact (Reps.one (show Kd.FK (Kd.slice 3 (Kd.int .i64)) _ _ y218 [.slice Ao35 y218.length co35] from (Kd.FK_slice_mk (Kd.R_reads' (Kd.R_mono (ok' := (fun k_ => some k_ ≠ (.slice Ao17 y192.length co17 : Value).ownBlock ∧ some k_ ≠ (.slice Ao21 y199.length co21 : Value).ownBlock ∧ some k_ ≠ (v204 : Value).ownBlock ∧ some k_ ≠ (.slice Ao25 y206.length co25 : Value).ownBlock ∧ some k_ ≠ (.slice Ao29 y211.length co29 : Value).ownBlock ∧ some k_ ≠ (v216 : Value).ownBlock)) (Kd.R_apart' (HO220.out) (Kd.R_typed HO194.out) (by decide)) (fun k_ hk => ⟨hk.2, ⟨hk.1.1.1.1.1.1.2, ⟨hk.1.1.1.1.1.2, ⟨hk.1.1.1.1.2, ⟨hk.1.1.1.2, hk.1.1.2⟩⟩⟩⟩⟩))).2.1 (Kd.R_F (Kd.R_mono (ok' := (fun k_ => some k_ ≠ (.slice Ao17 y192.length co17 : Value).ownBlock ∧ some k_ ≠ (.slice Ao21 y199.length co21 : Value).ownBlock ∧ some k_ ≠ (v204 : Value).ownBlock ∧ some k_ ≠ (.slice Ao25 y206.length co25 : Value).ownBlock ∧ some k_ ≠ (.slice Ao29 y211.length co29 : Value).ownBlock ∧ some k_ ≠ (v216 : Value).ownBlock)) (Kd.R_apart' (HO220.out) (Kd.R_typed HO194.out) (by decide)) (fun k_ hk => ⟨hk.2, ⟨hk.1.1.1.1.1.1.2, ⟨hk.1.1.1.1.1.2, ⟨hk.1.1.1.1.2, ⟨hk.1.1.1.2, hk.1.1.2⟩⟩⟩⟩⟩))))) (Reps.one (show Kd.FK (Kd.slice 3 (Kd.int .i64)) _ _ y221 [.slice Ao36 y221.length co36] from (Kd.FK_slice_mk (Kd.R_reads' (Kd.R_mono (ok' := (fun k_ => some k_ ≠ (.slice Ao17 y192.length co17 : Value).ownBlock ∧ some k_ ≠ (.slice Ao21 y199.length co21 : Value).ownBlock ∧ some k_ ≠ (v204 : Value).ownBlock ∧ some k_ ≠ (.slice Ao25 y206.length co25 : Value).ownBlock ∧ some k_ ≠ (.slice Ao29 y211.length co29 : Value).ownBlock ∧ some k_ ≠ (v216 : Value).ownBlock)) (Kd.R_apart' (HO223.out) (Kd.R_typed HO194.out) (by decide)) (fun k_ hk => ⟨hk.2, ⟨hk.1.1.1.1.1.1.2, ⟨hk.1.1.1.1.1.2, ⟨hk.1.1.1.1.2, ⟨hk.1.1.1.2, hk.1.1.2⟩⟩⟩⟩⟩))).2.1 (Kd.R_F (Kd.R_mono (ok' := (fun k_ => some k_ ≠ (.slice Ao17 y192.length co17 : Value).ownBlock ∧ some k_ ≠ (.slice Ao21 y199.length co21 : Value).ownBlock ∧ some k_ ≠ (v204 : Value).ownBlock ∧ some k_ ≠ (.slice Ao25 y206.length co25 : Value).ownBlock ∧ some k_ ≠ (.slice Ao29 y211.length co29 : Value).ownBlock ∧ some k_ ≠ (v216 : Value).ownBlock)) (Kd.R_apart' (HO223.out) (Kd.R_typed HO194.out) (by decide)) (fun k_ hk => ⟨hk.2, ⟨hk.1.1.1.1.1.1.2, ⟨hk.1.1.1.1.1.2, ⟨hk.1.1.1.1.2, ⟨hk.1.1.1.2, hk.1.1.2⟩⟩⟩⟩⟩))))) (Reps.none _ _)))); intro v225 w37 ho38 hb hg_ hnew_; clear hg_ hnew_; (first | rw [← Ny224.out] at ho38 | (simp only [Int.reduceToNat] at ho38; rw [← Ny224.out] at ho38)); have n0_ := Aside0.mk (Kd.R_below (by (with_reducible repeat (first | apply Kd.R_alloc | apply Kd.R_drewN | apply Kd.R_drew)); exact HO194.out) hb); have n1_ := Aside0.mk (Kd.V_elder' (by (with_reducible repeat (first | apply Kd.V_alloc | apply Kd.V_drewN | apply Kd.V_drew)); exact HO197.out) (Kd.N_base ho38) hb); have n2_ := Aside0.mk (Kd.R_below (by (with_reducible repeat (first | apply Kd.R_alloc | apply Kd.R_drewN | apply Kd.R_drew)); exact HO201.out) hb); have n3_ := Aside0.mk (Kd.R_below (by (with_reducible repeat (first | apply Kd.R_alloc | apply Kd.R_drewN | apply Kd.R_drew)); exact HO205.out) hb); have n4_ := Aside0.mk (Kd.R_below (by (with_reducible repeat (first | apply Kd.R_alloc | apply Kd.R_drewN | apply Kd.R_drew)); exact HO208.out) hb); have n5_ := Aside0.mk (Kd.R_below (by (with_reducible repeat (first | apply Kd.R_alloc | apply Kd.R_drewN | apply Kd.R_drew)); exact HO213.out) hb); have n6_ := Aside0.mk (Kd.R_below (by (with_reducible repeat (first | apply Kd.R_alloc | apply Kd.R_drewN | apply Kd.R_drew)); exact HO217.out) hb); have n7_ := Aside0.mk (Kd.N_lower ho38 (below_size (by repeat (first | (with_reducible first | exact HB.out | apply below_alloc | apply pw_below_drewN | apply below_drew1) | exact HB.out)))); have n8_ := Aside0.mk (below_step (by repeat (first | (with_reducible first | exact HB.out | apply below_alloc | apply pw_below_drewN | apply below_drew1) | exact HB.out)) hb); clear HO194; clear HO197; clear HO201; clear HO205; clear HO208; clear HO213; clear HO217; clear HB; clear HO220; clear HO223; have HO194 := n0_; have HO197 := n1_; have HO201 := n2_; have HO205 := n3_; have HO208 := n4_; have HO213 := n5_; have HO217 := n6_; have HO226 := n7_; have HB := n8_; clear n0_ n1_ n2_ n3_ n4_ n5_ n6_ n7_ n8_; clear hb ho38; obtain ⟨Ao39, co39, eo39⟩ := Kd.V_slice HO197.out; subst eo39; obtain ⟨Ao40, co40, eo40⟩ := Kd.N_slice HO226.out; subst eo40) | ((with_reducible refine gate_callee (f := 23) rfl ?_); refine goesL_ (some 34) rfl rfl Try.func23 (by kernel_rfl) rfl #[.slice Ao39 t195.length co39, .slice Ao40 y224.length co40] rfl (by (try simp only [List.map_toArray, List.map_cons, List.map_nil]); first | done | rfl | (simp only [List.length_drop, List.length_take]; rfl)) ?_; (with_reducible refine (woggleref01_SameLists.calls k _ _ t195 _ _ y224 true _ ?side1 ?side2 ?side3 ?side4 A5.out).mono ?_); (case side1 => repeat (first | exact (Kd.V_reads' HO197.out).2.2 | (with_reducible refine Kd.C_alloc ?_ _) | (with_reducible refine Kd.C_drewN ?_ _) | (with_reducible refine Kd.C_drew ?_))); (case side2 => exact (Kd.V_reads' HO197.out).2.1); (case side3 => repeat (first | exact (Kd.N_reads' HO226.out).2.2 | (with_reducible refine Kd.C_alloc ?_ _) | (with_reducible refine Kd.C_drewN ?_ _) | (with_reducible refine Kd.C_drew ?_))); (case side4 => exact (Kd.N_reads' HO226.out).2.1); rintro e w' ⟨rfl, ⟨nd, rfl⟩⟩; refine ⟨_, rfl, ?_⟩) | ((with_reducible refine gate_dst (N := 41) rfl ?_); (try (refine gate_guard (by rfl) ?_; dsimp only)); refine Kd.R_lit (Kd.int .i64) _ 3 ?hg (N := 41) ?hd (xs := ([(-1), 1, (-1)] : List Int)) (inner := [.int .i64 (-1), .int .i64 1, .int .i64 (-1)]) (ok := fun _ => True) (okp := fun _ => True) ?hr ?hp (fun _ hk => hk) trivial (Below.refl _ _) (Nat.le_refl _) (by simp) ?_; (case hd => rfl); (case hg => rfl); (case hr => first | (go_simp; done) | (go_simp; rfl)); (case hp => exact (Reps.one (show Kd.M (Kd.int .i64) _ _ _ (-1) [.int .i64 (-1)] from rfl) (Reps.one (show Kd.M (Kd.int .i64) _ _ _ 1 [.int .i64 1] from rfl) (Reps.one (show Kd.M (Kd.int .i64) _ _ _ (-1) [.int .i64 (-1)] from rfl) (Reps.none _ _))))); intro v229 w41 ho42 hb hg_ hnew_; clear hg_ hnew_; (first | rw [← Ny228.out] at ho42 | (simp only [Int.reduceToNat] at ho42; rw [← Ny228.out] at ho42)); have n0_ := Aside0.mk (Kd.R_below (by (with_reducible repeat (first | apply Kd.R_alloc | apply Kd.R_drewN | apply Kd.R_drew)); exact HO194.out) hb); have n1_ := Aside0.mk (Kd.V_elder' (by (with_reducible repeat (first | apply Kd.V_alloc | apply Kd.V_drewN | apply Kd.V_drew)); exact HO197.out) (Kd.R_base ho42) hb); have n2_ := Aside0.mk (Kd.R_elder' (by (with_reducible repeat (first | apply Kd.R_alloc | apply Kd.R_drewN | apply Kd.R_drew)); exact HO201.out) (Kd.R_base ho42) hb); have n3_ := Aside0.mk (Kd.R_elder' (by (with_reducible repeat (first | apply Kd.R_alloc | apply Kd.R_drewN | apply Kd.R_drew)); exact HO205.out) (Kd.R_base ho42) hb); have n4_ := Aside0.mk (Kd.R_elder' (by (with_reducible repeat (first | apply Kd.R_alloc | apply Kd.R_drewN | apply Kd.R_drew)); exact HO208.out) (Kd.R_base ho42) hb); have n5_ := Aside0.mk (Kd.R_elder' (by (with_reducible repeat (first | apply Kd.R_alloc | apply Kd.R_drewN | apply Kd.R_drew)); exact HO213.out) (Kd.R_base ho42) hb); have n6_ := Aside0.mk (Kd.R_elder' (by (with_reducible repeat (first | apply Kd.R_alloc | apply Kd.R_drewN | apply Kd.R_drew)); exact HO217.out) (Kd.R_base ho42) hb); have n7_ := Aside0.mk (Kd.N_elder' (by (with_reducible repeat (first | apply Kd.N_alloc | apply Kd.N_drewN | apply Kd.N_drew)); exact HO226.out) (Kd.R_base ho42) hb); have n8_ := Aside0.mk (Kd.R_lower (Kd.R_new' (Kd.R_new' (Kd.R_new' (Kd.R_new' (Kd.R_new' ho42 (Kd.R_lt (by (with_reducible repeat (first | apply Kd.R_alloc | apply Kd.R_drewN | apply Kd.R_drew)); exact HO201.out))) (Kd.R_lt (by (with_reducible repeat (first | apply Kd.R_alloc | apply Kd.R_drewN | apply Kd.R_drew)); exact HO205.out))) (Kd.R_lt (by (with_reducible repeat (first | apply Kd.R_alloc | apply Kd.R_drewN | apply Kd.R_drew)); exact HO208.out))) (Kd.R_lt (by (with_reducible repeat (first | apply Kd.R_alloc | apply Kd.R_drewN | apply Kd.R_drew)); exact HO213.out))) (Kd.R_lt (by (with_reducible repeat (first | apply Kd.R_alloc | apply Kd.R_drewN | apply Kd.R_drew)); exact HO217.out))) (below_size (by repeat (first | (with_reducible first | exact HB.out | apply below_alloc | apply pw_below_drewN | apply below_drew1) | exact HB.out)))); have n9_ := Aside0.mk (below_step (by repeat (first | (with_reducible first | exact HB.out | apply below_alloc | apply pw_below_drewN | apply below_drew1) | exact HB.out)) hb); clear HO194; clear HO197; clear HO201; clear HO205; clear HO208; clear HO213; clear HO217; clear HO226; clear HB; have HO194 := n0_; have HO197 := n1_; have HO201 := n2_; have HO205 := n3_; have HO208 := n4_; have HO213 := n5_; have HO217 := n6_; have HO226 := n7_; have HO230 := n8_; have HB := n9_; clear n0_ n1_ n2_ n3_ n4_ n5_ n6_ n7_ n8_ n9_; clear hb ho42; obtain ⟨Ao43, co43, eo43⟩ := Kd.R_slice HO205.out; subst eo43; obtain ⟨Ao44, co44, eo44⟩ := Kd.R_slice HO230.out; subst eo44) | (go_at_call 28; (with_reducible refine (woggleref01_Same.calls k _ _ t202 _ _ y228 true _ ?side1 ?side2 ?side3 ?side4 A8.out).mono ?_); (case side1 => repeat (first | exact (Kd.R_reads' HO205.out).2.2 | (with_reducible refine Kd.C_alloc ?_ _) | (with_reducible refine Kd.C_drewN ?_ _) | (with_reducible refine Kd.C_drew ?_))); (case side2 => exact (Kd.R_reads' HO205.out).2.1); (case side3 => repeat (first | exact (Kd.R_reads' HO230.out).2.2 | (with_reducible refine Kd.C_alloc ?_ _) | (with_reducible refine Kd.C_drewN ?_ _) | (with_reducible refine Kd.C_drew ?_))); (case side4 => exact (Kd.R_reads' HO230.out).2.1); rintro e w' ⟨rfl, ⟨nd, rfl⟩⟩) | ((with_reducible refine gate_dst (N := 58) rfl ?_); (try (refine gate_guard (by rfl) ?_; dsimp only)); refine Kd.R_lit (Kd.int .i64) _ 3 ?hg (N := 58) ?hd (xs := ([1, 0, 1] : List Int)) (inner := [.int .i64 1, .int .i64 0, .int .i64 1]) (ok := fun _ => True) (okp := fun _ => True) ?hr ?hp (fun _ hk => hk) trivial (Below.refl _ _) (Nat.le_refl _) (by simp) ?_; (case hd => rfl); (case hg => rfl); (case hr => first | (go_simp; done) | (go_simp; rfl)); (case hp => exact (Reps.one (show Kd.M (Kd.int .i64) _ _ _ 1 [.int .i64 1] from rfl) (Reps.one (show Kd.M (Kd.int .i64) _ _ _ 0 [.int .i64 0] from rfl) (Reps.one (show Kd.M (Kd.int .i64) _ _ _ 1 [.int .i64 1] from rfl) (Reps.none _ _))))); intro v233 w45 ho46 hb hg_ hnew_; clear hg_ hnew_; (first | rw [← Ny232.out] at ho46 | (simp only [Int.reduceToNat] at ho46; rw [← Ny232.out] at ho46)); have n0_ := Aside0.mk (Kd.R_below (by (with_reducible repeat (first | apply Kd.R_alloc | apply Kd.R_drewN | apply Kd.R_drew)); exact HO194.out) hb); have n1_ := Aside0.mk (Kd.V_elder' (by (with_reducible repeat (first | apply Kd.V_alloc | apply Kd.V_drewN | apply Kd.V_drew)); exact HO197.out) (Kd.R_base ho46) hb); have n2_ := Aside0.mk (Kd.R_elder' (by (with_reducible repeat (first | apply Kd.R_alloc | apply Kd.R_drewN | apply Kd.R_drew)); exact HO201.out) (Kd.R_base ho46) hb); have n3_ := Aside0.mk (Kd.R_elder' (by (with_reducible repeat (first | apply Kd.R_alloc | apply Kd.R_drewN | apply Kd.R_drew)); exact HO205.out) (Kd.R_base ho46) hb); have n4_ := Aside0.mk (Kd.R_elder' (by (with_reducible repeat (first | apply Kd.R_alloc | apply Kd.R_drewN | apply Kd.R_drew)); exact HO208.out) (Kd.R_base ho46) hb); have n5_ := Aside0.mk (Kd.R_elder' (by (with_reducible repeat (first | apply Kd.R_alloc | apply Kd.R_drewN | apply Kd.R_drew)); exact HO213.out) (Kd.R_base ho46) hb); have n6_ := Aside0.mk (Kd.R_elder' (by (with_reducible repeat (first | apply Kd.R_alloc | apply Kd.R_drewN | apply Kd.R_drew)); exact HO217.out) (Kd.R_base ho46) hb); have n7_ := Aside0.mk (Kd.N_elder' (by (with_reducible repeat (first | apply Kd.N_alloc | apply Kd.N_drewN | apply Kd.N_drew)); exact HO226.out) (Kd.R_base ho46) hb); have n8_ := Aside0.mk (Kd.R_elder' (by (with_reducible repeat (first | apply Kd.R_alloc | apply Kd.R_drewN | apply Kd.R_drew)); exact HO230.out) (Kd.R_base ho46) hb); have n9_ := Aside0.mk (Kd.R_lower (Kd.R_new' (Kd.R_new' (Kd.R_new' (Kd.R_new' (Kd.R_new' (Kd.R_new' ho46 (Kd.R_lt (by (with_reducible repeat (first | apply Kd.R_alloc | apply Kd.R_drewN | apply Kd.R_drew)); exact HO201.out))) (Kd.R_lt (by (with_reducible repeat (first | apply Kd.R_alloc | apply Kd.R_drewN | apply Kd.R_drew)); exact HO205.out))) (Kd.R_lt (by (with_reducible repeat (first | apply Kd.R_alloc | apply Kd.R_drewN | apply Kd.R_drew)); exact HO208.out))) (Kd.R_lt (by (with_reducible repeat (first | apply Kd.R_alloc | apply Kd.R_drewN | apply Kd.R_drew)); exact HO213.out))) (Kd.R_lt (by (with_reducible repeat (first | apply Kd.R_alloc | apply Kd.R_drewN | apply Kd.R_drew)); exact HO217.out))) (Kd.R_lt (by (with_reducible repeat (first | apply Kd.R_alloc | apply Kd.R_drewN | apply Kd.R_drew)); exact HO230.out))) (below_size (by repeat (first | (with_reducible first | exact HB.out | apply below_alloc | apply pw_below_drewN | apply below_drew1) | exact HB.out)))); have n10_ := Aside0.mk (below_step (by repeat (first | (with_reducible first | exact HB.out | apply below_alloc | apply pw_below_drewN | apply below_drew1) | exact HB.out)) hb); clear HO194; clear HO197; clear HO201; clear HO205; clear HO208; clear HO213; clear HO217; clear HO226; clear HO230; clear HB; have HO194 := n0_; have HO197 := n1_; have HO201 := n2_; have HO205 := n3_; have HO208 := n4_; have HO213 := n5_; have HO217 := n6_; have HO226 := n7_; have HO230 := n8_; have HO234 := n9_; have HB := n10_; clear n0_ n1_ n2_ n3_ n4_ n5_ n6_ n7_ n8_ n9_ n10_; clear hb ho46; obtain ⟨Ao47, co47, eo47⟩ := Kd.R_slice HO217.out; subst eo47; obtain ⟨Ao48, co48, eo48⟩ := Kd.R_slice HO234.out; subst eo48) | (go_at_call 28; (with_reducible refine (woggleref01_Same.calls k _ _ t214 _ _ y232 true _ ?side1 ?side2 ?side3 ?side4 A13.out).mono ?_); (case side1 => repeat (first | exact (Kd.R_reads' HO217.out).2.2 | (with_reducible refine Kd.C_alloc ?_ _) | (with_reducible refine Kd.C_drewN ?_ _) | (with_reducible refine Kd.C_drew ?_))); (case side2 => exact (Kd.R_reads' HO217.out).2.1); (case side3 => repeat (first | exact (Kd.R_reads' HO234.out).2.2 | (with_reducible refine Kd.C_alloc ?_ _) | (with_reducible refine Kd.C_drewN ?_ _) | (with_reducible refine Kd.C_drew ?_))); (case side4 => exact (Kd.R_reads' HO234.out).2.1); rintro e w' ⟨rfl, ⟨nd, rfl⟩⟩))
                go_ret
                exact ⟨by first | rfl | (simp [errW_none, errW_some] <;> rfl) | (simp [*, errW_none, errW_some] <;> rfl), by repeat (first | (with_reducible first | exact HB.out | apply below_alloc | apply pw_below_drewN | apply below_drew1) | exact HB.out)⟩
              · replace c14 := Bool.eq_false_iff.mpr c14
                subst c14
                have H1 : (some false) = some r := by rw [if_neg (show ¬ (false = true) by decide)] at H; exact H
                clear H
                have H := H1
                clear H1
                exact absurd (H.trans (congrArg some hr_)) (by decide)
            · rw [if_neg c12] at H
              have c12b0 : (t210 == 0) = false := beq_eq_false_iff_ne.mpr c12
              have c12b1 : (t210 != 0) = true := bne_iff_ne.mpr c12
              exact absurd (H.trans (congrArg some hr_)) (by decide)
        · rw [if_neg c10] at H
          have c10b0 : (t203 == 0) = false := beq_eq_false_iff_ne.mpr c10
          have c10b1 : (t203 != 0) = true := bne_iff_ne.mpr c10
          exact absurd (H.trans (congrArg some hr_)) (by decide)
      · replace c9 := Bool.eq_false_iff.mpr c9
        subst c9
        have H1 : (some false) = some r := by rw [if_neg (show ¬ (false = true) by decide)] at H; exact H
        clear H
        have H := H1
        clear H1
        exact absurd (H.trans (congrArg some hr_)) (by decide)
    · rw [if_neg c7] at H
      have c7b0 : (t198 == 0) = false := beq_eq_false_iff_ne.mpr c7
      have c7b1 : (t198 != 0) = true := bne_iff_ne.mpr c7
      exact absurd (H.trans (congrArg some hr_)) (by decide)
  · replace c6 := Bool.eq_false_iff.mpr c6
    subst c6
    have H1 : (some false) = some r := by rw [if_neg (show ¬ (false = true) by decide)] at H; exact H
    clear H
    have H := H1
    clear H1
    exact absurd (H.trans (congrArg some hr_)) (by decide)

end Go.Proofs.Ytgjmfehdjbepiaa.P

end
