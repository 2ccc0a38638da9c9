-- written by a program of this session
import Derived.Test.YtgjmfehdjbepiaaPK
import Derived.Test.YtgjmfehdjbepiaaPF61
namespace Go.Proofs.Ytgjmfehdjbepiaa.P
open Go.RowKit Go.Proofs.YtgjmfehdjbepiaaW.PrintWords Go.Proofs.YtgjmfehdjbepiaaW.PrintLast Go.Proofs.YtgjmfehdjbepiaaW.PrintMore
attribute [local go_sem] max2_int min2_int max_two min_two max_three min_three max_four min_four   -- for this text's walks alone
set_option linter.unusedVariables false
set_option linter.unusedSimpArgs false

/-! ### hat_game_guess: function 66 -/
def hat_game_guess.l0 : Nat → List (S103) → List (List Int) → List Int → Int → Int → List Int → Int → Int → Option (Int)
  | 0, _, _, _, _, _, _, _, _ => none
  | k + 1, x0, x1, x2, x3, x9, x18, x19, x20 => if x20 < x19 then (if 0 ≤ x20 then (if x20 < (x18.length : Int) then (if 0 ≤ (rd x18 x20) then (if (rd x18 x20) < (x2.length : Int) then (if 0 < (x0.length : Int) then ((hat_power.f k ((rd_T103 x0 0).f1) x20).bind fun t540 => (hat_game_guess.l0 k x0 x1 x2 x3 (wrap64 (x9 + (wrap64 ((rd x2 (rd x18 x20)) * t540)))) x18 x19 (wrap64 (x20 + 1)))) else (none)) else (none)) else (none)) else (none)) else (none)) else (if 0 ≤ x3 then (if x3 < (x1.length : Int) then (if 0 ≤ x9 then (if x9 < ((rd_L2 x1 x3).length : Int) then (some (rd (rd_L2 x1 x3) x9)) else (none)) else (none)) else (none)) else (none))
def hat_game_guess.f (k : Nat) (l770 : List (S103)) (l1 : List (List Int)) (l2 : List Int) (a3 : Int) : Option (Int) := if 0 < (l770.length : Int) then (if 0 ≤ a3 then (if a3 < (((rd_T103 l770 0).f2).length : Int) then (hat_game_guess.l0 k l770 l1 l2 a3 0 (rd_L2 ((rd_T103 l770 0).f2) a3) ((rd_L2 ((rd_T103 l770 0).f2) a3).length : Int) 0) else (none)) else (none)) else (none)
theorem hat_game_guess.mono_l : ∀ k, (∀ y0 y1 y2 y3 y4 y5 y6 y7, LeO (hat_game_guess.l0 k y0 y1 y2 y3 y4 y5 y6 y7) (hat_game_guess.l0 (k + 1) y0 y1 y2 y3 y4 y5 y6 y7))
  | 0 => fun _ _ _ _ _ _ _ _ r h => by simp [hat_game_guess.l0] at h
  | k + 1 => by
    have ih0 := hat_game_guess.mono_l k
    · intro y0 y1 y2 y3 y4 y5 y6 y7
      unfold hat_game_guess.l0
      repeat' first
      | (with_reducible exact ih0 _ _ _ _ _ _ _ _)
      | (with_reducible exact hat_power.mono _ _ _)
      | (with_reducible exact LeO.refl _)
      | (with_reducible exact LeO.none _)
      | (with_reducible refine LeO.ite ?_ ?_)
      | (with_reducible refine LeO.bind ?_ (fun _ => ?_))
      | exact ih0 _ _ _ _ _ _ _ _
      | exact hat_power.mono _ _ _
      | exact LeO.none _
      | refine LeO.ite ?_ ?_
      | refine LeO.bind ?_ (fun _ => ?_)
theorem hat_game_guess.mono : ∀ a0 a1 a2 a3 k, LeO (hat_game_guess.f k a0 a1 a2 a3) (hat_game_guess.f (k + 1) a0 a1 a2 a3) := by
  intro a0 a1 a2 a3 k
  have ih0 := hat_game_guess.mono_l k
  unfold hat_game_guess.f
  repeat' first
      | (with_reducible exact ih0 _ _ _ _ _ _ _ _)
      | (with_reducible exact hat_power.mono _ _ _)
      | (with_reducible exact LeO.refl _)
      | (with_reducible exact LeO.none _)
      | (with_reducible refine LeO.ite ?_ ?_)
      | (with_reducible refine LeO.bind ?_ (fun _ => ?_))
      | exact ih0 _ _ _ _ _ _ _ _
      | exact hat_power.mono _ _ _
      | exact LeO.none _
      | refine LeO.ite ?_ ?_
      | refine LeO.bind ?_ (fun _ => ?_)
set_option maxHeartbeats 8000000 in
set_option maxRecDepth 100000 in
theorem hat_game_guess.calls (k : Nat) (A770 : Option Addr) (c770 : Nat) (l770 : List (S103)) (A1 : Option Addr) (c1 : Nat) (l1 : List (List Int)) (A2 : Option Addr) (c2 : Nat) (l2 : List Int) (a3 : Int) (r : Int) (w : World) (hr770 : Kd.C k103 w A770 l770.length l770) (hc770 : l770.length ≤ c770) (hr1 : Kd.C (Kd.slice 3 (Kd.int .i64)) w A1 l1.length l1) (hc1 : l1.length ≤ c1) (hr2 : Kd.C (Kd.int .i64) w A2 l2.length l2) (hc2 : l2.length ≤ c2) (h : hat_game_guess.f k l770 l1 l2 a3 = some r) :
    Calls Try.prog 66 #[.pointer A770, .slice A1 l1.length c1, .slice A2 l2.length c2, .int .i64 a3] w fun e w' => e = .returned (.int .i64 r) ∧ Drawn0 w w' := by
  have HR770 := Aside0.mk hr770
  have HC770 := Aside0.mk hc770
  clear hr770 hc770
  have HR1 := Aside0.mk hr1
  have HC1 := Aside0.mk hc1
  clear hr1 hc1
  have HR2 := Aside0.mk hr2
  have HC2 := Aside0.mk hc2
  clear hr2 hc2
  have H : (if 0 < (l770.length : Int) then (if 0 ≤ a3 then (if a3 < (((rd_T103 l770 0).f2).length : Int) then (hat_game_guess.l0 k l770 l1 l2 a3 0 (rd_L2 ((rd_T103 l770 0).f2) a3) ((rd_L2 ((rd_T103 l770 0).f2) a3).length : Int) 0) else (none)) else (none)) else (none)) = some r := h
  clear h
  by_cases c5 : 0 < (l770.length : Int)
  · rw [if_pos c5] at H
    have c5b0 : decide (0 < (l770.length : Int)) = true := decide_eq_true c5
    have c5b1 : decide (0 < l770.length) = true := decide_eq_true (by omega)
    clear c5
    by_cases c6 : 0 ≤ a3
    · rw [if_pos c6] at H
      have c6b0 : decide (0 ≤ a3) = true := decide_eq_true c6
      clear c6
      by_cases c7 : a3 < (((rd_T103 l770 0).f2).length : Int)
      · rw [if_pos c7] at H
        have c7b0 : decide (a3 < (((rd_T103 l770 0).f2).length : Int)) = true := decide_eq_true c7
        clear c7
        have H' := Aside0.mk H
        clear H
        have p535 : 0 ≤ (0 : Int) := (by omega)
        have q535 : 0 < (l770.length : Int) := of_decide_eq_true (by first | (with_reducible assumption) | assumption)
        obtain ⟨ad535, A535_2, c535_2, e535, hx535_0, hx535_1, hx535_2, hl535_2, hi535_2⟩ := at_T103 HR770.out 0 p535 q535
        cases e535
        (try simp only [show (0 : Int).toNat = 0 from rfl, Nat.zero_mul, rp_add0] at hx535_0)
        (try simp only [show (0 : Int).toNat = 0 from rfl, Nat.zero_mul, rp_add0] at hx535_1)
        (try simp only [show (0 : Int).toNat = 0 from rfl, Nat.zero_mul, rp_add0] at hx535_2)
        have qi535 : (0 < l770.length) = True := eq_true (by omega)
        (try rw [show ((0 : Int)).toNat = 0 from rfl] at hx535_0)
        (try rw [show 0 * 3 = 0 from rfl] at hx535_0)
        (try rw [Addr.add_zero'] at hx535_0)
        (try rw [show ((0 : Int)).toNat = 0 from rfl] at hx535_1)
        (try rw [show 0 * 3 = 0 from rfl] at hx535_1)
        (try rw [Addr.add_zero'] at hx535_1)
        (try rw [show ((0 : Int)).toNat = 0 from rfl] at hx535_2)
        (try rw [show 0 * 3 = 0 from rfl] at hx535_2)
        (try rw [Addr.add_zero'] at hx535_2)
        have HR535_2 := Aside0.mk hi535_2
        have HC535_2 := Aside0.mk hl535_2
        clear hi535_2 hl535_2
        replace p535 := eq_true p535
        replace q535 := eq_true q535
        have p536 : 0 ≤ (a3 : Int) := of_decide_eq_true (by first | (with_reducible assumption) | assumption)
        have q536 : a3 < (((rd_T103 l770 0).f2).length : Int) := of_decide_eq_true (by first | (with_reducible assumption) | assumption)
        obtain ⟨ad536, A536_0, c536_0, e536, hx536_0, hl536_0, hi536_0⟩ := at_L2 HR535_2.out a3 p536 q536
        cases e536
        have HR536_0 := Aside0.mk hi536_0
        have HC536_0 := Aside0.mk hl536_0
        clear hi536_0 hl536_0
        replace p536 := eq_true p536
        replace q536 := eq_true q536
        go_enter Try.func66, Try.ntmps66
        go_wp2
        repeat (go_quiet (fail); try go_wp2)
        go_loopg [9, 20] k (fun kq v9 v20 w' => ∃ (x9_1 : Int) (x20_1 : Int), v9 = .int .i64 x9_1 ∧ v20 = .int .i64 x20_1 ∧ Aside0 (hat_game_guess.l0 kq l770 l1 l2 a3 x9_1 (rd_L2 ((rd_T103 l770 0).f2) a3) ((rd_L2 ((rd_T103 l770 0).f2) a3).length : Int) x20_1 = some r) ∧ Aside0 (kq ≤ k) ∧ Drawn0 w w')
        case atStart => exact ⟨(0), (0), (by first | rfl | (simp; done) | (simp [*]; done)), (by first | rfl | (simp; done) | (simp [*]; done)), H', ⟨Nat.le_refl _⟩, by repeat (first | exact Drawn0.refl _ | apply Drawn0.step)⟩
        case round =>
          clear H'
          try clear c1
          try clear c2
          try clear p2
          try clear c5
          try clear c5b0
          try clear c5b1
          try clear p5
          try clear q5
          try clear hx5
          try clear qi5
          try clear c6
          try clear c6b0
          try clear c7
          try clear c7b0
          try clear hx535_0
          try clear hx535_1
          try clear hx535_2
          try clear hx536_0
          try clear p535
          try clear p536
          try clear q535
          try clear q536
          obtain ⟨x9_1, x20_1, rfl, rfl, HA, HK1, ⟨m1, rfl⟩⟩ := hrel
          cases gk with
          | zero => exact absurd HA.out (by simp [hat_game_guess.l0])
          | succ k1 =>
            have H := HA.out
            clear HA
            simp only [hat_game_guess.l0] at H
            by_cases c8 : x20_1 < ((rd_L2 ((rd_T103 l770 0).f2) a3).length : Int)
            · rw [if_pos c8] at H
              have c8b0 : decide (x20_1 < ((rd_L2 ((rd_T103 l770 0).f2) a3).length : Int)) = true := decide_eq_true c8
              clear c8
              by_cases c9 : 0 ≤ x20_1
              · rw [if_pos c9] at H
                have c9b0 : decide (0 ≤ x20_1) = true := decide_eq_true c9
                clear c9
                by_cases c10 : x20_1 < ((rd_L2 ((rd_T103 l770 0).f2) a3).length : Int)
                · rw [if_pos c10] at H
                  have c10b0 : decide (x20_1 < ((rd_L2 ((rd_T103 l770 0).f2) a3).length : Int)) = true := decide_eq_true c10
                  clear c10
                  by_cases c11 : 0 ≤ (rd (rd_L2 ((rd_T103 l770 0).f2) a3) x20_1)
                  · rw [if_pos c11] at H
                    have c11b0 : decide (0 ≤ (rd (rd_L2 ((rd_T103 l770 0).f2) a3) x20_1)) = true := decide_eq_true c11
                    clear c11
                    by_cases c12 : (rd (rd_L2 ((rd_T103 l770 0).f2) a3) x20_1) < (l2.length : Int)
                    · rw [if_pos c12] at H
                      have c12b0 : decide ((rd (rd_L2 ((rd_T103 l770 0).f2) a3) x20_1) < (l2.length : Int)) = true := decide_eq_true c12
                      clear c12
                      by_cases c13 : 0 < (l770.length : Int)
                      · rw [if_pos c13] at H
                        have c13b0 : decide (0 < (l770.length : Int)) = true := decide_eq_true c13
                        have c13b1 : decide (0 < l770.length) = true := decide_eq_true (by omega)
                        clear c13
                        replace H := Option.bind_eq_some_iff.mp H
                        obtain ⟨t540, A140, H⟩ := H
                        replace H : (hat_game_guess.l0 k1 l770 l1 l2 a3 (wrap64 (x9_1 + (wrap64 ((rd l2 (rd (rd_L2 ((rd_T103 l770 0).f2) a3) x20_1)) * t540)))) (rd_L2 ((rd_T103 l770 0).f2) a3) ((rd_L2 ((rd_T103 l770 0).f2) a3).length : Int) (wrap64 (x20_1 + 1))) = some r := H
                        have A14 := Aside0.mk A140
                        clear A140
                        have H' := Aside0.mk H
                        clear H
                        have p537 : 0 ≤ (x20_1 : Int) := of_decide_eq_true (by first | (with_reducible assumption) | assumption)
                        have q537 : x20_1 < ((rd_L2 ((rd_T103 l770 0).f2) a3).length : Int) := of_decide_eq_true (by first | (with_reducible assumption) | assumption)
                        obtain ⟨ad537, e537, hx537_0⟩ := Kd.at_int HR536_0.out x20_1 p537 q537
                        cases e537
                        replace p537 := eq_true p537
                        replace q537 := eq_true q537
                        have p538 : 0 ≤ ((rd (rd_L2 ((rd_T103 l770 0).f2) a3) x20_1) : Int) := of_decide_eq_true (by first | (with_reducible assumption) | assumption)
                        have q538 : (rd (rd_L2 ((rd_T103 l770 0).f2) a3) x20_1) < (l2.length : Int) := of_decide_eq_true (by first | (with_reducible assumption) | assumption)
                        obtain ⟨ad538, e538, hx538_0⟩ := Kd.at_int HR2.out (rd (rd_L2 ((rd_T103 l770 0).f2) a3) x20_1) p538 q538
                        cases e538
                        replace p538 := eq_true p538
                        replace q538 := eq_true q538
                        have p539 : 0 ≤ (0 : Int) := (by omega)
                        have q539 : 0 < (l770.length : Int) := of_decide_eq_true (by first | (with_reducible assumption) | assumption)
                        obtain ⟨ad539, A539_2, c539_2, e539, hx539_0, hx539_1, hx539_2, hl539_2, hi539_2⟩ := at_T103 HR770.out 0 p539 q539
                        obtain rfl : ad535 = ad539 := (by injection e539)
                        (try simp only [show (0 : Int).toNat = 0 from rfl, Nat.zero_mul, rp_add0] at hx539_0)
                        (try simp only [show (0 : Int).toNat = 0 from rfl, Nat.zero_mul, rp_add0] at hx539_1)
                        (try simp only [show (0 : Int).toNat = 0 from rfl, Nat.zero_mul, rp_add0] at hx539_2)
                        have qi539 : (0 < l770.length) = True := eq_true (by omega)
                        (try rw [show ((0 : Int)).toNat = 0 from rfl] at hx539_0)
                        (try rw [show 0 * 3 = 0 from rfl] at hx539_0)
                        (try rw [Addr.add_zero'] at hx539_0)
                        (try rw [show ((0 : Int)).toNat = 0 from rfl] at hx539_1)
                        (try rw [show 0 * 3 = 0 from rfl] at hx539_1)
                        (try rw [Addr.add_zero'] at hx539_1)
                        (try rw [show ((0 : Int)).toNat = 0 from rfl] at hx539_2)
                        (try rw [show 0 * 3 = 0 from rfl] at hx539_2)
                        (try rw [Addr.add_zero'] at hx539_2)
                        have HR539_2 := Aside0.mk hi539_2
                        have HC539_2 := Aside0.mk hl539_2
                        clear hi539_2 hl539_2
                        replace p539 := eq_true p539
                        replace q539 := eq_true q539
                        go_wp2_with (first | (go_at_call 61; (with_reducible refine (hat_power.calls k1 ((rd_T103 l770 0).f1) x20_1 t540 _ A14.out).mono ?_); rintro e w' ⟨rfl, ⟨nd, rfl⟩⟩; (try first | exact ⟨rfl, _, World.drewN_drewN _ _ _⟩ | exact ⟨rfl, _, Eq.trans (World.drewN_drewN _ _ _) (congrArg (World.drewN _) (Nat.add_assoc _ _ _))⟩)))
                        repeat (go_quiet (first | (go_at_call 61; (with_reducible refine (hat_power.calls k1 ((rd_T103 l770 0).f1) x20_1 t540 _ A14.out).mono ?_); rintro e w' ⟨rfl, ⟨nd, rfl⟩⟩; (try first | exact ⟨rfl, _, World.drewN_drewN _ _ _⟩ | exact ⟨rfl, _, Eq.trans (World.drewN_drewN _ _ _) (congrArg (World.drewN _) (Nat.add_assoc _ _ _))⟩))); try go_wp2_with (first | (go_at_call 61; (with_reducible refine (hat_power.calls k1 ((rd_T103 l770 0).f1) x20_1 t540 _ A14.out).mono ?_); rintro e w' ⟨rfl, ⟨nd, rfl⟩⟩; (try first | exact ⟨rfl, _, World.drewN_drewN _ _ _⟩ | exact ⟨rfl, _, Eq.trans (World.drewN_drewN _ _ _) (congrArg (World.drewN _) (Nat.add_assoc _ _ _))⟩))))
                        go_roundg k1
                        case measure => have := HK1.out; omega
                        case rel => exact ⟨(wrap64 (x9_1 + (wrap64 ((rd l2 (rd (rd_L2 ((rd_T103 l770 0).f2) a3) x20_1)) * t540)))), (wrap64 (x20_1 + 1)), (by first | rfl | (simp; done) | (simp [*]; done)), (by first | rfl | (simp; done) | (simp [*]; done)), H', ⟨by have := HK1.out; omega⟩, by repeat (first | exact Drawn0.refl _ | apply Drawn0.step)⟩
                      · rw [if_neg c13] at H
                        exact absurd H (by simp)
                    · rw [if_neg c12] at H
                      exact absurd H (by simp)
                  · rw [if_neg c11] at H
                    exact absurd H (by simp)
                · rw [if_neg c10] at H
                  exact absurd H (by simp)
              · rw [if_neg c9] at H
                exact absurd H (by simp)
            · rw [if_neg c8] at H
              have c8b0 : decide (x20_1 < ((rd_L2 ((rd_T103 l770 0).f2) a3).length : Int)) = false := decide_eq_false c8
              clear c8
              by_cases c15 : 0 ≤ a3
              · rw [if_pos c15] at H
                have c15b0 : decide (0 ≤ a3) = true := decide_eq_true c15
                clear c15
                by_cases c16 : a3 < (l1.length : Int)
                · rw [if_pos c16] at H
                  have c16b0 : decide (a3 < (l1.length : Int)) = true := decide_eq_true c16
                  clear c16
                  by_cases c17 : 0 ≤ x9_1
                  · rw [if_pos c17] at H
                    have c17b0 : decide (0 ≤ x9_1) = true := decide_eq_true c17
                    clear c17
                    by_cases c18 : x9_1 < ((rd_L2 l1 a3).length : Int)
                    · rw [if_pos c18] at H
                      have c18b0 : decide (x9_1 < ((rd_L2 l1 a3).length : Int)) = true := decide_eq_true c18
                      clear c18
                      obtain rfl := Option.some.inj H
                      have p541 : 0 ≤ (a3 : Int) := of_decide_eq_true (by first | (with_reducible assumption) | assumption)
                      have q541 : a3 < (l1.length : Int) := of_decide_eq_true (by first | (with_reducible assumption) | assumption)
                      obtain ⟨ad541, A541_0, c541_0, e541, hx541_0, hl541_0, hi541_0⟩ := at_L2 HR1.out a3 p541 q541
                      cases e541
                      have HR541_0 := Aside0.mk hi541_0
                      have HC541_0 := Aside0.mk hl541_0
                      clear hi541_0 hl541_0
                      replace p541 := eq_true p541
                      replace q541 := eq_true q541
                      have p542 : 0 ≤ (x9_1 : Int) := of_decide_eq_true (by first | (with_reducible assumption) | assumption)
                      have q542 : x9_1 < ((rd_L2 l1 a3).length : Int) := of_decide_eq_true (by first | (with_reducible assumption) | assumption)
                      obtain ⟨ad542, e542, hx542_0⟩ := Kd.at_int HR541_0.out x9_1 p542 q542
                      cases e542
                      replace p542 := eq_true p542
                      replace q542 := eq_true q542
                      go_wp2
                      repeat (go_quiet (fail); try go_wp2)
                      go_ret
                      exact ⟨by first | rfl | (simp; done) | (simp [*]; done), by repeat (first | exact Drawn0.refl _ | apply Drawn0.step)⟩
                    · rw [if_neg c18] at H
                      exact absurd H (by simp)
                  · rw [if_neg c17] at H
                    exact absurd H (by simp)
                · rw [if_neg c16] at H
                  exact absurd H (by simp)
              · rw [if_neg c15] at H
                exact absurd H (by simp)
      · rw [if_neg c7] at H
        exact absurd H (by simp)
    · rw [if_neg c6] at H
      exact absurd H (by simp)
  · rw [if_neg c5] at H
    exact absurd H (by simp)

end Go.Proofs.Ytgjmfehdjbepiaa.P
