-- written by a program of this session
import Derived.Test.YtbeimdngghedjaaDoorPK
namespace Go.Proofs.YtbeimdngghedjaaDoor.P
open Go.RowKit Go.Proofs.YtbeimdngghedjaaDoorW.PrintWords Go.Proofs.YtbeimdngghedjaaDoorW.PrintLast Go.Proofs.YtbeimdngghedjaaDoorW.PrintMore
attribute [local go_sem] max2_int min2_int max_two min_two max_three min_three max_four min_four   -- for this text's walks alone
set_option linter.unusedVariables false
set_option linter.unusedSimpArgs false

/-! ### beacon_graph_twins: function 60 -/
def beacon_graph_twins.l0 : Nat → List (S82) → Int → Int → Int → Int → Option (Bool)
  | 0, _, _, _, _, _ => none
  | k + 1, x0, x1, x2, x11, x12 => if x12 < x11 then (if x12 = x1 then (beacon_graph_twins.l0 k x0 x1 x2 x11 (wrap64 (x12 + 1))) else (if x12 = x2 then (beacon_graph_twins.l0 k x0 x1 x2 x11 (wrap64 (x12 + 1))) else (if 0 < (x0.length : Int) then (if 0 ≤ x1 then (if x1 < (((rd_T82 x0 0).f1).length : Int) then (if 0 ≤ x12 then (if x12 < ((rd_L3 ((rd_T82 x0 0).f1) x1).length : Int) then (if 0 ≤ x2 then (if x2 < (((rd_T82 x0 0).f1).length : Int) then (if x12 < ((rd_L3 ((rd_T82 x0 0).f1) x2).length : Int) then (if ((rdOf false (rd_L3 ((rd_T82 x0 0).f1) x1) x12) != (rdOf false (rd_L3 ((rd_T82 x0 0).f1) x2) x12)) = true then (some false) else (beacon_graph_twins.l0 k x0 x1 x2 x11 (wrap64 (x12 + 1)))) else (none)) else (none)) else (none)) else (none)) else (none)) else (none)) else (none)) else (none)))) else (some true)
def beacon_graph_twins.f (k : Nat) (l770 : List (S82)) (a1 : Int) (a2 : Int) : Option (Bool) := if 0 < (l770.length : Int) then (beacon_graph_twins.l0 k l770 a1 a2 ((rd_T82 l770 0).f0) 0) else (none)
theorem beacon_graph_twins.mono_l : ∀ k, (∀ y0 y1 y2 y3 y4, LeO (beacon_graph_twins.l0 k y0 y1 y2 y3 y4) (beacon_graph_twins.l0 (k + 1) y0 y1 y2 y3 y4))
  | 0 => fun _ _ _ _ _ r h => by simp [beacon_graph_twins.l0] at h
  | k + 1 => by
    have ih0 := beacon_graph_twins.mono_l k
    · intro y0 y1 y2 y3 y4
      unfold beacon_graph_twins.l0
      repeat' first
      | (with_reducible exact ih0 _ _ _ _ _)
      | (with_reducible exact LeO.refl _)
      | (with_reducible exact LeO.none _)
      | (with_reducible refine LeO.ite ?_ ?_)
      | (with_reducible refine LeO.bind ?_ (fun _ => ?_))
      | exact ih0 _ _ _ _ _
      | exact LeO.none _
      | refine LeO.ite ?_ ?_
      | refine LeO.bind ?_ (fun _ => ?_)
theorem beacon_graph_twins.mono : ∀ a0 a1 a2 k, LeO (beacon_graph_twins.f k a0 a1 a2) (beacon_graph_twins.f (k + 1) a0 a1 a2) := by
  intro a0 a1 a2 k
  have ih0 := beacon_graph_twins.mono_l k
  unfold beacon_graph_twins.f
  repeat' first
      | (with_reducible exact ih0 _ _ _ _ _)
      | (with_reducible exact LeO.refl _)
      | (with_reducible exact LeO.none _)
      | (with_reducible refine LeO.ite ?_ ?_)
      | (with_reducible refine LeO.bind ?_ (fun _ => ?_))
      | exact ih0 _ _ _ _ _
      | exact LeO.none _
      | refine LeO.ite ?_ ?_
      | refine LeO.bind ?_ (fun _ => ?_)
set_option maxHeartbeats 8000000 in
set_option maxRecDepth 100000 in
theorem beacon_graph_twins.calls (k : Nat) (A770 : Option Addr) (c770 : Nat) (l770 : List (S82)) (a1 : Int) (a2 : Int) (r : Bool) (w : World) (hr770 : Kd.C k82 w A770 l770.length l770) (hc770 : l770.length ≤ c770) (h : beacon_graph_twins.f k l770 a1 a2 = some r) :
    Calls Tryd.prog 60 #[.pointer A770, .int .i64 a1, .int .i64 a2] w fun e w' => e = .returned (.bool r) ∧ Drawn0 w w' := by
  have HR770 := Aside0.mk hr770
  have HC770 := Aside0.mk hc770
  clear hr770 hc770
  have H : (if 0 < (l770.length : Int) then (beacon_graph_twins.l0 k l770 a1 a2 ((rd_T82 l770 0).f0) 0) else (none)) = some r := h
  clear h
  by_cases c4 : 0 < (l770.length : Int)
  · rw [if_pos c4] at H
    have c4b0 : decide (0 < (l770.length : Int)) = true := decide_eq_true c4
    have c4b1 : decide (0 < l770.length) = true := decide_eq_true (by omega)
    clear c4
    have H' := Aside0.mk H
    clear H
    have p348 : 0 ≤ (0 : Int) := (by omega)
    have q348 : 0 < (l770.length : Int) := of_decide_eq_true (by first | (with_reducible assumption) | assumption)
    obtain ⟨ad348, A348_1, c348_1, A348_2, c348_2, e348, hx348_0, hx348_1, hx348_2, hl348_1, hi348_1, hl348_2, hi348_2⟩ := at_T82 HR770.out 0 p348 q348
    cases e348
    (try simp only [show (0 : Int).toNat = 0 from rfl, Nat.zero_mul, rp_add0] at hx348_0)
    (try simp only [show (0 : Int).toNat = 0 from rfl, Nat.zero_mul, rp_add0] at hx348_1)
    (try simp only [show (0 : Int).toNat = 0 from rfl, Nat.zero_mul, rp_add0] at hx348_2)
    have qi348 : (0 < l770.length) = True := eq_true (by omega)
    (try rw [show ((0 : Int)).toNat = 0 from rfl] at hx348_0)
    (try rw [show 0 * 3 = 0 from rfl] at hx348_0)
    (try rw [Addr.add_zero'] at hx348_0)
    (try rw [show ((0 : Int)).toNat = 0 from rfl] at hx348_1)
    (try rw [show 0 * 3 = 0 from rfl] at hx348_1)
    (try rw [Addr.add_zero'] at hx348_1)
    (try rw [show ((0 : Int)).toNat = 0 from rfl] at hx348_2)
    (try rw [show 0 * 3 = 0 from rfl] at hx348_2)
    (try rw [Addr.add_zero'] at hx348_2)
    have HR348_1 := Aside0.mk hi348_1
    have HC348_1 := Aside0.mk hl348_1
    clear hi348_1 hl348_1
    have HR348_2 := Aside0.mk hi348_2
    have HC348_2 := Aside0.mk hl348_2
    clear hi348_2 hl348_2
    replace p348 := eq_true p348
    replace q348 := eq_true q348
    go_enter Tryd.func60, Tryd.ntmps60
    go_wp2
    repeat (go_quiet (fail); try go_wp2)
    go_loopg [12] k (fun kq v12 w' => ∃ (x12_1 : Int), v12 = .int .i64 x12_1 ∧ Aside0 (beacon_graph_twins.l0 kq l770 a1 a2 ((rd_T82 l770 0).f0) x12_1 = some r) ∧ Aside0 (kq ≤ k) ∧ Drawn0 w w')
    case atStart => exact ⟨(0), (by first | rfl | (simp; done) | (simp [*]; done)), H', ⟨Nat.le_refl _⟩, by repeat (first | exact Drawn0.refl _ | apply Drawn0.step)⟩
    case round =>
      clear H'
      try clear p2
      try clear c3
      try clear p3
      try clear q3
      try clear hx3
      try clear qi3
      try clear c4
      try clear c4b0
      try clear c4b1
      try clear hx348_0
      try clear hx348_1
      try clear hx348_2
      try clear p348
      try clear q348
      obtain ⟨x12_1, rfl, HA, HK1, ⟨m1, rfl⟩⟩ := hrel
      cases gk with
      | zero => exact absurd HA.out (by simp [beacon_graph_twins.l0])
      | succ k1 =>
        have H := HA.out
        clear HA
        simp only [beacon_graph_twins.l0] at H
        by_cases c5 : x12_1 < ((rd_T82 l770 0).f0)
        · rw [if_pos c5] at H
          have c5b0 : decide (x12_1 < ((rd_T82 l770 0).f0)) = true := decide_eq_true c5
          clear c5
          by_cases c6 : x12_1 = a1
          · rw [if_pos c6] at H
            have c6b0 : (x12_1 == a1) = true := beq_iff_eq.mpr c6
            have c6b1 : (x12_1 != a1) = false := bne_eq_false_iff_eq.mpr c6
            clear c6
            have H' := Aside0.mk H
            clear H
            go_wp2
            repeat (go_quiet (fail); try go_wp2)
            go_roundg k1
            case measure => have := HK1.out; omega
            case rel => exact ⟨(wrap64 (x12_1 + 1)), (by first | rfl | (simp; done) | (simp [*]; done)), H', ⟨by have := HK1.out; omega⟩, by repeat (first | exact Drawn0.refl _ | apply Drawn0.step)⟩
          · rw [if_neg c6] at H
            have c6b0 : (x12_1 == a1) = false := beq_eq_false_iff_ne.mpr c6
            have c6b1 : (x12_1 != a1) = true := bne_iff_ne.mpr c6
            by_cases c7 : x12_1 = a2
            · rw [if_pos c7] at H
              have c7b0 : (x12_1 == a2) = true := beq_iff_eq.mpr c7
              have c7b1 : (x12_1 != a2) = false := bne_eq_false_iff_eq.mpr c7
              clear c7
              have H' := Aside0.mk H
              clear H
              go_wp2
              repeat (go_quiet (fail); try go_wp2)
              go_roundg k1
              case measure => have := HK1.out; omega
              case rel => exact ⟨(wrap64 (x12_1 + 1)), (by first | rfl | (simp; done) | (simp [*]; done)), H', ⟨by have := HK1.out; omega⟩, by repeat (first | exact Drawn0.refl _ | apply Drawn0.step)⟩
            · rw [if_neg c7] at H
              have c7b0 : (x12_1 == a2) = false := beq_eq_false_iff_ne.mpr c7
              have c7b1 : (x12_1 != a2) = true := bne_iff_ne.mpr c7
              by_cases c8 : 0 < (l770.length : Int)
              · rw [if_pos c8] at H
                have c8b0 : decide (0 < (l770.length : Int)) = true := decide_eq_true c8
                have c8b1 : decide (0 < l770.length) = true := decide_eq_true (by omega)
                clear c8
                by_cases c9 : 0 ≤ a1
                · rw [if_pos c9] at H
                  have c9b0 : decide (0 ≤ a1) = true := decide_eq_true c9
                  clear c9
                  by_cases c10 : a1 < (((rd_T82 l770 0).f1).length : Int)
                  · rw [if_pos c10] at H
                    have c10b0 : decide (a1 < (((rd_T82 l770 0).f1).length : Int)) = true := decide_eq_true c10
                    clear c10
                    by_cases c11 : 0 ≤ x12_1
                    · rw [if_pos c11] at H
                      have c11b0 : decide (0 ≤ x12_1) = true := decide_eq_true c11
                      clear c11
                      by_cases c12 : x12_1 < ((rd_L3 ((rd_T82 l770 0).f1) a1).length : Int)
                      · rw [if_pos c12] at H
                        have c12b0 : decide (x12_1 < ((rd_L3 ((rd_T82 l770 0).f1) a1).length : Int)) = true := decide_eq_true c12
                        clear c12
                        by_cases c13 : 0 ≤ a2
                        · rw [if_pos c13] at H
                          have c13b0 : decide (0 ≤ a2) = true := decide_eq_true c13
                          clear c13
                          by_cases c14 : a2 < (((rd_T82 l770 0).f1).length : Int)
                          · rw [if_pos c14] at H
                            have c14b0 : decide (a2 < (((rd_T82 l770 0).f1).length : Int)) = true := decide_eq_true c14
                            clear c14
                            by_cases c15 : x12_1 < ((rd_L3 ((rd_T82 l770 0).f1) a2).length : Int)
                            · rw [if_pos c15] at H
                              have c15b0 : decide (x12_1 < ((rd_L3 ((rd_T82 l770 0).f1) a2).length : Int)) = true := decide_eq_true c15
                              clear c15
                              by_cases c16 : ((rdOf false (rd_L3 ((rd_T82 l770 0).f1) a1) x12_1) != (rdOf false (rd_L3 ((rd_T82 l770 0).f1) a2) x12_1)) = true
                              · rw [if_pos c16] at H
                                have c16b0 : ((rdOf false (rd_L3 ((rd_T82 l770 0).f1) a1) x12_1) != (rdOf false (rd_L3 ((rd_T82 l770 0).f1) a2) x12_1)) = true := c16
                                (try (have c16b1 : decide ((rdOf false (rd_L3 ((rd_T82 l770 0).f1) a1) x12_1) = (rdOf false (rd_L3 ((rd_T82 l770 0).f1) a2) x12_1)) = false := by simpa using c16))
                                (try (have c16b2 : ((rdOf false (rd_L3 ((rd_T82 l770 0).f1) a1) x12_1) == (rdOf false (rd_L3 ((rd_T82 l770 0).f1) a2) x12_1)) = false := by simpa using c16))
                                (try (have c16b3 : ¬ ((rdOf false (rd_L3 ((rd_T82 l770 0).f1) a1) x12_1) = (rdOf false (rd_L3 ((rd_T82 l770 0).f1) a2) x12_1)) := by simpa using c16))
                                clear c16
                                obtain rfl := Option.some.inj H
                                have p349 : 0 ≤ (0 : Int) := (by omega)
                                have q349 : 0 < (l770.length : Int) := of_decide_eq_true (by first | (with_reducible assumption) | assumption)
                                obtain ⟨ad349, A349_1, c349_1, A349_2, c349_2, e349, hx349_0, hx349_1, hx349_2, hl349_1, hi349_1, hl349_2, hi349_2⟩ := at_T82 HR770.out 0 p349 q349
                                obtain rfl : ad348 = ad349 := (by injection e349)
                                (try simp only [show (0 : Int).toNat = 0 from rfl, Nat.zero_mul, rp_add0] at hx349_0)
                                (try simp only [show (0 : Int).toNat = 0 from rfl, Nat.zero_mul, rp_add0] at hx349_1)
                                (try simp only [show (0 : Int).toNat = 0 from rfl, Nat.zero_mul, rp_add0] at hx349_2)
                                have qi349 : (0 < l770.length) = True := eq_true (by omega)
                                (try rw [show ((0 : Int)).toNat = 0 from rfl] at hx349_0)
                                (try rw [show 0 * 3 = 0 from rfl] at hx349_0)
                                (try rw [Addr.add_zero'] at hx349_0)
                                (try rw [show ((0 : Int)).toNat = 0 from rfl] at hx349_1)
                                (try rw [show 0 * 3 = 0 from rfl] at hx349_1)
                                (try rw [Addr.add_zero'] at hx349_1)
                                (try rw [show ((0 : Int)).toNat = 0 from rfl] at hx349_2)
                                (try rw [show 0 * 3 = 0 from rfl] at hx349_2)
                                (try rw [Addr.add_zero'] at hx349_2)
                                have HR349_1 := Aside0.mk hi349_1
                                have HC349_1 := Aside0.mk hl349_1
                                clear hi349_1 hl349_1
                                have HR349_2 := Aside0.mk hi349_2
                                have HC349_2 := Aside0.mk hl349_2
                                clear hi349_2 hl349_2
                                replace p349 := eq_true p349
                                replace q349 := eq_true q349
                                have p350 : 0 ≤ (a1 : Int) := of_decide_eq_true (by first | (with_reducible assumption) | assumption)
                                have q350 : a1 < (((rd_T82 l770 0).f1).length : Int) := of_decide_eq_true (by first | (with_reducible assumption) | assumption)
                                obtain ⟨ad350, A350_0, c350_0, e350, hx350_0, hl350_0, hi350_0⟩ := at_L3 HR349_1.out a1 p350 q350
                                cases e350
                                have HR350_0 := Aside0.mk hi350_0
                                have HC350_0 := Aside0.mk hl350_0
                                clear hi350_0 hl350_0
                                replace p350 := eq_true p350
                                replace q350 := eq_true q350
                                have p351 : 0 ≤ (x12_1 : Int) := of_decide_eq_true (by first | (with_reducible assumption) | assumption)
                                have q351 : x12_1 < ((rd_L3 ((rd_T82 l770 0).f1) a1).length : Int) := of_decide_eq_true (by first | (with_reducible assumption) | assumption)
                                obtain ⟨ad351, e351, hx351_0⟩ := Kd.at_bool HR350_0.out x12_1 p351 q351
                                cases e351
                                replace p351 := eq_true p351
                                replace q351 := eq_true q351
                                have p352 : 0 ≤ (0 : Int) := (by omega)
                                have q352 : 0 < (l770.length : Int) := of_decide_eq_true (by first | (with_reducible assumption) | assumption)
                                obtain ⟨ad352, A352_1, c352_1, A352_2, c352_2, e352, hx352_0, hx352_1, hx352_2, hl352_1, hi352_1, hl352_2, hi352_2⟩ := at_T82 HR770.out 0 p352 q352
                                obtain rfl : ad348 = ad352 := (by injection e352)
                                (try simp only [show (0 : Int).toNat = 0 from rfl, Nat.zero_mul, rp_add0] at hx352_0)
                                (try simp only [show (0 : Int).toNat = 0 from rfl, Nat.zero_mul, rp_add0] at hx352_1)
                                (try simp only [show (0 : Int).toNat = 0 from rfl, Nat.zero_mul, rp_add0] at hx352_2)
                                have qi352 : (0 < l770.length) = True := eq_true (by omega)
                                (try rw [show ((0 : Int)).toNat = 0 from rfl] at hx352_0)
                                (try rw [show 0 * 3 = 0 from rfl] at hx352_0)
                                (try rw [Addr.add_zero'] at hx352_0)
                                (try rw [show ((0 : Int)).toNat = 0 from rfl] at hx352_1)
                                (try rw [show 0 * 3 = 0 from rfl] at hx352_1)
                                (try rw [Addr.add_zero'] at hx352_1)
                                (try rw [show ((0 : Int)).toNat = 0 from rfl] at hx352_2)
                                (try rw [show 0 * 3 = 0 from rfl] at hx352_2)
                                (try rw [Addr.add_zero'] at hx352_2)
                                have HR352_1 := Aside0.mk hi352_1
                                have HC352_1 := Aside0.mk hl352_1
                                clear hi352_1 hl352_1
                                have HR352_2 := Aside0.mk hi352_2
                                have HC352_2 := Aside0.mk hl352_2
                                clear hi352_2 hl352_2
                                replace p352 := eq_true p352
                                replace q352 := eq_true q352
                                have ea_ := Option.some.inj (hx349_1.symm.trans hx352_1)
                                injection ea_ with ea_ en_ ec_
                                subst ea_
                                subst ec_
                                clear en_
                                have ea_ := Option.some.inj (hx349_2.symm.trans hx352_2)
                                injection ea_ with ea_ en_ ec_
                                subst ea_
                                subst ec_
                                clear en_
                                have p353 : 0 ≤ (a2 : Int) := of_decide_eq_true (by first | (with_reducible assumption) | assumption)
                                have q353 : a2 < (((rd_T82 l770 0).f1).length : Int) := of_decide_eq_true (by first | (with_reducible assumption) | assumption)
                                obtain ⟨ad353, A353_0, c353_0, e353, hx353_0, hl353_0, hi353_0⟩ := at_L3 HR352_1.out a2 p353 q353
                                cases e353
                                have HR353_0 := Aside0.mk hi353_0
                                have HC353_0 := Aside0.mk hl353_0
                                clear hi353_0 hl353_0
                                replace p353 := eq_true p353
                                replace q353 := eq_true q353
                                have p354 : 0 ≤ (x12_1 : Int) := of_decide_eq_true (by first | (with_reducible assumption) | assumption)
                                have q354 : x12_1 < ((rd_L3 ((rd_T82 l770 0).f1) a2).length : Int) := of_decide_eq_true (by first | (with_reducible assumption) | assumption)
                                obtain ⟨ad354, e354, hx354_0⟩ := Kd.at_bool HR353_0.out x12_1 p354 q354
                                cases e354
                                replace p354 := eq_true p354
                                replace q354 := eq_true q354
                                go_wp2
                                repeat (go_quiet (fail); try go_wp2)
                                go_ret
                                exact ⟨by first | rfl | (simp; done) | (simp [*]; done), by repeat (first | exact Drawn0.refl _ | apply Drawn0.step)⟩
                              · rw [if_neg c16] at H
                                have c16b0 : ((rdOf false (rd_L3 ((rd_T82 l770 0).f1) a1) x12_1) != (rdOf false (rd_L3 ((rd_T82 l770 0).f1) a2) x12_1)) = false := by simpa using c16
                                (try (have c16b1 : decide ((rdOf false (rd_L3 ((rd_T82 l770 0).f1) a1) x12_1) = (rdOf false (rd_L3 ((rd_T82 l770 0).f1) a2) x12_1)) = true := by simpa using c16))
                                (try (have c16b2 : ((rdOf false (rd_L3 ((rd_T82 l770 0).f1) a1) x12_1) == (rdOf false (rd_L3 ((rd_T82 l770 0).f1) a2) x12_1)) = true := by simpa using c16))
                                clear c16
                                have H' := Aside0.mk H
                                clear H
                                have p349 : 0 ≤ (0 : Int) := (by omega)
                                have q349 : 0 < (l770.length : Int) := of_decide_eq_true (by first | (with_reducible assumption) | assumption)
                                obtain ⟨ad349, A349_1, c349_1, A349_2, c349_2, e349, hx349_0, hx349_1, hx349_2, hl349_1, hi349_1, hl349_2, hi349_2⟩ := at_T82 HR770.out 0 p349 q349
                                obtain rfl : ad348 = ad349 := (by injection e349)
                                (try simp only [show (0 : Int).toNat = 0 from rfl, Nat.zero_mul, rp_add0] at hx349_0)
                                (try simp only [show (0 : Int).toNat = 0 from rfl, Nat.zero_mul, rp_add0] at hx349_1)
                                (try simp only [show (0 : Int).toNat = 0 from rfl, Nat.zero_mul, rp_add0] at hx349_2)
                                have qi349 : (0 < l770.length) = True := eq_true (by omega)
                                (try rw [show ((0 : Int)).toNat = 0 from rfl] at hx349_0)
                                (try rw [show 0 * 3 = 0 from rfl] at hx349_0)
                                (try rw [Addr.add_zero'] at hx349_0)
                                (try rw [show ((0 : Int)).toNat = 0 from rfl] at hx349_1)
                                (try rw [show 0 * 3 = 0 from rfl] at hx349_1)
                                (try rw [Addr.add_zero'] at hx349_1)
                                (try rw [show ((0 : Int)).toNat = 0 from rfl] at hx349_2)
                                (try rw [show 0 * 3 = 0 from rfl] at hx349_2)
                                (try rw [Addr.add_zero'] at hx349_2)
                                have HR349_1 := Aside0.mk hi349_1
                                have HC349_1 := Aside0.mk hl349_1
                                clear hi349_1 hl349_1
                                have HR349_2 := Aside0.mk hi349_2
                                have HC349_2 := Aside0.mk hl349_2
                                clear hi349_2 hl349_2
                                replace p349 := eq_true p349
                                replace q349 := eq_true q349
                                have p350 : 0 ≤ (a1 : Int) := of_decide_eq_true (by first | (with_reducible assumption) | assumption)
                                have q350 : a1 < (((rd_T82 l770 0).f1).length : Int) := of_decide_eq_true (by first | (with_reducible assumption) | assumption)
                                obtain ⟨ad350, A350_0, c350_0, e350, hx350_0, hl350_0, hi350_0⟩ := at_L3 HR349_1.out a1 p350 q350
                                cases e350
                                have HR350_0 := Aside0.mk hi350_0
                                have HC350_0 := Aside0.mk hl350_0
                                clear hi350_0 hl350_0
                                replace p350 := eq_true p350
                                replace q350 := eq_true q350
                                have p351 : 0 ≤ (x12_1 : Int) := of_decide_eq_true (by first | (with_reducible assumption) | assumption)
                                have q351 : x12_1 < ((rd_L3 ((rd_T82 l770 0).f1) a1).length : Int) := of_decide_eq_true (by first | (with_reducible assumption) | assumption)
                                obtain ⟨ad351, e351, hx351_0⟩ := Kd.at_bool HR350_0.out x12_1 p351 q351
                                cases e351
                                replace p351 := eq_true p351
                                replace q351 := eq_true q351
                                have p352 : 0 ≤ (0 : Int) := (by omega)
                                have q352 : 0 < (l770.length : Int) := of_decide_eq_true (by first | (with_reducible assumption) | assumption)
                                obtain ⟨ad352, A352_1, c352_1, A352_2, c352_2, e352, hx352_0, hx352_1, hx352_2, hl352_1, hi352_1, hl352_2, hi352_2⟩ := at_T82 HR770.out 0 p352 q352
                                obtain rfl : ad348 = ad352 := (by injection e352)
                                (try simp only [show (0 : Int).toNat = 0 from rfl, Nat.zero_mul, rp_add0] at hx352_0)
                                (try simp only [show (0 : Int).toNat = 0 from rfl, Nat.zero_mul, rp_add0] at hx352_1)
                                (try simp only [show (0 : Int).toNat = 0 from rfl, Nat.zero_mul, rp_add0] at hx352_2)
                                have qi352 : (0 < l770.length) = True := eq_true (by omega)
                                (try rw [show ((0 : Int)).toNat = 0 from rfl] at hx352_0)
                                (try rw [show 0 * 3 = 0 from rfl] at hx352_0)
                                (try rw [Addr.add_zero'] at hx352_0)
                                (try rw [show ((0 : Int)).toNat = 0 from rfl] at hx352_1)
                                (try rw [show 0 * 3 = 0 from rfl] at hx352_1)
                                (try rw [Addr.add_zero'] at hx352_1)
                                (try rw [show ((0 : Int)).toNat = 0 from rfl] at hx352_2)
                                (try rw [show 0 * 3 = 0 from rfl] at hx352_2)
                                (try rw [Addr.add_zero'] at hx352_2)
                                have HR352_1 := Aside0.mk hi352_1
                                have HC352_1 := Aside0.mk hl352_1
                                clear hi352_1 hl352_1
                                have HR352_2 := Aside0.mk hi352_2
                                have HC352_2 := Aside0.mk hl352_2
                                clear hi352_2 hl352_2
                                replace p352 := eq_true p352
                                replace q352 := eq_true q352
                                have ea_ := Option.some.inj (hx349_1.symm.trans hx352_1)
                                injection ea_ with ea_ en_ ec_
                                subst ea_
                                subst ec_
                                clear en_
                                have ea_ := Option.some.inj (hx349_2.symm.trans hx352_2)
                                injection ea_ with ea_ en_ ec_
                                subst ea_
                                subst ec_
                                clear en_
                                have p353 : 0 ≤ (a2 : Int) := of_decide_eq_true (by first | (with_reducible assumption) | assumption)
                                have q353 : a2 < (((rd_T82 l770 0).f1).length : Int) := of_decide_eq_true (by first | (with_reducible assumption) | assumption)
                                obtain ⟨ad353, A353_0, c353_0, e353, hx353_0, hl353_0, hi353_0⟩ := at_L3 HR352_1.out a2 p353 q353
                                cases e353
                                have HR353_0 := Aside0.mk hi353_0
                                have HC353_0 := Aside0.mk hl353_0
                                clear hi353_0 hl353_0
                                replace p353 := eq_true p353
                                replace q353 := eq_true q353
                                have p354 : 0 ≤ (x12_1 : Int) := of_decide_eq_true (by first | (with_reducible assumption) | assumption)
                                have q354 : x12_1 < ((rd_L3 ((rd_T82 l770 0).f1) a2).length : Int) := of_decide_eq_true (by first | (with_reducible assumption) | assumption)
                                obtain ⟨ad354, e354, hx354_0⟩ := Kd.at_bool HR353_0.out x12_1 p354 q354
                                cases e354
                                replace p354 := eq_true p354
                                replace q354 := eq_true q354
                                go_wp2
                                repeat (go_quiet (fail); try go_wp2)
                                go_roundg k1
                                case measure => have := HK1.out; omega
                                case rel => exact ⟨(wrap64 (x12_1 + 1)), (by first | rfl | (simp; done) | (simp [*]; done)), H', ⟨by have := HK1.out; omega⟩, by repeat (first | exact Drawn0.refl _ | apply Drawn0.step)⟩
                            · rw [if_neg c15] at H
                              exact absurd H (by simp)
                          · rw [if_neg c14] at H
                            exact absurd H (by simp)
                        · rw [if_neg c13] at H
                          exact absurd H (by simp)
                      · rw [if_neg c12] at H
                        exact absurd H (by simp)
                    · rw [if_neg c11] at H
                      exact absurd H (by simp)
                  · rw [if_neg c10] at H
                    exact absurd H (by simp)
                · rw [if_neg c9] at H
                  exact absurd H (by simp)
              · rw [if_neg c8] at H
                exact absurd H (by simp)
        · rw [if_neg c5] at H
          have c5b0 : decide (x12_1 < ((rd_T82 l770 0).f0)) = false := decide_eq_false c5
          clear c5
          obtain rfl := Option.some.inj H
          go_wp2
          repeat (go_quiet (fail); try go_wp2)
          go_ret
          exact ⟨by first | rfl | (simp; done) | (simp [*]; done), by repeat (first | exact Drawn0.refl _ | apply Drawn0.step)⟩
  · rw [if_neg c4] at H
    exact absurd H (by simp)

end Go.Proofs.YtbeimdngghedjaaDoor.P
