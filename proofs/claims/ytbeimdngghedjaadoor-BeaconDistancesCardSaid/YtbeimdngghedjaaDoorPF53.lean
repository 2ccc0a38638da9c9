-- written by a program of this session
import Derived.Test.YtbeimdngghedjaaDoorPK
namespace Go.Proofs.YtbeimdngghedjaaDoor.P
open Go.RowKit Go.Proofs.YtbeimdngghedjaaDoorW.PrintWords Go.Proofs.YtbeimdngghedjaaDoorW.PrintLast Go.Proofs.YtbeimdngghedjaaDoorW.PrintMore
attribute [local go_sem] max2_int min2_int max_two min_two max_three min_three max_four min_four   -- for this text's walks alone
set_option linter.unusedVariables false
set_option linter.unusedSimpArgs false

/-! ### beacon_graph_degree: function 53 -/
def beacon_graph_degree.l0 : Nat → Int → List Bool → Int → Int → Option (Int)
  | 0, _, _, _, _ => none
  | k + 1, x5, x14, x15, x16 => if x16 < x15 then (if 0 ≤ x16 then (if x16 < (x14.length : Int) then (if rdOf false x14 x16 = true then (beacon_graph_degree.l0 k (wrap64 (x5 + 1)) x14 x15 (wrap64 (x16 + 1))) else (beacon_graph_degree.l0 k x5 x14 x15 (wrap64 (x16 + 1)))) else (none)) else (none)) else (some x5)
def beacon_graph_degree.f (k : Nat) (l770 : List (S82)) (a1 : Int) : Option (Int) := if 0 < (l770.length : Int) then (if 0 ≤ a1 then (if a1 < (((rd_T82 l770 0).f1).length : Int) then (beacon_graph_degree.l0 k 0 (rd_L3 ((rd_T82 l770 0).f1) a1) ((rd_L3 ((rd_T82 l770 0).f1) a1).length : Int) 0) else (none)) else (none)) else (none)
theorem beacon_graph_degree.mono_l : ∀ k, (∀ y0 y1 y2 y3, LeO (beacon_graph_degree.l0 k y0 y1 y2 y3) (beacon_graph_degree.l0 (k + 1) y0 y1 y2 y3))
  | 0 => fun _ _ _ _ r h => by simp [beacon_graph_degree.l0] at h
  | k + 1 => by
    have ih0 := beacon_graph_degree.mono_l k
    · intro y0 y1 y2 y3
      unfold beacon_graph_degree.l0
      repeat' first
      | (with_reducible exact ih0 _ _ _ _)
      | (with_reducible exact LeO.refl _)
      | (with_reducible exact LeO.none _)
      | (with_reducible refine LeO.ite ?_ ?_)
      | (with_reducible refine LeO.bind ?_ (fun _ => ?_))
      | exact ih0 _ _ _ _
      | exact LeO.none _
      | refine LeO.ite ?_ ?_
      | refine LeO.bind ?_ (fun _ => ?_)
theorem beacon_graph_degree.mono : ∀ a0 a1 k, LeO (beacon_graph_degree.f k a0 a1) (beacon_graph_degree.f (k + 1) a0 a1) := by
  intro a0 a1 k
  have ih0 := beacon_graph_degree.mono_l k
  unfold beacon_graph_degree.f
  repeat' first
      | (with_reducible exact ih0 _ _ _ _)
      | (with_reducible exact LeO.refl _)
      | (with_reducible exact LeO.none _)
      | (with_reducible refine LeO.ite ?_ ?_)
      | (with_reducible refine LeO.bind ?_ (fun _ => ?_))
      | exact ih0 _ _ _ _
      | exact LeO.none _
      | refine LeO.ite ?_ ?_
      | refine LeO.bind ?_ (fun _ => ?_)
set_option maxHeartbeats 8000000 in
set_option maxRecDepth 100000 in
theorem beacon_graph_degree.calls (k : Nat) (A770 : Option Addr) (c770 : Nat) (l770 : List (S82)) (a1 : Int) (r : Int) (w : World) (hr770 : Kd.C k82 w A770 l770.length l770) (hc770 : l770.length ≤ c770) (h : beacon_graph_degree.f k l770 a1 = some r) :
    Calls Tryd.prog 53 #[.pointer A770, .int .i64 a1] w fun e w' => e = .returned (.int .i64 r) ∧ Drawn0 w w' := by
  have HR770 := Aside0.mk hr770
  have HC770 := Aside0.mk hc770
  clear hr770 hc770
  have H : (if 0 < (l770.length : Int) then (if 0 ≤ a1 then (if a1 < (((rd_T82 l770 0).f1).length : Int) then (beacon_graph_degree.l0 k 0 (rd_L3 ((rd_T82 l770 0).f1) a1) ((rd_L3 ((rd_T82 l770 0).f1) a1).length : Int) 0) else (none)) else (none)) else (none)) = some r := h
  clear h
  by_cases c3 : 0 < (l770.length : Int)
  · rw [if_pos c3] at H
    have c3b0 : decide (0 < (l770.length : Int)) = true := decide_eq_true c3
    have c3b1 : decide (0 < l770.length) = true := decide_eq_true (by omega)
    clear c3
    by_cases c4 : 0 ≤ a1
    · rw [if_pos c4] at H
      have c4b0 : decide (0 ≤ a1) = true := decide_eq_true c4
      clear c4
      by_cases c5 : a1 < (((rd_T82 l770 0).f1).length : Int)
      · rw [if_pos c5] at H
        have c5b0 : decide (a1 < (((rd_T82 l770 0).f1).length : Int)) = true := decide_eq_true c5
        clear c5
        have H' := Aside0.mk H
        clear H
        have p146 : 0 ≤ (0 : Int) := (by omega)
        have q146 : 0 < (l770.length : Int) := of_decide_eq_true (by first | (with_reducible assumption) | assumption)
        obtain ⟨ad146, A146_1, c146_1, A146_2, c146_2, e146, hx146_0, hx146_1, hx146_2, hl146_1, hi146_1, hl146_2, hi146_2⟩ := at_T82 HR770.out 0 p146 q146
        cases e146
        (try simp only [show (0 : Int).toNat = 0 from rfl, Nat.zero_mul, rp_add0] at hx146_0)
        (try simp only [show (0 : Int).toNat = 0 from rfl, Nat.zero_mul, rp_add0] at hx146_1)
        (try simp only [show (0 : Int).toNat = 0 from rfl, Nat.zero_mul, rp_add0] at hx146_2)
        have qi146 : (0 < l770.length) = True := eq_true (by omega)
        (try rw [show ((0 : Int)).toNat = 0 from rfl] at hx146_0)
        (try rw [show 0 * 3 = 0 from rfl] at hx146_0)
        (try rw [Addr.add_zero'] at hx146_0)
        (try rw [show ((0 : Int)).toNat = 0 from rfl] at hx146_1)
        (try rw [show 0 * 3 = 0 from rfl] at hx146_1)
        (try rw [Addr.add_zero'] at hx146_1)
        (try rw [show ((0 : Int)).toNat = 0 from rfl] at hx146_2)
        (try rw [show 0 * 3 = 0 from rfl] at hx146_2)
        (try rw [Addr.add_zero'] at hx146_2)
        have HR146_1 := Aside0.mk hi146_1
        have HC146_1 := Aside0.mk hl146_1
        clear hi146_1 hl146_1
        have HR146_2 := Aside0.mk hi146_2
        have HC146_2 := Aside0.mk hl146_2
        clear hi146_2 hl146_2
        replace p146 := eq_true p146
        replace q146 := eq_true q146
        have p147 : 0 ≤ (a1 : Int) := of_decide_eq_true (by first | (with_reducible assumption) | assumption)
        have q147 : a1 < (((rd_T82 l770 0).f1).length : Int) := of_decide_eq_true (by first | (with_reducible assumption) | assumption)
        obtain ⟨ad147, A147_0, c147_0, e147, hx147_0, hl147_0, hi147_0⟩ := at_L3 HR146_1.out a1 p147 q147
        cases e147
        have HR147_0 := Aside0.mk hi147_0
        have HC147_0 := Aside0.mk hl147_0
        clear hi147_0 hl147_0
        replace p147 := eq_true p147
        replace q147 := eq_true q147
        go_enter Tryd.func53, Tryd.ntmps53
        go_wp2
        go_loopg [5, 16] k (fun kq v5 v16 w' => ∃ (x5_1 : Int) (x16_1 : Int), v5 = .int .i64 x5_1 ∧ v16 = .int .i64 x16_1 ∧ Aside0 (beacon_graph_degree.l0 kq x5_1 (rd_L3 ((rd_T82 l770 0).f1) a1) ((rd_L3 ((rd_T82 l770 0).f1) a1).length : Int) x16_1 = some r) ∧ Aside0 (kq ≤ k) ∧ Drawn0 w w')
        case atStart => exact ⟨(0), (0), (by first | rfl | (simp; done) | (simp [*]; done)), (by first | rfl | (simp; done) | (simp [*]; done)), H', ⟨Nat.le_refl _⟩, by repeat (first | exact Drawn0.refl _ | apply Drawn0.step)⟩
        case round =>
          clear H'
          try clear c1
          try clear p1
          try clear q1
          try clear hx1
          try clear qi1
          try clear p2
          try clear c3
          try clear c3b0
          try clear c3b1
          try clear c4
          try clear c4b0
          try clear c5
          try clear c5b0
          try clear hx146_0
          try clear hx146_1
          try clear hx146_2
          try clear hx147_0
          try clear p146
          try clear p147
          try clear q146
          try clear q147
          obtain ⟨x5_1, x16_1, rfl, rfl, HA, HK1, ⟨m1, rfl⟩⟩ := hrel
          cases gk with
          | zero => exact absurd HA.out (by simp [beacon_graph_degree.l0])
          | succ k1 =>
            have H := HA.out
            clear HA
            simp only [beacon_graph_degree.l0] at H
            by_cases c6 : x16_1 < ((rd_L3 ((rd_T82 l770 0).f1) a1).length : Int)
            · rw [if_pos c6] at H
              have c6b0 : decide (x16_1 < ((rd_L3 ((rd_T82 l770 0).f1) a1).length : Int)) = true := decide_eq_true c6
              clear c6
              by_cases c7 : 0 ≤ x16_1
              · rw [if_pos c7] at H
                have c7b0 : decide (0 ≤ x16_1) = true := decide_eq_true c7
                clear c7
                by_cases c8 : x16_1 < ((rd_L3 ((rd_T82 l770 0).f1) a1).length : Int)
                · rw [if_pos c8] at H
                  have c8b0 : decide (x16_1 < ((rd_L3 ((rd_T82 l770 0).f1) a1).length : Int)) = true := decide_eq_true c8
                  clear c8
                  obtain ⟨bq9, hbq9⟩ : ∃ b_ : Bool, b_ = (rdOf false (rd_L3 ((rd_T82 l770 0).f1) a1) x16_1) := ⟨_, rfl⟩
                  replace H : (if bq9 = true then (beacon_graph_degree.l0 k1 (wrap64 (x5_1 + 1)) (rd_L3 ((rd_T82 l770 0).f1) a1) ((rd_L3 ((rd_T82 l770 0).f1) a1).length : Int) (wrap64 (x16_1 + 1))) else (beacon_graph_degree.l0 k1 x5_1 (rd_L3 ((rd_T82 l770 0).f1) a1) ((rd_L3 ((rd_T82 l770 0).f1) a1).length : Int) (wrap64 (x16_1 + 1)))) = some r := by rw [← hbq9] at H; exact H
                  have Nbq9 := Aside0.mk hbq9
                  clear hbq9
                  by_cases c10 : bq9 = true
                  · subst c10
                    have H1 : (beacon_graph_degree.l0 k1 (wrap64 (x5_1 + 1)) (rd_L3 ((rd_T82 l770 0).f1) a1) ((rd_L3 ((rd_T82 l770 0).f1) a1).length : Int) (wrap64 (x16_1 + 1))) = some r := by rw [if_pos rfl] at H; exact H
                    clear H
                    have H := H1
                    clear H1
                    have H' := Aside0.mk H
                    clear H
                    have p148 : 0 ≤ (x16_1 : Int) := of_decide_eq_true (by first | (with_reducible assumption) | assumption)
                    have q148 : x16_1 < ((rd_L3 ((rd_T82 l770 0).f1) a1).length : Int) := of_decide_eq_true (by first | (with_reducible assumption) | assumption)
                    obtain ⟨ad148, e148, hx148_0⟩ := Kd.at_bool HR147_0.out x16_1 p148 q148
                    (try rw [← Nbq9.out] at hx148_0)
                    cases e148
                    replace p148 := eq_true p148
                    replace q148 := eq_true q148
                    go_wp2
                    go_roundg k1
                    case measure => have := HK1.out; omega
                    case rel => exact ⟨(wrap64 (x5_1 + 1)), (wrap64 (x16_1 + 1)), (by first | rfl | (simp; done) | (simp [*]; done)), (by first | rfl | (simp; done) | (simp [*]; done)), H', ⟨by have := HK1.out; omega⟩, by repeat (first | exact Drawn0.refl _ | apply Drawn0.step)⟩
                  · replace c10 := Bool.eq_false_iff.mpr c10
                    subst c10
                    have H1 : (beacon_graph_degree.l0 k1 x5_1 (rd_L3 ((rd_T82 l770 0).f1) a1) ((rd_L3 ((rd_T82 l770 0).f1) a1).length : Int) (wrap64 (x16_1 + 1))) = some r := by rw [if_neg (show ¬ (false = true) by decide)] at H; exact H
                    clear H
                    have H := H1
                    clear H1
                    have H' := Aside0.mk H
                    clear H
                    have p148 : 0 ≤ (x16_1 : Int) := of_decide_eq_true (by first | (with_reducible assumption) | assumption)
                    have q148 : x16_1 < ((rd_L3 ((rd_T82 l770 0).f1) a1).length : Int) := of_decide_eq_true (by first | (with_reducible assumption) | assumption)
                    obtain ⟨ad148, e148, hx148_0⟩ := Kd.at_bool HR147_0.out x16_1 p148 q148
                    (try rw [← Nbq9.out] at hx148_0)
                    cases e148
                    replace p148 := eq_true p148
                    replace q148 := eq_true q148
                    go_wp2
                    go_roundg k1
                    case measure => have := HK1.out; omega
                    case rel => exact ⟨(x5_1), (wrap64 (x16_1 + 1)), (by first | rfl | (simp; done) | (simp [*]; done)), (by first | rfl | (simp; done) | (simp [*]; done)), H', ⟨by have := HK1.out; omega⟩, by repeat (first | exact Drawn0.refl _ | apply Drawn0.step)⟩
                · rw [if_neg c8] at H
                  exact absurd H (by simp)
              · rw [if_neg c7] at H
                exact absurd H (by simp)
            · rw [if_neg c6] at H
              have c6b0 : decide (x16_1 < ((rd_L3 ((rd_T82 l770 0).f1) a1).length : Int)) = false := decide_eq_false c6
              clear c6
              obtain rfl := Option.some.inj H
              go_wp2
              go_ret
              exact ⟨by first | rfl | (simp; done) | (simp [*]; done), by repeat (first | exact Drawn0.refl _ | apply Drawn0.step)⟩
      · rw [if_neg c5] at H
        exact absurd H (by simp)
    · rw [if_neg c4] at H
      exact absurd H (by simp)
  · rw [if_neg c3] at H
    exact absurd H (by simp)

end Go.Proofs.YtbeimdngghedjaaDoor.P
