-- written by a program of this session
import Derived.Test.YtgjmfehdjbepiaaPK
import Derived.Test.YtgjmfehdjbepiaaPF63
namespace Go.Proofs.Ytgjmfehdjbepiaa.P
open Go.RowKit Go.Proofs.YtgjmfehdjbepiaaW.PrintWords Go.Proofs.YtgjmfehdjbepiaaW.PrintLast Go.Proofs.YtgjmfehdjbepiaaW.PrintMore
attribute [local go_sem] max2_int min2_int max_two min_two max_three min_three max_four min_four   -- for this text's walks alone
set_option linter.unusedVariables false
set_option linter.unusedSimpArgs false

/-! ### hat_Covers: function 34 -/
mutual
def hat_Covers.j0 : Nat → Int → List Int → Bool → Option (Bool × Int)
  | 0, _, _, _ => none
  | k + 1, x0, x1, x15 => if x15 = true then (some (false, 1)) else (if 0 ≤ x0 then (if 0 ≤ (shl .i64 1 x0) then (if (shl .i64 1 x0 : Int).toNat ≤ 281474976710656 then (hat_Covers.l0 k x0 x1 (List.replicate (shl .i64 1 x0 : Int).toNat false) x1 (x1.length : Int) 0) else (none)) else (none)) else (none))
def hat_Covers.l0 : Nat → Int → List Int → List Bool → List Int → Int → Int → Option (Bool × Int)
  | 0, _, _, _, _, _, _ => none
  | k + 1, x0, x1, x6, x19, x20, x21 => if x21 < x20 then (if 0 ≤ x21 then (if x21 < (x19.length : Int) then (if x21 ≥ 4096 then (hat_Covers.j2 k x0 x1 x6 (rd x19 x21) x19 x20 x21 true) else (if (rd x19 x21) < 0 then (hat_Covers.j2 k x0 x1 x6 (rd x19 x21) x19 x20 x21 true) else (if 0 ≤ x0 then (if (rd x19 x21) ≥ (shl .i64 1 x0) then (hat_Covers.j2 k x0 x1 x6 (rd x19 x21) x19 x20 x21 true) else (if x21 > 0 then (if 0 ≤ (wrap64 (x21 - 1)) then (if (wrap64 (x21 - 1)) < (x1.length : Int) then (hat_Covers.j2 k x0 x1 x6 (rd x19 x21) x19 x20 x21 (decide ((rd x19 x21) ≤ (rd x1 (wrap64 (x21 - 1)))))) else (none)) else (none)) else (hat_Covers.j2 k x0 x1 x6 (rd x19 x21) x19 x20 x21 false))) else (none)))) else (none)) else (none)) else ((slices_Contains_bool_bool.f k x6 false).bind fun t460 => (some (!t460, 0)))
def hat_Covers.j2 : Nat → Int → List Int → List Bool → Int → List Int → Int → Int → Bool → Option (Bool × Int)
  | 0, _, _, _, _, _, _, _, _ => none
  | k + 1, x0, x1, x6, x8, x19, x20, x21, x50 => if x50 = true then (some (false, 2)) else (if 0 ≤ x8 then (if x8 < (x6.length : Int) then (hat_Covers.l1 k x0 x1 (x6.set (x8 : Int).toNat true) x8 x19 x20 x21 x0 0) else (none)) else (none))
def hat_Covers.l1 : Nat → Int → List Int → List Bool → Int → List Int → Int → Int → Int → Int → Option (Bool × Int)
  | 0, _, _, _, _, _, _, _, _, _ => none
  | k + 1, x0, x1, x6, x8, x19, x20, x21, x54, x55 => if x55 < x54 then (if 0 ≤ x55 then (if 0 ≤ (Go.bits .xor .i64 x8 (shl .i64 1 x55)) then (if (Go.bits .xor .i64 x8 (shl .i64 1 x55)) < (x6.length : Int) then (hat_Covers.l1 k x0 x1 (x6.set ((Go.bits .xor .i64 x8 (shl .i64 1 x55)) : Int).toNat true) x8 x19 x20 x21 x54 (wrap64 (x55 + 1))) else (none)) else (none)) else (none)) else (hat_Covers.l0 k x0 x1 x6 x19 x20 (wrap64 (x21 + 1)))
end
def hat_Covers.f (k : Nat) (a0 : Int) (l1 : List Int) : Option (Bool × Int) := if a0 < 1 then (hat_Covers.j0 k a0 l1 true) else (hat_Covers.j0 k a0 l1 (decide (a0 > 12)))
theorem hat_Covers.mono_l : ∀ k, (∀ y0 y1 y2, LeO (hat_Covers.j0 k y0 y1 y2) (hat_Covers.j0 (k + 1) y0 y1 y2)) ∧ (∀ y0 y1 y2 y3 y4 y5, LeO (hat_Covers.l0 k y0 y1 y2 y3 y4 y5) (hat_Covers.l0 (k + 1) y0 y1 y2 y3 y4 y5)) ∧ (∀ y0 y1 y2 y3 y4 y5 y6 y7, LeO (hat_Covers.j2 k y0 y1 y2 y3 y4 y5 y6 y7) (hat_Covers.j2 (k + 1) y0 y1 y2 y3 y4 y5 y6 y7)) ∧ (∀ y0 y1 y2 y3 y4 y5 y6 y7 y8, LeO (hat_Covers.l1 k y0 y1 y2 y3 y4 y5 y6 y7 y8) (hat_Covers.l1 (k + 1) y0 y1 y2 y3 y4 y5 y6 y7 y8))
  | 0 => ⟨fun _ _ _ r h => by simp [hat_Covers.j0] at h, fun _ _ _ _ _ _ r h => by simp [hat_Covers.l0] at h, fun _ _ _ _ _ _ _ _ r h => by simp [hat_Covers.j2] at h, fun _ _ _ _ _ _ _ _ _ r h => by simp [hat_Covers.l1] at h⟩
  | k + 1 => by
    obtain ⟨ih0, ih1, ih2, ih3⟩ := hat_Covers.mono_l k
    refine ⟨?_, ?_, ?_, ?_⟩
    · intro y0 y1 y2
      unfold hat_Covers.j0
      repeat' first
      | (with_reducible exact ih0 _ _ _)
      | (with_reducible exact ih1 _ _ _ _ _ _)
      | (with_reducible exact ih2 _ _ _ _ _ _ _ _)
      | (with_reducible exact ih3 _ _ _ _ _ _ _ _ _)
      | (with_reducible exact slices_Contains_bool_bool.mono _ _ _)
      | (with_reducible exact LeO.refl _)
      | (with_reducible exact LeO.none _)
      | (with_reducible refine LeO.ite ?_ ?_)
      | (with_reducible refine LeO.bind ?_ (fun _ => ?_))
      | exact ih0 _ _ _
      | exact ih1 _ _ _ _ _ _
      | exact ih2 _ _ _ _ _ _ _ _
      | exact ih3 _ _ _ _ _ _ _ _ _
      | exact slices_Contains_bool_bool.mono _ _ _
      | exact LeO.none _
      | refine LeO.ite ?_ ?_
      | refine LeO.bind ?_ (fun _ => ?_)
    · intro y0 y1 y2 y3 y4 y5
      unfold hat_Covers.l0
      repeat' first
      | (with_reducible exact ih0 _ _ _)
      | (with_reducible exact ih1 _ _ _ _ _ _)
      | (with_reducible exact ih2 _ _ _ _ _ _ _ _)
      | (with_reducible exact ih3 _ _ _ _ _ _ _ _ _)
      | (with_reducible exact slices_Contains_bool_bool.mono _ _ _)
      | (with_reducible exact LeO.refl _)
      | (with_reducible exact LeO.none _)
      | (with_reducible refine LeO.ite ?_ ?_)
      | (with_reducible refine LeO.bind ?_ (fun _ => ?_))
      | exact ih0 _ _ _
      | exact ih1 _ _ _ _ _ _
      | exact ih2 _ _ _ _ _ _ _ _
      | exact ih3 _ _ _ _ _ _ _ _ _
      | exact slices_Contains_bool_bool.mono _ _ _
      | exact LeO.none _
      | refine LeO.ite ?_ ?_
      | refine LeO.bind ?_ (fun _ => ?_)
    · intro y0 y1 y2 y3 y4 y5 y6 y7
      unfold hat_Covers.j2
      repeat' first
      | (with_reducible exact ih0 _ _ _)
      | (with_reducible exact ih1 _ _ _ _ _ _)
      | (with_reducible exact ih2 _ _ _ _ _ _ _ _)
      | (with_reducible exact ih3 _ _ _ _ _ _ _ _ _)
      | (with_reducible exact slices_Contains_bool_bool.mono _ _ _)
      | (with_reducible exact LeO.refl _)
      | (with_reducible exact LeO.none _)
      | (with_reducible refine LeO.ite ?_ ?_)
      | (with_reducible refine LeO.bind ?_ (fun _ => ?_))
      | exact ih0 _ _ _
      | exact ih1 _ _ _ _ _ _
      | exact ih2 _ _ _ _ _ _ _ _
      | exact ih3 _ _ _ _ _ _ _ _ _
      | exact slices_Contains_bool_bool.mono _ _ _
      | exact LeO.none _
      | refine LeO.ite ?_ ?_
      | refine LeO.bind ?_ (fun _ => ?_)
    · intro y0 y1 y2 y3 y4 y5 y6 y7 y8
      unfold hat_Covers.l1
      repeat' first
      | (with_reducible exact ih0 _ _ _)
      | (with_reducible exact ih1 _ _ _ _ _ _)
      | (with_reducible exact ih2 _ _ _ _ _ _ _ _)
      | (with_reducible exact ih3 _ _ _ _ _ _ _ _ _)
      | (with_reducible exact slices_Contains_bool_bool.mono _ _ _)
      | (with_reducible exact LeO.refl _)
      | (with_reducible exact LeO.none _)
      | (with_reducible refine LeO.ite ?_ ?_)
      | (with_reducible refine LeO.bind ?_ (fun _ => ?_))
      | exact ih0 _ _ _
      | exact ih1 _ _ _ _ _ _
      | exact ih2 _ _ _ _ _ _ _ _
      | exact ih3 _ _ _ _ _ _ _ _ _
      | exact slices_Contains_bool_bool.mono _ _ _
      | exact LeO.none _
      | refine LeO.ite ?_ ?_
      | refine LeO.bind ?_ (fun _ => ?_)
theorem hat_Covers.mono : ∀ a0 a1 k, LeO (hat_Covers.f k a0 a1) (hat_Covers.f (k + 1) a0 a1) := by
  intro a0 a1 k
  obtain ⟨ih0, ih1, ih2, ih3⟩ := hat_Covers.mono_l k
  unfold hat_Covers.f
  repeat' first
      | (with_reducible exact ih0 _ _ _)
      | (with_reducible exact ih1 _ _ _ _ _ _)
      | (with_reducible exact ih2 _ _ _ _ _ _ _ _)
      | (with_reducible exact ih3 _ _ _ _ _ _ _ _ _)
      | (with_reducible exact slices_Contains_bool_bool.mono _ _ _)
      | (with_reducible exact LeO.refl _)
      | (with_reducible exact LeO.none _)
      | (with_reducible refine LeO.ite ?_ ?_)
      | (with_reducible refine LeO.bind ?_ (fun _ => ?_))
      | exact ih0 _ _ _
      | exact ih1 _ _ _ _ _ _
      | exact ih2 _ _ _ _ _ _ _ _
      | exact ih3 _ _ _ _ _ _ _ _ _
      | exact slices_Contains_bool_bool.mono _ _ _
      | exact LeO.none _
      | refine LeO.ite ?_ ?_
      | refine LeO.bind ?_ (fun _ => ?_)
set_option maxHeartbeats 8000000 in
set_option maxRecDepth 100000 in
theorem hat_Covers.calls (k : Nat) (a0 : Int) (A1 : Option Addr) (c1 : Nat) (l1 : List Int) (r1 : Bool) (r2 : Int) (w : World) (hr1 : Kd.C (Kd.int .i64) w A1 l1.length l1) (hc1 : l1.length ≤ c1) (h : hat_Covers.f k a0 l1 = some (r1, r2)) :
    Calls Try.prog 34 #[.int .i64 a0, .slice A1 l1.length c1] w fun e w' => e = .returned (.tuple #[.bool r1, .int .i64 r2]) ∧ Below w.heap.size w w' := by
  have HR1 := Aside0.mk hr1
  have HC1 := Aside0.mk hc1
  clear hr1 hc1
  have HB := Aside0.mk (Below.refl w.heap.size w)
  have H : (if a0 < 1 then (hat_Covers.j0 k a0 l1 true) else (hat_Covers.j0 k a0 l1 (decide (a0 > 12)))) = some (r1, r2) := h
  clear h
  have HC3 := Aside0.mk H
  clear H
  go_enter Try.func34, Try.ntmps34
  go_upto_region 1 with (fail)
  go_cut [15] (fun v15 wc => ∃ (kq : Nat) (x15_2 : Bool), v15 = .bool x15_2 ∧ Aside0 (hat_Covers.j0 kq a0 l1 x15_2 = some (r1, r2)) ∧ Aside0 (kq ≤ k) ∧ Aside0 (Below w.heap.size w wc))
  case first =>
    have H := HC3.out
    clear HC3
    by_cases c4 : a0 < 1
    · rw [if_pos c4] at H
      have c4b0 : decide (a0 < 1) = true := decide_eq_true c4
      (try (have c4b0z := c4b0; rw [hl6_4] at c4b0z))
      clear c4
      (first | rw [c4b0] | (simp only [i64_w, i32_w]; rw [c4b0]) | skip)
      have H' := Aside0.mk H
      clear H
      go_wp2
      go_meet
      case rel => exact ⟨_, (true), (by first | rfl | (simp; done) | (simp [*]; done)), H', ⟨by first | omega | exact Nat.le_refl _⟩, ⟨by repeat (first | (with_reducible first | exact HB.out | apply below_alloc | apply pw_below_drewN | apply below_drew1) | exact HB.out)⟩⟩
    · rw [if_neg c4] at H
      have c4b0 : decide (a0 < 1) = false := decide_eq_false c4
      (try (have c4b0z := c4b0; rw [hl6_4] at c4b0z))
      clear c4
      (first | rw [c4b0] | (simp only [i64_w, i32_w]; rw [c4b0]) | skip)
      have H' := Aside0.mk H
      clear H
      go_wp2
      go_meet
      case rel => exact ⟨_, (decide (a0 > 12)), (by first | rfl | (simp; done) | (simp [*]; done)), H', ⟨by first | omega | exact Nat.le_refl _⟩, ⟨by repeat (first | (with_reducible first | exact HB.out | apply below_alloc | apply pw_below_drewN | apply below_drew1) | exact HB.out)⟩⟩
  case rest =>
    clear HC3
    try clear c1
    try clear p2
    try clear c3
    try clear c4
    try clear c4b0
    obtain ⟨kq, x15_2, rfl, HA, HJ2, HB⟩ := hcut
    cases kq with
    | zero => exact absurd HA.out (by simp [hat_Covers.j0])
    | succ kj2 =>
      have H := HA.out
      clear HA
      simp only [hat_Covers.j0] at H
      by_cases c5 : x15_2 = true
      · subst c5
        have H1 : (some (false, 1)) = some (r1, r2) := by rw [if_pos rfl] at H; exact H
        clear H
        have H := H1
        clear H1
        simp only [Option.some.injEq, Prod.mk.injEq] at H
        obtain ⟨rfl, rfl⟩ := H
        go_wp2
        go_ret2
        exact ⟨by first | rfl | (simp [errW_none, errW_some] <;> rfl) | (simp [*, errW_none, errW_some] <;> rfl), by repeat (first | (with_reducible first | exact HB.out | apply below_alloc | apply pw_below_drewN | apply below_drew1) | exact HB.out)⟩
      · replace c5 := Bool.eq_false_iff.mpr c5
        subst c5
        have H1 : (if 0 ≤ a0 then (if 0 ≤ (shl .i64 1 a0) then (if (shl .i64 1 a0 : Int).toNat ≤ 281474976710656 then (hat_Covers.l0 kj2 a0 l1 (List.replicate (shl .i64 1 a0 : Int).toNat false) l1 (l1.length : Int) 0) else (none)) else (none)) else (none)) = some (r1, r2) := by rw [if_neg (show ¬ (false = true) by decide)] at H; exact H
        clear H
        have H := H1
        clear H1
        by_cases c6 : 0 ≤ a0
        · rw [if_pos c6] at H
          have c6b0 := eq_true c6
          have c6b1 : decide (0 ≤ a0) = true := decide_eq_true c6
          (try (have c6b1z := c6b1; rw [hl6_4] at c6b1z))
          clear c6
          obtain ⟨ji7, hji7⟩ : ∃ j_ : Int, (shl .i64 1 a0) = j_ := ⟨_, rfl⟩
          replace H : (if 0 ≤ (ji7) then (if (ji7 : Int).toNat ≤ 281474976710656 then (hat_Covers.l0 kj2 a0 l1 (List.replicate (ji7 : Int).toNat false) l1 (l1.length : Int) 0) else (none)) else (none)) = some (r1, r2) := by first | (rw [hji7] at H; exact H) | (simp only [hji7] at H ⊢; exact H)
          have hji7_ : (IntKind.i64.wrap (1 * 2 ^ min a0.toNat 64)) = ji7 := hji7
          have hji7z : a0 ≤ 64 → (IntKind.i64.wrap (1 * 2 ^ a0.toNat)) = ji7 := shl_small hji7
          have hji7u : (IntKind.i64.wrap (2 ^ min a0.toNat 64)) = ji7 := by have h_ := hji7_; rw [Int.one_mul] at h_; exact h_
          have hji7v : a0 ≤ 64 → (IntKind.i64.wrap (2 ^ a0.toNat)) = ji7 := fun hle_ => by have h_ := hji7z hle_; rw [Int.one_mul] at h_; exact h_
          have hji7y : (wrap64 (1 * 2 ^ min a0.toNat 64)) = ji7 := (i64_w _).symm.trans hji7_
          have hji7x : a0 ≤ 64 → (wrap64 (1 * 2 ^ a0.toNat)) = ji7 := fun h_ => (i64_w _).symm.trans (hji7z h_)
          by_cases c8 : 0 ≤ (ji7)
          · rw [if_pos c8] at H
            have c8b0 := eq_true c8
            have c8b1 : decide (0 ≤ (ji7)) = true := decide_eq_true c8
            (try (have c8b1z := c8b1; rw [hl6_4] at c8b1z))
            clear c8
            by_cases c9 : (ji7 : Int).toNat ≤ 281474976710656
            · rw [if_pos c9] at H
              have c9b0 := eq_true c9
              have c9b1 : decide ((ji7 : Int).toNat ≤ 281474976710656) = true := decide_eq_true c9
              (try (have c9b1z := c9b1; rw [hl6_4] at c9b1z))
              clear c9
              obtain ⟨y457, hy457⟩ : ∃ y_ : List Bool, y_ = (List.replicate (ji7 : Int).toNat false) := ⟨_, rfl⟩
              replace H : (hat_Covers.l0 kj2 a0 l1 y457 l1 (l1.length : Int) 0) = some (r1, r2) := by first | (rw [hy457]; with_reducible exact H) | (have H2_ := (Option.bind_some _ _).symm.trans H; rw [hy457]; with_reducible exact H2_) | (have H2_ := (Option.bind_some _ _).symm.trans H; with_reducible exact H2_) | with_reducible exact H | (rw [hy457]; exact H) | exact H
              have Ny457 := Aside0.mk hy457
              clear hy457
              have H' := Aside0.mk H
              clear H
              go_wp2_with (first | ((with_reducible refine gate_dst (N := 18) rfl ?_); refine Kd.R_make Kd.bool _ 4 rfl (N := 18) rfl 93 _ _ rfl ji7 rfl rfl Try.underlying93 (.bool false) 1 info4 rfl (by decide) (by omega) false (ok := fun _ => True) (okp := fun _ => True) rfl (fun _ hk => hk) trivial (of_decide_eq_true (by first | (with_reducible assumption) | assumption)) (Nat.le_trans (Nat.mul_le_mul_right _ (of_decide_eq_true (by first | (with_reducible assumption) | assumption) : ji7.toNat ≤ 281474976710656)) (by omega)) (Below.refl _ _) (Nat.le_refl _) ?_; intro v458 w10 ho11 hb hg_ hnew_; clear hg_ hnew_; (first | rw [← Ny457.out] at ho11 | (simp only [Int.reduceToNat] at ho11; rw [← Ny457.out] at ho11)); have n0_ := Aside0.mk (Kd.R_lower ho11 (below_size (by repeat (first | (with_reducible first | exact HB.out | apply below_alloc | apply pw_below_drewN | apply below_drew1) | exact HB.out)))); have n1_ := Aside0.mk (below_step (by repeat (first | (with_reducible first | exact HB.out | apply below_alloc | apply pw_below_drewN | apply below_drew1) | exact HB.out)) hb); clear HB; have HO459 := n0_; have HB := n1_; clear n0_ n1_; clear hb ho11))
              go_loopg [21] kj2 (fun kq v21 w' => ∃ (x6_2 : List Bool) (x21_2 : Int), v21 = .int .i64 x21_2 ∧ Aside0 (hat_Covers.l0 kq a0 l1 x6_2 l1 (l1.length : Int) x21_2 = some (r1, r2)) ∧ Aside0 (kq ≤ kj2) ∧ Aside0 (Kd.R Kd.bool 4 w' w.heap.size (fun _ => True) v458 x6_2) ∧ Aside0 (Below w.heap.size w w'))
              case atStart => exact ⟨(y457), (0), (by first | rfl | (simp; done) | (simp [*]; done)), H', ⟨Nat.le_refl _⟩, ⟨by (with_reducible repeat (first | apply Kd.R_alloc | apply Kd.R_drewN | apply Kd.R_drew)); exact HO459.out⟩, ⟨by repeat (first | (with_reducible first | exact HB.out | apply below_alloc | apply pw_below_drewN | apply below_drew1) | exact HB.out)⟩⟩
              case round =>
                clear H'
                try clear c1
                try clear p2
                try clear c3
                try clear c4
                try clear c4b0
                try clear c5
                try clear c6
                try clear c6b0
                try clear c6b1
                try clear p6
                try clear c8
                try clear c8b0
                try clear c8b1
                try clear c9
                try clear c9b0
                try clear c9b1
                try clear p2
                obtain ⟨x6_2, x21_2, rfl, HA, HK2, HO_6, HB⟩ := hrel
                cases gk with
                | zero => exact absurd HA.out (by simp [hat_Covers.l0])
                | succ k2 =>
                  have H := HA.out
                  clear HA
                  simp only [hat_Covers.l0] at H
                  by_cases c12 : x21_2 < (l1.length : Int)
                  · rw [if_pos c12] at H
                    have c12b0 : decide (x21_2 < (l1.length : Int)) = true := decide_eq_true c12
                    (try (have c12b0z := c12b0; rw [hl6_4] at c12b0z))
                    clear c12
                    by_cases c13 : 0 ≤ x21_2
                    · rw [if_pos c13] at H
                      have c13b0 : decide (0 ≤ x21_2) = true := decide_eq_true c13
                      (try (have c13b0z := c13b0; rw [hl6_4] at c13b0z))
                      clear c13
                      by_cases c14 : x21_2 < (l1.length : Int)
                      · rw [if_pos c14] at H
                        have c14b0 : decide (x21_2 < (l1.length : Int)) = true := decide_eq_true c14
                        (try (have c14b0z := c14b0; rw [hl6_4] at c14b0z))
                        clear c14
                        have HC15 := Aside0.mk H
                        clear H
                        have p461 : 0 ≤ (x21_2 : Int) := of_decide_eq_true (by first | (with_reducible assumption) | assumption)
                        have q461 : x21_2 < (l1.length : Int) := of_decide_eq_true (by first | (with_reducible assumption) | assumption)
                        obtain ⟨ad461, e461, hx461_0⟩ := Kd.at_int HR1.out x21_2 p461 q461
                        cases e461
                        replace hx461_0 := (HB.out.cell (World.block_lt_of_cell? w _ hx461_0)).trans hx461_0
                        replace p461 := eq_true p461
                        replace q461 := eq_true q461
                        go_upto_region 7 with (fail)
                        go_cut [50] (fun v50 wc => ∃ (kq : Nat) (x50_14 : Bool), v50 = .bool x50_14 ∧ Aside0 (hat_Covers.j2 kq a0 l1 x6_2 (rd l1 x21_2) l1 (l1.length : Int) x21_2 x50_14 = some (r1, r2)) ∧ Aside0 (kq ≤ k2) ∧ Aside0 (Kd.R Kd.bool 4 wc w.heap.size (fun _ => True) v458 x6_2) ∧ Aside0 (Below w.heap.size w wc))
                        case first =>
                          have H := HC15.out
                          clear HC15
                          by_cases c16 : x21_2 ≥ 4096
                          · rw [if_pos c16] at H
                            have c16b0 : decide (4096 ≤ x21_2) = true := decide_eq_true c16
                            (try (have c16b0z := c16b0; rw [hl6_4] at c16b0z))
                            clear c16
                            (first | rw [c16b0] | (simp only [i64_w, i32_w]; rw [c16b0]) | skip)
                            have H' := Aside0.mk H
                            clear H
                            go_wp2
                            go_meet
                            case rel => exact ⟨_, (true), (by first | rfl | (simp; done) | (simp [*]; done)), H', ⟨by have := HJ2.out; have := HK2.out; first | omega | exact Nat.le_refl _⟩, ⟨by (with_reducible repeat (first | apply Kd.R_alloc | apply Kd.R_drewN | apply Kd.R_drew)); exact HO_6.out⟩, ⟨by repeat (first | (with_reducible first | exact HB.out | apply below_alloc | apply pw_below_drewN | apply below_drew1) | exact HB.out)⟩⟩
                          · rw [if_neg c16] at H
                            have c16b0 : decide (4096 ≤ x21_2) = false := decide_eq_false c16
                            (try (have c16b0z := c16b0; rw [hl6_4] at c16b0z))
                            clear c16
                            (first | rw [c16b0] | (simp only [i64_w, i32_w]; rw [c16b0]) | skip)
                            by_cases c17 : (rd l1 x21_2) < 0
                            · rw [if_pos c17] at H
                              have c17b0 : decide ((rd l1 x21_2) < 0) = true := decide_eq_true c17
                              (try (have c17b0z := c17b0; rw [hl6_4] at c17b0z))
                              clear c17
                              have H' := Aside0.mk H
                              clear H
                              go_wp2
                              go_meet
                              case rel => exact ⟨_, (true), (by first | rfl | (simp; done) | (simp [*]; done)), H', ⟨by have := HJ2.out; have := HK2.out; first | omega | exact Nat.le_refl _⟩, ⟨by (with_reducible repeat (first | apply Kd.R_alloc | apply Kd.R_drewN | apply Kd.R_drew)); exact HO_6.out⟩, ⟨by repeat (first | (with_reducible first | exact HB.out | apply below_alloc | apply pw_below_drewN | apply below_drew1) | exact HB.out)⟩⟩
                            · rw [if_neg c17] at H
                              have c17b0 : decide ((rd l1 x21_2) < 0) = false := decide_eq_false c17
                              (try (have c17b0z := c17b0; rw [hl6_4] at c17b0z))
                              clear c17
                              by_cases c18 : 0 ≤ a0
                              · rw [if_pos c18] at H
                                have c18b0 := eq_true c18
                                have c18b1 : decide (0 ≤ a0) = true := decide_eq_true c18
                                (try (have c18b1z := c18b1; rw [hl6_4] at c18b1z))
                                clear c18
                                skip
                                replace H : (if (rd l1 x21_2) ≥ (ji7) then (hat_Covers.j2 k2 a0 l1 x6_2 (rd l1 x21_2) l1 (l1.length : Int) x21_2 true) else (if x21_2 > 0 then (if 0 ≤ (wrap64 (x21_2 - 1)) then (if (wrap64 (x21_2 - 1)) < (l1.length : Int) then (hat_Covers.j2 k2 a0 l1 x6_2 (rd l1 x21_2) l1 (l1.length : Int) x21_2 (decide ((rd l1 x21_2) ≤ (rd l1 (wrap64 (x21_2 - 1)))))) else (none)) else (none)) else (hat_Covers.j2 k2 a0 l1 x6_2 (rd l1 x21_2) l1 (l1.length : Int) x21_2 false))) = some (r1, r2) := by first | (rw [hji7] at H; exact H) | (simp only [hji7] at H ⊢; exact H)
                                have hji7_ : (IntKind.i64.wrap (1 * 2 ^ min a0.toNat 64)) = ji7 := hji7
                                have hji7z : a0 ≤ 64 → (IntKind.i64.wrap (1 * 2 ^ a0.toNat)) = ji7 := shl_small hji7
                                have hji7u : (IntKind.i64.wrap (2 ^ min a0.toNat 64)) = ji7 := by have h_ := hji7_; rw [Int.one_mul] at h_; exact h_
                                have hji7v : a0 ≤ 64 → (IntKind.i64.wrap (2 ^ a0.toNat)) = ji7 := fun hle_ => by have h_ := hji7z hle_; rw [Int.one_mul] at h_; exact h_
                                have hji7y : (wrap64 (1 * 2 ^ min a0.toNat 64)) = ji7 := (i64_w _).symm.trans hji7_
                                have hji7x : a0 ≤ 64 → (wrap64 (1 * 2 ^ a0.toNat)) = ji7 := fun h_ => (i64_w _).symm.trans (hji7z h_)
                                by_cases c20 : (rd l1 x21_2) ≥ (ji7)
                                · rw [if_pos c20] at H
                                  have c20b0 : decide ((ji7) ≤ (rd l1 x21_2)) = true := decide_eq_true c20
                                  (try (have c20b0z := c20b0; rw [hl6_4] at c20b0z))
                                  clear c20
                                  have H' := Aside0.mk H
                                  clear H
                                  go_wp2
                                  go_meet
                                  case rel => exact ⟨_, (true), (by first | rfl | (simp; done) | (simp [*]; done)), H', ⟨by have := HJ2.out; have := HK2.out; first | omega | exact Nat.le_refl _⟩, ⟨by (with_reducible repeat (first | apply Kd.R_alloc | apply Kd.R_drewN | apply Kd.R_drew)); exact HO_6.out⟩, ⟨by repeat (first | (with_reducible first | exact HB.out | apply below_alloc | apply pw_below_drewN | apply below_drew1) | exact HB.out)⟩⟩
                                · rw [if_neg c20] at H
                                  have c20b0 : decide ((ji7) ≤ (rd l1 x21_2)) = false := decide_eq_false c20
                                  (try (have c20b0z := c20b0; rw [hl6_4] at c20b0z))
                                  clear c20
                                  by_cases c21 : x21_2 > 0
                                  · rw [if_pos c21] at H
                                    have c21b0 : decide (0 < x21_2) = true := decide_eq_true c21
                                    (try (have c21b0z := c21b0; rw [hl6_4] at c21b0z))
                                    clear c21
                                    obtain ⟨ji22, hji22⟩ : ∃ j_ : Int, (wrap64 (x21_2 - 1)) = j_ := ⟨_, rfl⟩
                                    replace H : (if 0 ≤ (ji22) then (if (ji22) < (l1.length : Int) then (hat_Covers.j2 k2 a0 l1 x6_2 (rd l1 x21_2) l1 (l1.length : Int) x21_2 (decide ((rd l1 x21_2) ≤ (rd l1 (ji22))))) else (none)) else (none)) = some (r1, r2) := by first | (rw [hji22] at H; exact H) | (simp only [hji22] at H ⊢; exact H)
                                    have hji22w : (IntKind.i64.wrap (x21_2 - 1)) = ji22 := (i64_w _).trans hji22
                                    by_cases c23 : 0 ≤ (ji22)
                                    · rw [if_pos c23] at H
                                      have c23b0 : decide (0 ≤ (ji22)) = true := decide_eq_true c23
                                      (try (have c23b0z := c23b0; rw [hl6_4] at c23b0z))
                                      clear c23
                                      by_cases c24 : (ji22) < (l1.length : Int)
                                      · rw [if_pos c24] at H
                                        have c24b0 : decide ((ji22) < (l1.length : Int)) = true := decide_eq_true c24
                                        (try (have c24b0z := c24b0; rw [hl6_4] at c24b0z))
                                        clear c24
                                        have H' := Aside0.mk H
                                        clear H
                                        have p462 : 0 ≤ ((ji22) : Int) := of_decide_eq_true (by first | (with_reducible assumption) | assumption)
                                        have q462 : (ji22) < (l1.length : Int) := of_decide_eq_true (by first | (with_reducible assumption) | assumption)
                                        obtain ⟨ad462, e462, hx462_0⟩ := Kd.at_int HR1.out (ji22) p462 q462
                                        obtain rfl : ad461 = ad462 := (by injection e462)
                                        replace hx462_0 := (HB.out.cell (World.block_lt_of_cell? w _ hx462_0)).trans hx462_0
                                        replace p462 := eq_true p462
                                        replace q462 := eq_true q462
                                        go_wp2
                                        go_meet
                                        case rel => exact ⟨_, (decide ((rd l1 x21_2) ≤ (rd l1 (ji22)))), (by first | rfl | (simp; done) | (simp only [← hji22] <;> (first | rfl | simp)) | (simp [*]; done)), H', ⟨by have := HJ2.out; have := HK2.out; first | omega | exact Nat.le_refl _⟩, ⟨by (with_reducible repeat (first | apply Kd.R_alloc | apply Kd.R_drewN | apply Kd.R_drew)); exact HO_6.out⟩, ⟨by repeat (first | (with_reducible first | exact HB.out | apply below_alloc | apply pw_below_drewN | apply below_drew1) | exact HB.out)⟩⟩
                                      · rw [if_neg c24] at H
                                        exact absurd H (by simp)
                                    · rw [if_neg c23] at H
                                      exact absurd H (by simp)
                                  · rw [if_neg c21] at H
                                    have c21b0 : decide (0 < x21_2) = false := decide_eq_false c21
                                    (try (have c21b0z := c21b0; rw [hl6_4] at c21b0z))
                                    clear c21
                                    have H' := Aside0.mk H
                                    clear H
                                    go_wp2
                                    go_meet
                                    case rel => exact ⟨_, (false), (by first | rfl | (simp; done) | (simp [*]; done)), H', ⟨by have := HJ2.out; have := HK2.out; first | omega | exact Nat.le_refl _⟩, ⟨by (with_reducible repeat (first | apply Kd.R_alloc | apply Kd.R_drewN | apply Kd.R_drew)); exact HO_6.out⟩, ⟨by repeat (first | (with_reducible first | exact HB.out | apply below_alloc | apply pw_below_drewN | apply below_drew1) | exact HB.out)⟩⟩
                              · rw [if_neg c18] at H
                                exact absurd H (by simp)
                        case rest =>
                          clear HC15
                          try clear c1
                          try clear c2
                          try clear p2
                          try clear c3
                          try clear c4
                          try clear c4b0
                          try clear p4
                          try clear q4
                          try clear hx4
                          try clear c5
                          try clear c6
                          try clear c6b0
                          try clear c6b1
                          try clear p6
                          try clear c8
                          try clear c8b0
                          try clear c8b1
                          try clear c9
                          try clear c9b0
                          try clear c9b1
                          try clear c12
                          try clear c12b0
                          try clear c13
                          try clear c13b0
                          try clear c14
                          try clear c14b0
                          try clear c16
                          try clear c16b0
                          try clear c17
                          try clear c17b0
                          try clear c18
                          try clear c18b0
                          try clear c18b1
                          try clear c20
                          try clear c20b0
                          try clear c21
                          try clear c21b0
                          try clear c23
                          try clear c23b0
                          try clear c24
                          try clear c24b0
                          try clear hx461_0
                          try clear hx462_0
                          try clear p2
                          try clear p461
                          try clear p462
                          try clear p6
                          try clear q461
                          try clear q462
                          obtain ⟨kq, x50_14, rfl, HA, HJ14, HO_6, HB⟩ := hcut
                          cases kq with
                          | zero => exact absurd HA.out (by simp [hat_Covers.j2])
                          | succ kj14 =>
                            have H := HA.out
                            clear HA
                            simp only [hat_Covers.j2] at H
                            by_cases c25 : x50_14 = true
                            · subst c25
                              have H1 : (some (false, 2)) = some (r1, r2) := by rw [if_pos rfl] at H; exact H
                              clear H
                              have H := H1
                              clear H1
                              simp only [Option.some.injEq, Prod.mk.injEq] at H
                              obtain ⟨rfl, rfl⟩ := H
                              go_wp2
                              go_ret2
                              exact ⟨by first | rfl | (simp [errW_none, errW_some] <;> rfl) | (simp only [← hji7]; first | rfl | (simp [errW_none, errW_some] <;> rfl)) | (simp [*, errW_none, errW_some] <;> rfl), by repeat (first | (with_reducible first | exact HB.out | apply below_alloc | apply pw_below_drewN | apply below_drew1) | exact HB.out)⟩
                            · replace c25 := Bool.eq_false_iff.mpr c25
                              subst c25
                              have H1 : (if 0 ≤ (rd l1 x21_2) then (if (rd l1 x21_2) < (x6_2.length : Int) then (hat_Covers.l1 kj14 a0 l1 (x6_2.set ((rd l1 x21_2) : Int).toNat true) (rd l1 x21_2) l1 (l1.length : Int) x21_2 a0 0) else (none)) else (none)) = some (r1, r2) := by rw [if_neg (show ¬ (false = true) by decide)] at H; exact H
                              clear H
                              have H := H1
                              clear H1
                              by_cases c26 : 0 ≤ (rd l1 x21_2)
                              · rw [if_pos c26] at H
                                have c26b0 : decide (0 ≤ (rd l1 x21_2)) = true := decide_eq_true c26
                                (try (have c26b0z := c26b0; rw [hl6_4] at c26b0z))
                                clear c26
                                by_cases c27 : (rd l1 x21_2) < (x6_2.length : Int)
                                · rw [if_pos c27] at H
                                  have c27b0 : decide ((rd l1 x21_2) < (x6_2.length : Int)) = true := decide_eq_true c27
                                  (try (have c27b0z := c27b0; rw [hl6_4] at c27b0z))
                                  clear c27
                                  obtain ⟨y463, hy463⟩ : ∃ y_ : List Bool, y_ = (x6_2.set ((rd l1 x21_2) : Int).toNat true) := ⟨_, rfl⟩
                                  replace H : (hat_Covers.l1 kj14 a0 l1 y463 (rd l1 x21_2) l1 (l1.length : Int) x21_2 a0 0) = some (r1, r2) := by first | (rw [hy463]; with_reducible exact H) | (have H2_ := (Option.bind_some _ _).symm.trans H; rw [hy463]; with_reducible exact H2_) | (have H2_ := (Option.bind_some _ _).symm.trans H; with_reducible exact H2_) | with_reducible exact H | (rw [hy463]; exact H) | exact H
                                  have Ny463 := Aside0.mk hy463
                                  clear hy463
                                  have H' := Aside0.mk H
                                  clear H
                                  have p28 : 0 ≤ ((rd l1 x21_2) : Int) := of_decide_eq_true (by first | (with_reducible assumption) | assumption)
                                  have q28 : ((rd l1 x21_2) : Int) < ((x6_2.length : Int) : Int) := of_decide_eq_true (by first | (with_reducible assumption) | assumption)
                                  obtain ⟨go28, co28, eo28, gb28, gl28, cl28, HG28⟩ := Kd.R_form HO_6.out (by omega)
                                  (first | cases eo28 | (injection eo28 with ea_ en_ ec_; (first | subst ea_ | (injection ea_ with ea_; subst ea_)); subst ec_; clear en_))
                                  have GB28 := Aside0.mk gb28
                                  have GG28 := Aside0.mk HG28
                                  clear gb28 gl28 HG28
                                  obtain ⟨hx28_0, hf28_0⟩ := Kd.R_celln false HO_6.out ((rd l1 x21_2) : Int) p28 q28
                                  replace p28 := eq_true p28
                                  replace q28 := eq_true q28
                                  have HP29 := Kd.R_putg HO_6.out ((rd l1 x21_2) : Int) true
                                  go_wp2_with (first | ((with_reducible refine gate_store (t := 4) (p := 53) rfl ?_); refine store_event (t := 4) (p := 53) (v := ?vo_w30) (w1 := (wc.setCell ⟨go28, ((rd l1 x21_2) : Int).toNat, none⟩ (.bool true))) ?hg ?ho ?hn ?hr ?_; (case ho => rfl); (case hg => rfl); (case hn => rfl); (case hr => first | (go_simp; done) | (go_simp; rfl)); intro w30 hw; have hg : wc.grownBy w30 (some go28) := (by rw [hw]; exact HP29.2); have hp_ : Kd.R Kd.bool 4 w30 w.heap.size (fun _ => True) (.slice (some ⟨go28, 0, none⟩) x6_2.length co28) y463 := (by rw [hw, Ny463.out]; exact HP29.1); clear HP29; have n0_ := Aside0.mk (hp_); have n1_ := Aside0.mk ((by rw [hw]; exact below_set (HB.out) GB28.out : Below w.heap.size w w30)); clear HO_6; clear HB; have HO_6 := n0_; have HB := n1_; clear n0_ n1_; clear hg hw hp_))
                                  go_loopg [55] kj14 (fun kq v55 w' => ∃ (x6_4 : List Bool) (x55_4 : Int), v55 = .int .i64 x55_4 ∧ Aside0 (hat_Covers.l1 kq a0 l1 x6_4 (rd l1 x21_2) l1 (l1.length : Int) x21_2 a0 x55_4 = some (r1, r2)) ∧ Aside0 (kq ≤ kj14) ∧ Aside0 (Kd.R Kd.bool 4 w' w.heap.size (fun _ => True) (.slice (some ⟨go28, 0, none⟩) x6_2.length co28) x6_4) ∧ Aside0 (Below w.heap.size w w'))
                                  case atStart => exact ⟨(y463), (0), (by first | rfl | (simp; done) | (simp [*]; done)), H', ⟨Nat.le_refl _⟩, ⟨by (with_reducible repeat (first | apply Kd.R_alloc | apply Kd.R_drewN | apply Kd.R_drew)); exact HO_6.out⟩, ⟨by repeat (first | (with_reducible first | exact HB.out | apply below_alloc | apply pw_below_drewN | apply below_drew1) | exact HB.out)⟩⟩
                                  case round =>
                                    clear H'
                                    try clear c1
                                    try clear c2
                                    try clear p2
                                    try clear q2
                                    try clear hx2
                                    try clear hf2
                                    try clear c3
                                    try clear c4
                                    try clear c4b0
                                    try clear p4
                                    try clear q4
                                    try clear hx4
                                    try clear c5
                                    try clear c6
                                    try clear c6b0
                                    try clear c6b1
                                    try clear p6
                                    try clear c8
                                    try clear c8b0
                                    try clear c8b1
                                    try clear c9
                                    try clear c9b0
                                    try clear c9b1
                                    try clear c12
                                    try clear c12b0
                                    try clear c13
                                    try clear c13b0
                                    try clear c14
                                    try clear c14b0
                                    try clear c16
                                    try clear c16b0
                                    try clear c17
                                    try clear c17b0
                                    try clear c18
                                    try clear c18b0
                                    try clear c18b1
                                    try clear c20
                                    try clear c20b0
                                    try clear c21
                                    try clear c21b0
                                    try clear c23
                                    try clear c23b0
                                    try clear c24
                                    try clear c24b0
                                    try clear c25
                                    try clear c26
                                    try clear c26b0
                                    try clear c27
                                    try clear c27b0
                                    try clear p28
                                    try clear q28
                                    try clear hx28
                                    try clear hf28
                                    try clear hx28_0
                                    try clear hx461_0
                                    try clear hx462_0
                                    try clear p2
                                    try clear p28
                                    try clear p4
                                    try clear p461
                                    try clear p462
                                    try clear p6
                                    try clear q28
                                    try clear q4
                                    try clear q461
                                    try clear q462
                                    obtain ⟨x6_4, x55_4, rfl, HA, HK4, HO_6, HB⟩ := hrel
                                    have hl6_4 := (Kd.R_reads' HO_6.out).1
                                    rw [hl6_4] at HO_6
                                    (try simp only [hl6_4])
                                    cases gk with
                                    | zero => exact absurd HA.out (by simp [hat_Covers.l1])
                                    | succ k4 =>
                                      have H := HA.out
                                      clear HA
                                      simp only [hat_Covers.l1] at H
                                      by_cases c31 : x55_4 < a0
                                      · rw [if_pos c31] at H
                                        have c31b0 : decide (x55_4 < a0) = true := decide_eq_true c31
                                        (try (have c31b0z := c31b0; rw [hl6_4] at c31b0z))
                                        clear c31
                                        by_cases c32 : 0 ≤ x55_4
                                        · rw [if_pos c32] at H
                                          have c32b0 := eq_true c32
                                          have c32b1 : decide (0 ≤ x55_4) = true := decide_eq_true c32
                                          (try (have c32b1z := c32b1; rw [hl6_4] at c32b1z))
                                          clear c32
                                          obtain ⟨ji33, hji33⟩ : ∃ j_ : Int, (shl .i64 1 x55_4) = j_ := ⟨_, rfl⟩
                                          replace H : (if 0 ≤ (Go.bits .xor .i64 (rd l1 x21_2) (ji33)) then (if (Go.bits .xor .i64 (rd l1 x21_2) (ji33)) < (x6_4.length : Int) then (hat_Covers.l1 k4 a0 l1 (x6_4.set ((Go.bits .xor .i64 (rd l1 x21_2) (ji33)) : Int).toNat true) (rd l1 x21_2) l1 (l1.length : Int) x21_2 a0 (wrap64 (x55_4 + 1))) else (none)) else (none)) = some (r1, r2) := by first | (rw [hji33] at H; exact H) | (simp only [hji33] at H ⊢; exact H)
                                          have hji33_ : (IntKind.i64.wrap (1 * 2 ^ min x55_4.toNat 64)) = ji33 := hji33
                                          have hji33z : x55_4 ≤ 64 → (IntKind.i64.wrap (1 * 2 ^ x55_4.toNat)) = ji33 := shl_small hji33
                                          have hji33u : (IntKind.i64.wrap (2 ^ min x55_4.toNat 64)) = ji33 := by have h_ := hji33_; rw [Int.one_mul] at h_; exact h_
                                          have hji33v : x55_4 ≤ 64 → (IntKind.i64.wrap (2 ^ x55_4.toNat)) = ji33 := fun hle_ => by have h_ := hji33z hle_; rw [Int.one_mul] at h_; exact h_
                                          have hji33y : (wrap64 (1 * 2 ^ min x55_4.toNat 64)) = ji33 := (i64_w _).symm.trans hji33_
                                          have hji33x : x55_4 ≤ 64 → (wrap64 (1 * 2 ^ x55_4.toNat)) = ji33 := fun h_ => (i64_w _).symm.trans (hji33z h_)
                                          by_cases c34 : 0 ≤ (Go.bits .xor .i64 (rd l1 x21_2) (ji33))
                                          · rw [if_pos c34] at H
                                            have c34b0 : decide (0 ≤ (Go.bits .xor .i64 (rd l1 x21_2) (ji33))) = true := decide_eq_true c34
                                            (try (have c34b0z := c34b0; rw [hl6_4] at c34b0z))
                                            clear c34
                                            by_cases c35 : (Go.bits .xor .i64 (rd l1 x21_2) (ji33)) < (x6_4.length : Int)
                                            · rw [if_pos c35] at H
                                              have c35b0 : decide ((Go.bits .xor .i64 (rd l1 x21_2) (ji33)) < (x6_4.length : Int)) = true := decide_eq_true c35
                                              (try (have c35b0z := c35b0; rw [hl6_4] at c35b0z))
                                              clear c35
                                              obtain ⟨y464, hy464⟩ : ∃ y_ : List Bool, y_ = (x6_4.set ((Go.bits .xor .i64 (rd l1 x21_2) (ji33)) : Int).toNat true) := ⟨_, rfl⟩
                                              replace H : (hat_Covers.l1 k4 a0 l1 y464 (rd l1 x21_2) l1 (l1.length : Int) x21_2 a0 (wrap64 (x55_4 + 1))) = some (r1, r2) := by first | (rw [hy464]; with_reducible exact H) | (have H2_ := (Option.bind_some _ _).symm.trans H; rw [hy464]; with_reducible exact H2_) | (have H2_ := (Option.bind_some _ _).symm.trans H; with_reducible exact H2_) | with_reducible exact H | (rw [hy464]; exact H) | exact H
                                              have Ny464 := Aside0.mk hy464
                                              clear hy464
                                              have H' := Aside0.mk H
                                              clear H
                                              have p36 : 0 ≤ ((Go.bits .xor .i64 (rd l1 x21_2) (ji33)) : Int) := of_decide_eq_true (by first | (with_reducible assumption) | assumption)
                                              have q36 : ((Go.bits .xor .i64 (rd l1 x21_2) (ji33)) : Int) < ((x6_4.length : Int) : Int) := of_decide_eq_true (by first | (with_reducible assumption) | assumption)
                                              obtain ⟨hx36_0, hf36_0⟩ := Kd.R_celln false HO_6.out ((Go.bits .xor .i64 (rd l1 x21_2) (ji33)) : Int) p36 q36
                                              replace p36 := eq_true p36
                                              replace q36 := eq_true q36
                                              have HP37 := Kd.R_putg HO_6.out ((Go.bits .xor .i64 (rd l1 x21_2) (ji33)) : Int) true
                                              go_wp2_with (first | ((with_reducible refine gate_store (t := 4) (p := 63) rfl ?_); refine store_event (t := 4) (p := 63) (v := ?vo_w38) (w1 := (wr.setCell ⟨go28, ((Go.bits .xor .i64 (rd l1 x21_2) (ji33)) : Int).toNat, none⟩ (.bool true))) ?hg ?ho ?hn ?hr ?_; (case ho => rfl); (case hg => rfl); (case hn => rfl); (case hr => first | (go_simp; done) | (go_simp; rfl)); intro w38 hw; have hg : wr.grownBy w38 (some go28) := (by rw [hw]; exact HP37.2); have hp_ : Kd.R Kd.bool 4 w38 w.heap.size (fun _ => True) (.slice (some ⟨go28, 0, none⟩) x6_4.length co28) y464 := (by rw [hw, Ny464.out]; exact HP37.1); clear HP37; have n0_ := Aside0.mk (hp_); have n1_ := Aside0.mk ((by rw [hw]; exact below_set (HB.out) GB28.out : Below w.heap.size w w38)); clear HO_6; clear HB; have HO_6 := n0_; have HB := n1_; clear n0_ n1_; clear hg hw hp_))
                                              (try simp only [← hl6_4])
                                              go_roundg k4
                                              case measure => have := HJ2.out; have := HK2.out; have := HJ14.out; have := HK4.out; omega
                                              case rel => exact ⟨(y464), (wrap64 (x55_4 + 1)), (by first | rfl | (simp; done) | (simp [*]; done)), H', ⟨by have := HJ2.out; have := HK2.out; have := HJ14.out; have := HK4.out; omega⟩, ⟨by (try simp only [hl6_4]); (with_reducible repeat (first | apply Kd.R_alloc | apply Kd.R_drewN | apply Kd.R_drew)); exact HO_6.out⟩, ⟨by repeat (first | (with_reducible first | exact HB.out | apply below_alloc | apply pw_below_drewN | apply below_drew1) | exact HB.out)⟩⟩
                                            · rw [if_neg c35] at H
                                              exact absurd H (by simp)
                                          · rw [if_neg c34] at H
                                            exact absurd H (by simp)
                                        · rw [if_neg c32] at H
                                          exact absurd H (by simp)
                                      · rw [if_neg c31] at H
                                        have c31b0 : decide (x55_4 < a0) = false := decide_eq_false c31
                                        (try (have c31b0z := c31b0; rw [hl6_4] at c31b0z))
                                        clear c31
                                        have H' := Aside0.mk H
                                        clear H
                                        go_wp2
                                        (try simp only [← hl6_4])
                                        go_roundg k4
                                        case measure => have := HJ2.out; have := HK2.out; have := HJ14.out; have := HK4.out; omega
                                        case rel => exact ⟨(x6_4), (wrap64 (x21_2 + 1)), (by first | rfl | (simp; done) | (simp [*]; done)), H', ⟨by have := HJ2.out; have := HK2.out; have := HJ14.out; have := HK4.out; omega⟩, ⟨by (try simp only [hl6_4]); (with_reducible repeat (first | apply Kd.R_alloc | apply Kd.R_drewN | apply Kd.R_drew)); exact HO_6.out⟩, ⟨by repeat (first | (with_reducible first | exact HB.out | apply below_alloc | apply pw_below_drewN | apply below_drew1) | exact HB.out)⟩⟩
                                · rw [if_neg c27] at H
                                  exact absurd H (by simp)
                              · rw [if_neg c26] at H
                                exact absurd H (by simp)
                      · rw [if_neg c14] at H
                        exact absurd H (by simp)
                    · rw [if_neg c13] at H
                      exact absurd H (by simp)
                  · rw [if_neg c12] at H
                    have c12b0 : decide (x21_2 < (l1.length : Int)) = false := decide_eq_false c12
                    (try (have c12b0z := c12b0; rw [hl6_4] at c12b0z))
                    clear c12
                    replace H := Option.bind_eq_some_iff.mp H
                    obtain ⟨t460, A390, H⟩ := H
                    replace H : (some (!t460, 0)) = some (r1, r2) := H
                    have A39 := Aside0.mk A390
                    clear A390
                    simp only [Option.some.injEq, Prod.mk.injEq] at H
                    obtain ⟨rfl, rfl⟩ := H
                    obtain ⟨Ao40, co40, eo40⟩ := Kd.R_slice HO_6.out
                    subst eo40
                    go_wp2_with (first | ((with_reducible refine gate_callee (f := 63) rfl ?_); refine goesL_ (some 67) rfl rfl Try.func63 (by kernel_rfl) rfl #[.slice Ao40 x6_2.length co40, .bool false] rfl (by (try simp only [List.map_toArray, List.map_cons, List.map_nil]); first | done | rfl | (simp only [List.length_drop, List.length_take]; rfl)) ?_; (with_reducible refine (slices_Contains_bool_bool.calls k2 _ _ x6_2 false t460 _ ?side1 ?side2 A39.out).mono ?_); (case side1 => repeat (first | exact (Kd.R_reads' HO_6.out).2.2 | (with_reducible refine Kd.C_alloc ?_ _) | (with_reducible refine Kd.C_drewN ?_ _) | (with_reducible refine Kd.C_drew ?_))); (case side2 => exact (Kd.R_reads' HO_6.out).2.1); rintro e w' ⟨rfl, ⟨nd, rfl⟩⟩; refine ⟨_, rfl, ?_⟩))
                    go_ret2
                    exact ⟨by first | rfl | (simp [errW_none, errW_some] <;> rfl) | (simp only [← hji7]; first | rfl | (simp [errW_none, errW_some] <;> rfl)) | (simp [*, errW_none, errW_some] <;> rfl), by repeat (first | (with_reducible first | exact HB.out | apply below_alloc | apply pw_below_drewN | apply below_drew1) | exact HB.out)⟩
            · rw [if_neg c9] at H
              exact absurd H (by simp)
          · rw [if_neg c8] at H
            exact absurd H (by simp)
        · rw [if_neg c6] at H
          exact absurd H (by simp)

end Go.Proofs.Ytgjmfehdjbepiaa.P
