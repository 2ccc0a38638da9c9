-- written by a program of this session
import Derived.Test.YtcphmeeighhdjaaPK
import Derived.Test.YtcphmeeighhdjaaPF22
import Derived.Test.YtcphmeeighhdjaaPF22d
import Derived.Test.YtcphmeeighhdjaaPF24
import Derived.Test.YtcphmeeighhdjaaPF46
import Derived.Test.YtcphmeeighhdjaaPF47
namespace Go.Proofs.Ytcphmeeighhdjaa.P
open Go.RowKit Go.Proofs.YtcphmeeighhdjaaW.PrintWords Go.Proofs.YtcphmeeighhdjaaW.PrintLast Go.Proofs.YtcphmeeighhdjaaW.PrintMore
attribute [local go_sem] max2_int min2_int max_two min_two max_three min_three max_four min_four   -- for this text's walks alone
set_option linter.unusedVariables false
set_option linter.unusedSimpArgs false

/-! ### wogglelaw02_TrackGametes: function 14 -/
def wogglelaw02_TrackGametes.l0 : Nat → List (List Int) → Int → Int → Int → Int → Int → Int → Option (Bool)
  | 0, _, _, _, _, _, _, _ => none
  | k + 1, x5, x6, x7, x8, x9, x10, x11 => if x11 < (x5.length : Int) then (if 0 ≤ x11 then (if 0 < ((rd_L3 x5 x11).length : Int) then (if 1 < ((rd_L3 x5 x11).length : Int) then (if 0 ≤ (wrap64 ((wrap64 (2 * (rd (rd_L3 x5 x11) 0))) + (rd (rd_L3 x5 x11) 1))) then (if 0 ≤ (rd (rd_L3 x5 x11) 0) then (if 0 ≤ (rd (rd_L3 x5 x11) 1) then (wogglelaw02_TrackGametes.l0 k x5 x6 x7 (Go.bits .or .i64 x8 (shl .i64 1 (wrap64 ((wrap64 (2 * (rd (rd_L3 x5 x11) 0))) + (rd (rd_L3 x5 x11) 1))))) (Go.bits .or .i64 x9 (shl .i64 1 (rd (rd_L3 x5 x11) 0))) (Go.bits .or .i64 x10 (shl .i64 1 (rd (rd_L3 x5 x11) 1))) (wrap64 (x11 + 1))) else (none)) else (none)) else (none)) else (none)) else (none)) else (none)) else ((woggleref01_Members.f k x9).bind fun t786 => ((woggleref01_Members.f k x10).bind fun t789 => (if x7 = 0 then (if x8 = 15 then (if x6 > (wrap64 ((wrap64 ((t786.length : Int) + (t789.length : Int))) - 2)) then ((wogglelaw02_lives.f k).bind fun t792 => (some t792)) else (if x8 < 15 then (if x6 = (wrap64 ((wrap64 ((t786.length : Int) + (t789.length : Int))) - 2)) then ((wogglelaw02_lives.f k).bind fun t793 => (some t793)) else (some false)) else (some false))) else (if x8 < 15 then (if x6 = (wrap64 ((wrap64 ((t786.length : Int) + (t789.length : Int))) - 2)) then ((wogglelaw02_lives.f k).bind fun t794 => (some t794)) else (some false)) else (some false))) else (some false))))
def wogglelaw02_TrackGametes.f (k : Nat) (a0 : Int) (l1 : List Int) : Option (Bool) := (wogglelaw02_table.f k (wrap64 ((Int.tmod (wrap64 (a0)) 4) + 2)) 2 2 l1).bind fun t773 => ((track_Best.f k t773).bind fun bt776 => (wogglelaw02_TrackGametes.l0 k t773 bt776.1 bt776.2 0 0 0 0))
theorem wogglelaw02_TrackGametes.mono_l : ∀ k, (∀ y0 y1 y2 y3 y4 y5 y6, LeO (wogglelaw02_TrackGametes.l0 k y0 y1 y2 y3 y4 y5 y6) (wogglelaw02_TrackGametes.l0 (k + 1) y0 y1 y2 y3 y4 y5 y6))
  | 0 => fun _ _ _ _ _ _ _ r h => by simp [wogglelaw02_TrackGametes.l0] at h
  | k + 1 => by
    have ih0 := wogglelaw02_TrackGametes.mono_l k
    · intro y0 y1 y2 y3 y4 y5 y6
      unfold wogglelaw02_TrackGametes.l0
      repeat' first
      | (with_reducible exact ih0 _ _ _ _ _ _ _)
      | (with_reducible exact track_Best.mono _ _)
      | (with_reducible exact wogglelaw02_lives.mono _)
      | (with_reducible exact wogglelaw02_table.mono _ _ _ _ _)
      | (with_reducible exact woggleref01_Members.mono _ _)
      | (with_reducible exact LeO.refl _)
      | (with_reducible exact LeO.none _)
      | (with_reducible refine LeO.ite ?_ ?_)
      | (with_reducible refine LeO.bind ?_ (fun _ => ?_))
      | exact ih0 _ _ _ _ _ _ _
      | exact track_Best.mono _ _
      | exact wogglelaw02_lives.mono _
      | exact wogglelaw02_table.mono _ _ _ _ _
      | exact woggleref01_Members.mono _ _
      | exact LeO.none _
      | refine LeO.ite ?_ ?_
      | refine LeO.bind ?_ (fun _ => ?_)
theorem wogglelaw02_TrackGametes.mono : ∀ a0 a1 k, LeO (wogglelaw02_TrackGametes.f k a0 a1) (wogglelaw02_TrackGametes.f (k + 1) a0 a1) := by
  intro a0 a1 k
  have ih0 := wogglelaw02_TrackGametes.mono_l k
  unfold wogglelaw02_TrackGametes.f
  repeat' first
      | (with_reducible exact ih0 _ _ _ _ _ _ _)
      | (with_reducible exact track_Best.mono _ _)
      | (with_reducible exact wogglelaw02_lives.mono _)
      | (with_reducible exact wogglelaw02_table.mono _ _ _ _ _)
      | (with_reducible exact woggleref01_Members.mono _ _)
      | (with_reducible exact LeO.refl _)
      | (with_reducible exact LeO.none _)
      | (with_reducible refine LeO.ite ?_ ?_)
      | (with_reducible refine LeO.bind ?_ (fun _ => ?_))
      | exact ih0 _ _ _ _ _ _ _
      | exact track_Best.mono _ _
      | exact wogglelaw02_lives.mono _
      | exact wogglelaw02_table.mono _ _ _ _ _
      | exact woggleref01_Members.mono _ _
      | exact LeO.none _
      | refine LeO.ite ?_ ?_
      | refine LeO.bind ?_ (fun _ => ?_)
theorem no_true_ {r : Bool} (h : some false = some r) (hr : r = true) : False := by subst hr; cases h
set_option maxHeartbeats 8000000 in
set_option maxRecDepth 100000 in
theorem wogglelaw02_TrackGametes.calls (k : Nat) (a0 : Int) (A1 : Option Addr) (c1 : Nat) (l1 : List Int) (r : Bool) (w : World) (hr1 : Kd.C (Kd.int .u8) w A1 l1.length l1) (hc1 : l1.length ≤ c1) (h : wogglelaw02_TrackGametes.f k a0 l1 = some r) (hrr : r = true) :
    Calls Try.prog 14 #[.int .u8 a0, .slice A1 l1.length c1] w fun e w' => e = .returned (.bool r) ∧ Below w.heap.size w w' := by
  have HRR := Aside0.mk hrr
  clear hrr
  have HR1 := Aside0.mk hr1
  have HC1 := Aside0.mk hc1
  clear hr1 hc1
  have HB := Aside0.mk (Below.refl w.heap.size w)
  have H : ((wogglelaw02_table.f k (wrap64 ((Int.tmod (wrap64 (a0)) 4) + 2)) 2 2 l1).bind fun t773 => ((track_Best.f k t773).bind fun bt776 => (wogglelaw02_TrackGametes.l0 k t773 bt776.1 bt776.2 0 0 0 0))) = some r := h
  clear h
  replace H := Option.bind_eq_some_iff.mp H
  obtain ⟨t773, A30, H⟩ := H
  replace H : ((track_Best.f k t773).bind fun bt776 => (wogglelaw02_TrackGametes.l0 k t773 bt776.1 bt776.2 0 0 0 0)) = some r := H
  have A3 := Aside0.mk A30
  clear A30
  replace H := Option.bind_eq_some_iff.mp H
  obtain ⟨⟨t776, t777⟩, A40, H⟩ := H
  replace H : (wogglelaw02_TrackGametes.l0 k t773 t776 t777 0 0 0 0) = some r := H
  have A4 := Aside0.mk A40
  clear A40
  have H' := Aside0.mk H
  clear H
  go_enter Try.func14, Try.ntmps14
  go_wp2_with (first | (go_at_call 46; (first | (with_reducible refine (wogglelaw02_table.calls k (wrap64 ((Int.tmod (wrap64 (a0)) 4) + 2)) 2 2 _ _ l1 t773 _ ?side1 ?side2 A3.out).mono ?_) | (simp only [i64_w, i32_w]; with_reducible refine (wogglelaw02_table.calls k (wrap64 ((Int.tmod (wrap64 (a0)) 4) + 2)) 2 2 _ _ l1 t773 _ ?side1 ?side2 A3.out).mono ?_)); (case side1 => repeat (first | exact HR1.out | (with_reducible refine Kd.C_alloc ?_ _) | (with_reducible refine Kd.C_drewN ?_ _) | (with_reducible refine Kd.C_drew ?_))); (case side2 => exact HC1.out); rintro e w5 ⟨v774, rfl, ho0, hb⟩; have n0_ := Aside0.mk (Kd.S_lower ho0 (below_size (by repeat (first | (with_reducible first | exact HB.out | apply below_alloc | apply pw_below_drewN | apply below_drew1) | exact HB.out)))); have n1_ := Aside0.mk (below_step (by repeat (first | (with_reducible first | exact HB.out | apply below_alloc | apply pw_below_drewN | apply below_drew1) | exact HB.out)) hb); clear HB; have HO775 := n0_; have HB := n1_; clear n0_ n1_; (try clear hb); (try clear hb2); (try clear hk); (try clear hi); (try clear ho0); obtain ⟨Ao6, co6, eo6⟩ := Kd.S_slice HO775.out; subst eo6) | (go_at_call 47; (with_reducible refine (track_Best.calls k _ _ t773 t776 t777 _ ?side1 ?side2 A4.out).mono ?_); (case side1 => repeat (first | exact (Kd.S_reads' HO775.out).2.2 | (with_reducible refine Kd.C_alloc ?_ _) | (with_reducible refine Kd.C_drewN ?_ _) | (with_reducible refine Kd.C_drew ?_))); (case side2 => exact (Kd.S_reads' HO775.out).2.1); rintro e w7 ⟨rfl, hb⟩; have n0_ := Aside0.mk (Kd.S_below (by (with_reducible repeat (first | apply Kd.S_alloc | apply Kd.S_drewN | apply Kd.S_drew)); exact HO775.out) hb); have n1_ := Aside0.mk (below_step (by repeat (first | (with_reducible first | exact HB.out | apply below_alloc | apply pw_below_drewN | apply below_drew1) | exact HB.out)) hb); clear HO775; clear HB; have HO775 := n0_; have HB := n1_; clear n0_ n1_; (try clear hb); (try clear hb2); (try clear hk); (try clear hi)))
  repeat (go_quiet (first | (go_at_call 46; (first | (with_reducible refine (wogglelaw02_table.calls k (wrap64 ((Int.tmod (wrap64 (a0)) 4) + 2)) 2 2 _ _ l1 t773 _ ?side1 ?side2 A3.out).mono ?_) | (simp only [i64_w, i32_w]; with_reducible refine (wogglelaw02_table.calls k (wrap64 ((Int.tmod (wrap64 (a0)) 4) + 2)) 2 2 _ _ l1 t773 _ ?side1 ?side2 A3.out).mono ?_)); (case side1 => repeat (first | exact HR1.out | (with_reducible refine Kd.C_alloc ?_ _) | (with_reducible refine Kd.C_drewN ?_ _) | (with_reducible refine Kd.C_drew ?_))); (case side2 => exact HC1.out); rintro e w5 ⟨v774, rfl, ho0, hb⟩; have n0_ := Aside0.mk (Kd.S_lower ho0 (below_size (by repeat (first | (with_reducible first | exact HB.out | apply below_alloc | apply pw_below_drewN | apply below_drew1) | exact HB.out)))); have n1_ := Aside0.mk (below_step (by repeat (first | (with_reducible first | exact HB.out | apply below_alloc | apply pw_below_drewN | apply below_drew1) | exact HB.out)) hb); clear HB; have HO775 := n0_; have HB := n1_; clear n0_ n1_; (try clear hb); (try clear hb2); (try clear hk); (try clear hi); (try clear ho0); obtain ⟨Ao6, co6, eo6⟩ := Kd.S_slice HO775.out; subst eo6) | (go_at_call 47; (with_reducible refine (track_Best.calls k _ _ t773 t776 t777 _ ?side1 ?side2 A4.out).mono ?_); (case side1 => repeat (first | exact (Kd.S_reads' HO775.out).2.2 | (with_reducible refine Kd.C_alloc ?_ _) | (with_reducible refine Kd.C_drewN ?_ _) | (with_reducible refine Kd.C_drew ?_))); (case side2 => exact (Kd.S_reads' HO775.out).2.1); rintro e w7 ⟨rfl, hb⟩; have n0_ := Aside0.mk (Kd.S_below (by (with_reducible repeat (first | apply Kd.S_alloc | apply Kd.S_drewN | apply Kd.S_drew)); exact HO775.out) hb); have n1_ := Aside0.mk (below_step (by repeat (first | (with_reducible first | exact HB.out | apply below_alloc | apply pw_below_drewN | apply below_drew1) | exact HB.out)) hb); clear HO775; clear HB; have HO775 := n0_; have HB := n1_; clear n0_ n1_; (try clear hb); (try clear hb2); (try clear hk); (try clear hi))); try go_wp2_with (first | (go_at_call 46; (first | (with_reducible refine (wogglelaw02_table.calls k (wrap64 ((Int.tmod (wrap64 (a0)) 4) + 2)) 2 2 _ _ l1 t773 _ ?side1 ?side2 A3.out).mono ?_) | (simp only [i64_w, i32_w]; with_reducible refine (wogglelaw02_table.calls k (wrap64 ((Int.tmod (wrap64 (a0)) 4) + 2)) 2 2 _ _ l1 t773 _ ?side1 ?side2 A3.out).mono ?_)); (case side1 => repeat (first | exact HR1.out | (with_reducible refine Kd.C_alloc ?_ _) | (with_reducible refine Kd.C_drewN ?_ _) | (with_reducible refine Kd.C_drew ?_))); (case side2 => exact HC1.out); rintro e w5 ⟨v774, rfl, ho0, hb⟩; have n0_ := Aside0.mk (Kd.S_lower ho0 (below_size (by repeat (first | (with_reducible first | exact HB.out | apply below_alloc | apply pw_below_drewN | apply below_drew1) | exact HB.out)))); have n1_ := Aside0.mk (below_step (by repeat (first | (with_reducible first | exact HB.out | apply below_alloc | apply pw_below_drewN | apply below_drew1) | exact HB.out)) hb); clear HB; have HO775 := n0_; have HB := n1_; clear n0_ n1_; (try clear hb); (try clear hb2); (try clear hk); (try clear hi); (try clear ho0); obtain ⟨Ao6, co6, eo6⟩ := Kd.S_slice HO775.out; subst eo6) | (go_at_call 47; (with_reducible refine (track_Best.calls k _ _ t773 t776 t777 _ ?side1 ?side2 A4.out).mono ?_); (case side1 => repeat (first | exact (Kd.S_reads' HO775.out).2.2 | (with_reducible refine Kd.C_alloc ?_ _) | (with_reducible refine Kd.C_drewN ?_ _) | (with_reducible refine Kd.C_drew ?_))); (case side2 => exact (Kd.S_reads' HO775.out).2.1); rintro e w7 ⟨rfl, hb⟩; have n0_ := Aside0.mk (Kd.S_below (by (with_reducible repeat (first | apply Kd.S_alloc | apply Kd.S_drewN | apply Kd.S_drew)); exact HO775.out) hb); have n1_ := Aside0.mk (below_step (by repeat (first | (with_reducible first | exact HB.out | apply below_alloc | apply pw_below_drewN | apply below_drew1) | exact HB.out)) hb); clear HO775; clear HB; have HO775 := n0_; have HB := n1_; clear n0_ n1_; (try clear hb); (try clear hb2); (try clear hk); (try clear hi))))
  go_loopg [8, 9, 10, 11] k (fun kq v8 v9 v10 v11 w' => ∃ (x8_1 : Int) (x9_1 : Int) (x10_1 : Int) (x11_1 : Int), v8 = .int .i64 x8_1 ∧ v9 = .int .i64 x9_1 ∧ v10 = .int .i64 x10_1 ∧ v11 = .int .i64 x11_1 ∧ Aside0 (wogglelaw02_TrackGametes.l0 kq t773 t776 t777 x8_1 x9_1 x10_1 x11_1 = some r) ∧ Aside0 (kq ≤ k) ∧ Aside0 (Kd.S (Kd.slice 3 (Kd.int .i64)) 25 w' w.heap.size (fun _ => True) (.slice Ao6 t773.length co6) t773) ∧ Aside0 (Below w.heap.size w w'))
  case atStart => exact ⟨(0), (0), (0), (0), (by first | rfl | (simp; done) | (simp [*]; done)), (by first | rfl | (simp; done) | (simp [*]; done)), (by first | rfl | (simp; done) | (simp [*]; done)), (by first | rfl | (simp; done) | (simp [*]; done)), H', ⟨Nat.le_refl _⟩, ⟨by (with_reducible repeat (first | apply Kd.S_alloc | apply Kd.S_drewN | apply Kd.S_drew)); exact HO775.out⟩, ⟨by repeat (first | (with_reducible first | exact HB.out | apply below_alloc | apply pw_below_drewN | apply below_drew1) | exact HB.out)⟩⟩
  case round =>
    clear H'
    try clear c1
    try clear p2
    try clear p6
    obtain ⟨x8_1, x9_1, x10_1, x11_1, rfl, rfl, rfl, rfl, HA, HK1, HO_5, HB⟩ := hrel
    cases gk with
    | zero => exact absurd HA.out (by simp [wogglelaw02_TrackGametes.l0])
    | succ k1 =>
      have H := HA.out
      clear HA
      simp only [wogglelaw02_TrackGametes.l0] at H
      by_cases c8 : x11_1 < (t773.length : Int)
      · rw [if_pos c8] at H
        have c8b0 : decide (x11_1 < (t773.length : Int)) = true := decide_eq_true c8
        clear c8
        by_cases c9 : 0 ≤ x11_1
        · rw [if_pos c9] at H
          have c9b0 : decide (0 ≤ x11_1) = true := decide_eq_true c9
          clear c9
          by_cases c10 : 0 < ((rd_L3 t773 x11_1).length : Int)
          · rw [if_pos c10] at H
            have c10b0 : decide (0 < ((rd_L3 t773 x11_1).length : Int)) = true := decide_eq_true c10
            have c10b1 : decide (0 < (rd_L3 t773 x11_1).length) = true := decide_eq_true (by omega)
            clear c10
            by_cases c11 : 1 < ((rd_L3 t773 x11_1).length : Int)
            · rw [if_pos c11] at H
              have c11b0 : decide (1 < ((rd_L3 t773 x11_1).length : Int)) = true := decide_eq_true c11
              have c11b1 : decide (1 < (rd_L3 t773 x11_1).length) = true := decide_eq_true (by omega)
              clear c11
              obtain ⟨ji12, hji12⟩ : ∃ j_ : Int, (wrap64 ((wrap64 (2 * (rd (rd_L3 t773 x11_1) 0))) + (rd (rd_L3 t773 x11_1) 1))) = j_ := ⟨_, rfl⟩
              replace H : (if 0 ≤ (ji12) then (if 0 ≤ (rd (rd_L3 t773 x11_1) 0) then (if 0 ≤ (rd (rd_L3 t773 x11_1) 1) then (wogglelaw02_TrackGametes.l0 k1 t773 t776 t777 (Go.bits .or .i64 x8_1 (shl .i64 1 (ji12))) (Go.bits .or .i64 x9_1 (shl .i64 1 (rd (rd_L3 t773 x11_1) 0))) (Go.bits .or .i64 x10_1 (shl .i64 1 (rd (rd_L3 t773 x11_1) 1))) (wrap64 (x11_1 + 1))) else (none)) else (none)) else (none)) = some r := by first | (rw [hji12] at H; exact H) | (simp only [hji12] at H ⊢; exact H)
              have hji12w : (IntKind.i64.wrap ((wrap64 (2 * (rd (rd_L3 t773 x11_1) 0))) + (rd (rd_L3 t773 x11_1) 1))) = ji12 := (i64_w _).trans hji12
              by_cases c13 : 0 ≤ (ji12)
              · rw [if_pos c13] at H
                have c13b0 := eq_true c13
                have c13b1 : decide (0 ≤ (ji12)) = true := decide_eq_true c13
                clear c13
                obtain ⟨ji14, hji14⟩ : ∃ j_ : Int, (shl .i64 1 (ji12)) = j_ := ⟨_, rfl⟩
                replace H : (if 0 ≤ (rd (rd_L3 t773 x11_1) 0) then (if 0 ≤ (rd (rd_L3 t773 x11_1) 1) then (wogglelaw02_TrackGametes.l0 k1 t773 t776 t777 (Go.bits .or .i64 x8_1 (ji14)) (Go.bits .or .i64 x9_1 (shl .i64 1 (rd (rd_L3 t773 x11_1) 0))) (Go.bits .or .i64 x10_1 (shl .i64 1 (rd (rd_L3 t773 x11_1) 1))) (wrap64 (x11_1 + 1))) else (none)) else (none)) = some r := by first | (rw [hji14] at H; exact H) | (simp only [hji14] at H ⊢; exact H)
                have hji14_ : (IntKind.i64.wrap (1 * 2 ^ min (ji12).toNat 64)) = ji14 := hji14
                have hji14z : (ji12) ≤ 64 → (IntKind.i64.wrap (1 * 2 ^ (ji12).toNat)) = ji14 := shl_small hji14
                have hji14u : (IntKind.i64.wrap (2 ^ min (ji12).toNat 64)) = ji14 := by have h_ := hji14_; rw [Int.one_mul] at h_; exact h_
                have hji14v : (ji12) ≤ 64 → (IntKind.i64.wrap (2 ^ (ji12).toNat)) = ji14 := fun hle_ => by have h_ := hji14z hle_; rw [Int.one_mul] at h_; exact h_
                have hji14y : (wrap64 (1 * 2 ^ min (ji12).toNat 64)) = ji14 := (i64_w _).symm.trans hji14_
                have hji14x : (ji12) ≤ 64 → (wrap64 (1 * 2 ^ (ji12).toNat)) = ji14 := fun h_ => (i64_w _).symm.trans (hji14z h_)
                by_cases c15 : 0 ≤ (rd (rd_L3 t773 x11_1) 0)
                · rw [if_pos c15] at H
                  have c15b0 := eq_true c15
                  have c15b1 : decide (0 ≤ (rd (rd_L3 t773 x11_1) 0)) = true := decide_eq_true c15
                  clear c15
                  obtain ⟨ji16, hji16⟩ : ∃ j_ : Int, (shl .i64 1 (rd (rd_L3 t773 x11_1) 0)) = j_ := ⟨_, rfl⟩
                  replace H : (if 0 ≤ (rd (rd_L3 t773 x11_1) 1) then (wogglelaw02_TrackGametes.l0 k1 t773 t776 t777 (Go.bits .or .i64 x8_1 (ji14)) (Go.bits .or .i64 x9_1 (ji16)) (Go.bits .or .i64 x10_1 (shl .i64 1 (rd (rd_L3 t773 x11_1) 1))) (wrap64 (x11_1 + 1))) else (none)) = some r := by first | (rw [hji16] at H; exact H) | (simp only [hji16] at H ⊢; exact H)
                  have hji16_ : (IntKind.i64.wrap (1 * 2 ^ min (rd (rd_L3 t773 x11_1) 0).toNat 64)) = ji16 := hji16
                  have hji16z : (rd (rd_L3 t773 x11_1) 0) ≤ 64 → (IntKind.i64.wrap (1 * 2 ^ (rd (rd_L3 t773 x11_1) 0).toNat)) = ji16 := shl_small hji16
                  have hji16u : (IntKind.i64.wrap (2 ^ min (rd (rd_L3 t773 x11_1) 0).toNat 64)) = ji16 := by have h_ := hji16_; rw [Int.one_mul] at h_; exact h_
                  have hji16v : (rd (rd_L3 t773 x11_1) 0) ≤ 64 → (IntKind.i64.wrap (2 ^ (rd (rd_L3 t773 x11_1) 0).toNat)) = ji16 := fun hle_ => by have h_ := hji16z hle_; rw [Int.one_mul] at h_; exact h_
                  have hji16y : (wrap64 (1 * 2 ^ min (rd (rd_L3 t773 x11_1) 0).toNat 64)) = ji16 := (i64_w _).symm.trans hji16_
                  have hji16x : (rd (rd_L3 t773 x11_1) 0) ≤ 64 → (wrap64 (1 * 2 ^ (rd (rd_L3 t773 x11_1) 0).toNat)) = ji16 := fun h_ => (i64_w _).symm.trans (hji16z h_)
                  by_cases c17 : 0 ≤ (rd (rd_L3 t773 x11_1) 1)
                  · rw [if_pos c17] at H
                    have c17b0 := eq_true c17
                    have c17b1 : decide (0 ≤ (rd (rd_L3 t773 x11_1) 1)) = true := decide_eq_true c17
                    clear c17
                    obtain ⟨ji18, hji18⟩ : ∃ j_ : Int, (shl .i64 1 (rd (rd_L3 t773 x11_1) 1)) = j_ := ⟨_, rfl⟩
                    replace H : (wogglelaw02_TrackGametes.l0 k1 t773 t776 t777 (Go.bits .or .i64 x8_1 (ji14)) (Go.bits .or .i64 x9_1 (ji16)) (Go.bits .or .i64 x10_1 (ji18)) (wrap64 (x11_1 + 1))) = some r := by first | (rw [hji18] at H; exact H) | (simp only [hji18] at H ⊢; exact H)
                    have hji18_ : (IntKind.i64.wrap (1 * 2 ^ min (rd (rd_L3 t773 x11_1) 1).toNat 64)) = ji18 := hji18
                    have hji18z : (rd (rd_L3 t773 x11_1) 1) ≤ 64 → (IntKind.i64.wrap (1 * 2 ^ (rd (rd_L3 t773 x11_1) 1).toNat)) = ji18 := shl_small hji18
                    have hji18u : (IntKind.i64.wrap (2 ^ min (rd (rd_L3 t773 x11_1) 1).toNat 64)) = ji18 := by have h_ := hji18_; rw [Int.one_mul] at h_; exact h_
                    have hji18v : (rd (rd_L3 t773 x11_1) 1) ≤ 64 → (IntKind.i64.wrap (2 ^ (rd (rd_L3 t773 x11_1) 1).toNat)) = ji18 := fun hle_ => by have h_ := hji18z hle_; rw [Int.one_mul] at h_; exact h_
                    have hji18y : (wrap64 (1 * 2 ^ min (rd (rd_L3 t773 x11_1) 1).toNat 64)) = ji18 := (i64_w _).symm.trans hji18_
                    have hji18x : (rd (rd_L3 t773 x11_1) 1) ≤ 64 → (wrap64 (1 * 2 ^ (rd (rd_L3 t773 x11_1) 1).toNat)) = ji18 := fun h_ => (i64_w _).symm.trans (hji18z h_)
                    have H' := Aside0.mk H
                    clear H
                    have p778 : 0 ≤ (x11_1 : Int) := of_decide_eq_true (by first | (with_reducible assumption) | assumption)
                    have q778 : x11_1 < (t773.length : Int) := of_decide_eq_true (by first | (with_reducible assumption) | assumption)
                    obtain ⟨ad778, A778_0, c778_0, e778, hx778_0, hl778_0, hi778_0⟩ := at_L3 (Kd.S_reads' HO_5.out).2.2 x11_1 p778 q778
                    cases e778
                    obtain ⟨ce778, hce778, hMe778, hcc778⟩ := Kd.S_get HO_5.out [] x11_1 p778 (by first | exact q778 | exact of_decide_eq_true (by first | (with_reducible assumption) | assumption) | (have e_ := (Kd.S_reads' HO_5.out).1; omega))
                    obtain ⟨ve778_0, rfl, ge778_0⟩ := hMe778
                    have hv778_0 := hcc778 0 _ rfl
                    rw [Nat.add_zero, show ((Kd.slice 3 (Kd.int .i64))).sz = 1 from rfl, Nat.mul_one] at hv778_0
                    replace hv778_0 := Option.some.inj (hv778_0.symm.trans hx778_0)
                    rw [hv778_0] at ge778_0
                    have HL778_0 := Aside0.mk (show Kd.R (Kd.int .i64) 3 _ _ _ _ (rd_L3 t773 x11_1) from ge778_0)
                    clear hv778_0 ge778_0
                    clear hcc778 hce778
                    have HR778_0 := Aside0.mk hi778_0
                    have HC778_0 := Aside0.mk hl778_0
                    clear hi778_0 hl778_0
                    replace p778 := eq_true p778
                    replace q778 := eq_true q778
                    have p779 : 0 ≤ (0 : Int) := (by omega)
                    have q779 : 0 < ((rd_L3 t773 x11_1).length : Int) := of_decide_eq_true (by first | (with_reducible assumption) | assumption)
                    obtain ⟨ad779, e779, hx779_0⟩ := Kd.at_int (by repeat (first | (with_reducible exact HR778_0.out) | (with_reducible refine Kd.C_alloc ?_ _) | (with_reducible refine Kd.C_drewN ?_ _) | (with_reducible refine Kd.C_drew ?_) | exact HR778_0.out | exact (Kd.C_below HR778_0.out HB.out))) 0 p779 q779
                    cases e779
                    have qi779 : (0 < (rd_L3 t773 x11_1).length) = True := eq_true (by omega)
                    (try rw [show ((0 : Int)).toNat = 0 from rfl] at hx779_0)
                    (try rw [Addr.add_zero'] at hx779_0)
                    replace p779 := eq_true p779
                    replace q779 := eq_true q779
                    have p780 : 0 ≤ (x11_1 : Int) := of_decide_eq_true (by first | (with_reducible assumption) | assumption)
                    have q780 : x11_1 < (t773.length : Int) := of_decide_eq_true (by first | (with_reducible assumption) | assumption)
                    obtain ⟨ad780, A780_0, c780_0, e780, hx780_0, hl780_0, hi780_0⟩ := at_L3 (Kd.S_reads' HO_5.out).2.2 x11_1 p780 q780
                    obtain rfl : ad778 = ad780 := (by injection e780)
                    obtain ⟨ce780, hce780, hMe780, hcc780⟩ := Kd.S_get HO_5.out [] x11_1 p780 (by first | exact q780 | exact of_decide_eq_true (by first | (with_reducible assumption) | assumption) | (have e_ := (Kd.S_reads' HO_5.out).1; omega))
                    obtain ⟨ve780_0, rfl, ge780_0⟩ := hMe780
                    have hv780_0 := hcc780 0 _ rfl
                    rw [Nat.add_zero, show ((Kd.slice 3 (Kd.int .i64))).sz = 1 from rfl, Nat.mul_one] at hv780_0
                    replace hv780_0 := Option.some.inj (hv780_0.symm.trans hx780_0)
                    rw [hv780_0] at ge780_0
                    have HL780_0 := Aside0.mk (show Kd.R (Kd.int .i64) 3 _ _ _ _ (rd_L3 t773 x11_1) from ge780_0)
                    clear hv780_0 ge780_0
                    clear hcc780 hce780
                    have HR780_0 := Aside0.mk hi780_0
                    have HC780_0 := Aside0.mk hl780_0
                    clear hi780_0 hl780_0
                    replace p780 := eq_true p780
                    replace q780 := eq_true q780
                    have ea_ := Option.some.inj (hx778_0.symm.trans hx780_0)
                    injection ea_ with ea_ en_ ec_
                    subst ea_
                    subst ec_
                    clear en_
                    have p781 : 0 ≤ (1 : Int) := (by omega)
                    have q781 : 1 < ((rd_L3 t773 x11_1).length : Int) := of_decide_eq_true (by first | (with_reducible assumption) | assumption)
                    obtain ⟨ad781, e781, hx781_0⟩ := Kd.at_int (by repeat (first | (with_reducible exact HR780_0.out) | (with_reducible refine Kd.C_alloc ?_ _) | (with_reducible refine Kd.C_drewN ?_ _) | (with_reducible refine Kd.C_drew ?_) | exact HR780_0.out | exact (Kd.C_below HR780_0.out HB.out))) 1 p781 q781
                    cases e781
                    (try simp only [show (1 : Int).toNat = 1 from rfl, Nat.reduceMul, Nat.reduceEqDiff, Go.Addr.add, ↓reduceIte] at hx781_0)
                    have qi781 : (1 < (rd_L3 t773 x11_1).length) = True := eq_true (by omega)
                    (try rw [show ((1 : Int)).toNat = 1 from rfl] at hx781_0)
                    replace p781 := eq_true p781
                    replace q781 := eq_true q781
                    have p782 : 0 ≤ (x11_1 : Int) := of_decide_eq_true (by first | (with_reducible assumption) | assumption)
                    have q782 : x11_1 < (t773.length : Int) := of_decide_eq_true (by first | (with_reducible assumption) | assumption)
                    obtain ⟨ad782, A782_0, c782_0, e782, hx782_0, hl782_0, hi782_0⟩ := at_L3 (Kd.S_reads' HO_5.out).2.2 x11_1 p782 q782
                    obtain rfl : ad778 = ad782 := (by injection e782)
                    obtain ⟨ce782, hce782, hMe782, hcc782⟩ := Kd.S_get HO_5.out [] x11_1 p782 (by first | exact q782 | exact of_decide_eq_true (by first | (with_reducible assumption) | assumption) | (have e_ := (Kd.S_reads' HO_5.out).1; omega))
                    obtain ⟨ve782_0, rfl, ge782_0⟩ := hMe782
                    have hv782_0 := hcc782 0 _ rfl
                    rw [Nat.add_zero, show ((Kd.slice 3 (Kd.int .i64))).sz = 1 from rfl, Nat.mul_one] at hv782_0
                    replace hv782_0 := Option.some.inj (hv782_0.symm.trans hx782_0)
                    rw [hv782_0] at ge782_0
                    have HL782_0 := Aside0.mk (show Kd.R (Kd.int .i64) 3 _ _ _ _ (rd_L3 t773 x11_1) from ge782_0)
                    clear hv782_0 ge782_0
                    clear hcc782 hce782
                    have HR782_0 := Aside0.mk hi782_0
                    have HC782_0 := Aside0.mk hl782_0
                    clear hi782_0 hl782_0
                    replace p782 := eq_true p782
                    replace q782 := eq_true q782
                    have ea_ := Option.some.inj (hx778_0.symm.trans hx782_0)
                    injection ea_ with ea_ en_ ec_
                    subst ea_
                    subst ec_
                    clear en_
                    have p783 : 0 ≤ (0 : Int) := (by omega)
                    have q783 : 0 < ((rd_L3 t773 x11_1).length : Int) := of_decide_eq_true (by first | (with_reducible assumption) | assumption)
                    obtain ⟨ad783, e783, hx783_0⟩ := Kd.at_int (by repeat (first | (with_reducible exact HR782_0.out) | (with_reducible refine Kd.C_alloc ?_ _) | (with_reducible refine Kd.C_drewN ?_ _) | (with_reducible refine Kd.C_drew ?_) | exact HR782_0.out | exact (Kd.C_below HR782_0.out HB.out))) 0 p783 q783
                    cases e783
                    have qi783 : (0 < (rd_L3 t773 x11_1).length) = True := eq_true (by omega)
                    (try rw [show ((0 : Int)).toNat = 0 from rfl] at hx783_0)
                    (try rw [Addr.add_zero'] at hx783_0)
                    replace p783 := eq_true p783
                    replace q783 := eq_true q783
                    have p784 : 0 ≤ (x11_1 : Int) := of_decide_eq_true (by first | (with_reducible assumption) | assumption)
                    have q784 : x11_1 < (t773.length : Int) := of_decide_eq_true (by first | (with_reducible assumption) | assumption)
                    obtain ⟨ad784, A784_0, c784_0, e784, hx784_0, hl784_0, hi784_0⟩ := at_L3 (Kd.S_reads' HO_5.out).2.2 x11_1 p784 q784
                    obtain rfl : ad778 = ad784 := (by injection e784)
                    obtain ⟨ce784, hce784, hMe784, hcc784⟩ := Kd.S_get HO_5.out [] x11_1 p784 (by first | exact q784 | exact of_decide_eq_true (by first | (with_reducible assumption) | assumption) | (have e_ := (Kd.S_reads' HO_5.out).1; omega))
                    obtain ⟨ve784_0, rfl, ge784_0⟩ := hMe784
                    have hv784_0 := hcc784 0 _ rfl
                    rw [Nat.add_zero, show ((Kd.slice 3 (Kd.int .i64))).sz = 1 from rfl, Nat.mul_one] at hv784_0
                    replace hv784_0 := Option.some.inj (hv784_0.symm.trans hx784_0)
                    rw [hv784_0] at ge784_0
                    have HL784_0 := Aside0.mk (show Kd.R (Kd.int .i64) 3 _ _ _ _ (rd_L3 t773 x11_1) from ge784_0)
                    clear hv784_0 ge784_0
                    clear hcc784 hce784
                    have HR784_0 := Aside0.mk hi784_0
                    have HC784_0 := Aside0.mk hl784_0
                    clear hi784_0 hl784_0
                    replace p784 := eq_true p784
                    replace q784 := eq_true q784
                    have ea_ := Option.some.inj (hx778_0.symm.trans hx784_0)
                    injection ea_ with ea_ en_ ec_
                    subst ea_
                    subst ec_
                    clear en_
                    have p785 : 0 ≤ (1 : Int) := (by omega)
                    have q785 : 1 < ((rd_L3 t773 x11_1).length : Int) := of_decide_eq_true (by first | (with_reducible assumption) | assumption)
                    obtain ⟨ad785, e785, hx785_0⟩ := Kd.at_int (by repeat (first | (with_reducible exact HR784_0.out) | (with_reducible refine Kd.C_alloc ?_ _) | (with_reducible refine Kd.C_drewN ?_ _) | (with_reducible refine Kd.C_drew ?_) | exact HR784_0.out | exact (Kd.C_below HR784_0.out HB.out))) 1 p785 q785
                    cases e785
                    (try simp only [show (1 : Int).toNat = 1 from rfl, Nat.reduceMul, Nat.reduceEqDiff, Go.Addr.add, ↓reduceIte] at hx785_0)
                    have qi785 : (1 < (rd_L3 t773 x11_1).length) = True := eq_true (by omega)
                    (try rw [show ((1 : Int)).toNat = 1 from rfl] at hx785_0)
                    replace p785 := eq_true p785
                    replace q785 := eq_true q785
                    go_wp2
                    repeat (go_quiet (fail); try go_wp2)
                    go_roundg k1
                    case measure => have := HK1.out; omega
                    case rel => exact ⟨(Go.bits .or .i64 x8_1 (ji14)), (Go.bits .or .i64 x9_1 (ji16)), (Go.bits .or .i64 x10_1 (ji18)), (wrap64 (x11_1 + 1)), (by first | rfl | (simp; done) | (simp only [← hji14] <;> (first | rfl | simp)) | (simp [*]; done)), (by first | rfl | (simp; done) | (simp only [← hji16] <;> (first | rfl | simp)) | (simp [*]; done)), (by first | rfl | (simp; done) | (simp only [← hji18] <;> (first | rfl | simp)) | (simp [*]; done)), (by first | rfl | (simp; done) | (simp [*]; done)), H', ⟨by have := HK1.out; omega⟩, ⟨by (with_reducible repeat (first | apply Kd.S_alloc | apply Kd.S_drewN | apply Kd.S_drew)); exact HO_5.out⟩, ⟨by repeat (first | (with_reducible first | exact HB.out | apply below_alloc | apply pw_below_drewN | apply below_drew1) | exact HB.out)⟩⟩
                  · rw [if_neg c17] at H
                    exact absurd H (by simp)
                · rw [if_neg c15] at H
                  exact absurd H (by simp)
              · rw [if_neg c13] at H
                exact absurd H (by simp)
            · rw [if_neg c11] at H
              exact absurd H (by simp)
          · rw [if_neg c10] at H
            exact absurd H (by simp)
        · rw [if_neg c9] at H
          exact absurd H (by simp)
      · rw [if_neg c8] at H
        have c8b0 : decide (x11_1 < (t773.length : Int)) = false := decide_eq_false c8
        clear c8
        replace H := Option.bind_eq_some_iff.mp H
        obtain ⟨t786, A190, H⟩ := H
        replace H : ((woggleref01_Members.f k1 x10_1).bind fun t789 => (if t777 = 0 then (if x8_1 = 15 then (if t776 > (wrap64 ((wrap64 ((t786.length : Int) + (t789.length : Int))) - 2)) then ((wogglelaw02_lives.f k1).bind fun t792 => (some t792)) else (if x8_1 < 15 then (if t776 = (wrap64 ((wrap64 ((t786.length : Int) + (t789.length : Int))) - 2)) then ((wogglelaw02_lives.f k1).bind fun t793 => (some t793)) else (some false)) else (some false))) else (if x8_1 < 15 then (if t776 = (wrap64 ((wrap64 ((t786.length : Int) + (t789.length : Int))) - 2)) then ((wogglelaw02_lives.f k1).bind fun t794 => (some t794)) else (some false)) else (some false))) else (some false))) = some r := H
        have A19 := Aside0.mk A190
        clear A190
        replace H := Option.bind_eq_some_iff.mp H
        obtain ⟨t789, A200, H⟩ := H
        replace H : (if t777 = 0 then (if x8_1 = 15 then (if t776 > (wrap64 ((wrap64 ((t786.length : Int) + (t789.length : Int))) - 2)) then ((wogglelaw02_lives.f k1).bind fun t792 => (some t792)) else (if x8_1 < 15 then (if t776 = (wrap64 ((wrap64 ((t786.length : Int) + (t789.length : Int))) - 2)) then ((wogglelaw02_lives.f k1).bind fun t793 => (some t793)) else (some false)) else (some false))) else (if x8_1 < 15 then (if t776 = (wrap64 ((wrap64 ((t786.length : Int) + (t789.length : Int))) - 2)) then ((wogglelaw02_lives.f k1).bind fun t794 => (some t794)) else (some false)) else (some false))) else (some false)) = some r := H
        have A20 := Aside0.mk A200
        clear A200
        by_cases c21 : t777 = 0
        · rw [if_pos c21] at H
          have c21b0 : (t777 == 0) = true := beq_iff_eq.mpr c21
          have c21b1 : (t777 != 0) = false := bne_eq_false_iff_eq.mpr c21
          clear c21
          by_cases c22 : x8_1 = 15
          · rw [if_pos c22] at H
            have c22b0 : (x8_1 == 15) = true := beq_iff_eq.mpr c22
            have c22b1 : (x8_1 != 15) = false := bne_eq_false_iff_eq.mpr c22
            clear c22
            by_cases c23 : t776 > (wrap64 ((wrap64 ((t786.length : Int) + (t789.length : Int))) - 2))
            · rw [if_pos c23] at H
              have c23b0 : decide ((wrap64 ((wrap64 ((t786.length : Int) + (t789.length : Int))) - 2)) < t776) = true := decide_eq_true c23
              clear c23
              replace H := Option.bind_eq_some_iff.mp H
              obtain ⟨t792, A240, H⟩ := H
              replace H : (some t792) = some r := H
              have A24 := Aside0.mk A240
              clear A240
              obtain rfl := Option.some.inj H
              go_wp2_with (first | (go_at_call 24; (with_reducible refine (woggleref01_Members.calls k1 x9_1 t786 _ A19.out).mono ?_); rintro e w25 ⟨v787, rfl, ho0, hb⟩; have n0_ := Aside0.mk (Kd.S_elder' (by (with_reducible repeat (first | apply Kd.S_alloc | apply Kd.S_drewN | apply Kd.S_drew)); exact HO_5.out) (Kd.R_base ho0) hb); have n1_ := Aside0.mk (Kd.R_lower ho0 (below_size (by repeat (first | (with_reducible first | exact HB.out | apply below_alloc | apply pw_below_drewN | apply below_drew1) | exact HB.out)))); have n2_ := Aside0.mk (below_step (by repeat (first | (with_reducible first | exact HB.out | apply below_alloc | apply pw_below_drewN | apply below_drew1) | exact HB.out)) hb); clear HO_5; clear HB; have HO_5 := n0_; have HO788 := n1_; have HB := n2_; clear n0_ n1_ n2_; (try clear hb); (try clear hb2); (try clear hk); (try clear hi); (try clear ho0); obtain ⟨Ao26, co26, eo26⟩ := Kd.R_slice HO788.out; subst eo26) | (go_at_call 24; (with_reducible refine (woggleref01_Members.calls k1 x10_1 t789 _ A20.out).mono ?_); rintro e w27 ⟨v790, rfl, ho0, hb⟩; have n0_ := Aside0.mk (Kd.S_elder' (by (with_reducible repeat (first | apply Kd.S_alloc | apply Kd.S_drewN | apply Kd.S_drew)); exact HO_5.out) (Kd.R_base ho0) hb); have n1_ := Aside0.mk (Kd.R_elder' (by (with_reducible repeat (first | apply Kd.R_alloc | apply Kd.R_drewN | apply Kd.R_drew)); exact HO788.out) (Kd.R_base ho0) hb); have n2_ := Aside0.mk (Kd.R_lower (Kd.R_new' ho0 (Kd.R_lt (by (with_reducible repeat (first | apply Kd.R_alloc | apply Kd.R_drewN | apply Kd.R_drew)); exact HO788.out))) (below_size (by repeat (first | (with_reducible first | exact HB.out | apply below_alloc | apply pw_below_drewN | apply below_drew1) | exact HB.out)))); have n3_ := Aside0.mk (below_step (by repeat (first | (with_reducible first | exact HB.out | apply below_alloc | apply pw_below_drewN | apply below_drew1) | exact HB.out)) hb); clear HO_5; clear HO788; clear HB; have HO_5 := n0_; have HO788 := n1_; have HO791 := n2_; have HB := n3_; clear n0_ n1_ n2_ n3_; (try clear hb); (try clear hb2); (try clear hk); (try clear hi); (try clear ho0); obtain ⟨Ao28, co28, eo28⟩ := Kd.R_slice HO791.out; subst eo28) | (go_at_call 22; (with_reducible refine (wogglelaw02_lives.calls k1  t792 _ A24.out).mono ?_); rintro e w29 ⟨rfl, hb⟩; have n0_ := Aside0.mk (Kd.S_below (by (with_reducible repeat (first | apply Kd.S_alloc | apply Kd.S_drewN | apply Kd.S_drew)); exact HO_5.out) hb); have n1_ := Aside0.mk (Kd.R_below (by (with_reducible repeat (first | apply Kd.R_alloc | apply Kd.R_drewN | apply Kd.R_drew)); exact HO788.out) hb); have n2_ := Aside0.mk (Kd.R_below (by (with_reducible repeat (first | apply Kd.R_alloc | apply Kd.R_drewN | apply Kd.R_drew)); exact HO791.out) hb); have n3_ := Aside0.mk (below_step (by repeat (first | (with_reducible first | exact HB.out | apply below_alloc | apply pw_below_drewN | apply below_drew1) | exact HB.out)) hb); clear HO_5; clear HO788; clear HO791; clear HB; have HO_5 := n0_; have HO788 := n1_; have HO791 := n2_; have HB := n3_; clear n0_ n1_ n2_ n3_; (try clear hb); (try clear hb2); (try clear hk); (try clear hi)))
              repeat (go_quiet (first | (go_at_call 24; (with_reducible refine (woggleref01_Members.calls k1 x9_1 t786 _ A19.out).mono ?_); rintro e w25 ⟨v787, rfl, ho0, hb⟩; have n0_ := Aside0.mk (Kd.S_elder' (by (with_reducible repeat (first | apply Kd.S_alloc | apply Kd.S_drewN | apply Kd.S_drew)); exact HO_5.out) (Kd.R_base ho0) hb); have n1_ := Aside0.mk (Kd.R_lower ho0 (below_size (by repeat (first | (with_reducible first | exact HB.out | apply below_alloc | apply pw_below_drewN | apply below_drew1) | exact HB.out)))); have n2_ := Aside0.mk (below_step (by repeat (first | (with_reducible first | exact HB.out | apply below_alloc | apply pw_below_drewN | apply below_drew1) | exact HB.out)) hb); clear HO_5; clear HB; have HO_5 := n0_; have HO788 := n1_; have HB := n2_; clear n0_ n1_ n2_; (try clear hb); (try clear hb2); (try clear hk); (try clear hi); (try clear ho0); obtain ⟨Ao26, co26, eo26⟩ := Kd.R_slice HO788.out; subst eo26) | (go_at_call 24; (with_reducible refine (woggleref01_Members.calls k1 x10_1 t789 _ A20.out).mono ?_); rintro e w27 ⟨v790, rfl, ho0, hb⟩; have n0_ := Aside0.mk (Kd.S_elder' (by (with_reducible repeat (first | apply Kd.S_alloc | apply Kd.S_drewN | apply Kd.S_drew)); exact HO_5.out) (Kd.R_base ho0) hb); have n1_ := Aside0.mk (Kd.R_elder' (by (with_reducible repeat (first | apply Kd.R_alloc | apply Kd.R_drewN | apply Kd.R_drew)); exact HO788.out) (Kd.R_base ho0) hb); have n2_ := Aside0.mk (Kd.R_lower (Kd.R_new' ho0 (Kd.R_lt (by (with_reducible repeat (first | apply Kd.R_alloc | apply Kd.R_drewN | apply Kd.R_drew)); exact HO788.out))) (below_size (by repeat (first | (with_reducible first | exact HB.out | apply below_alloc | apply pw_below_drewN | apply below_drew1) | exact HB.out)))); have n3_ := Aside0.mk (below_step (by repeat (first | (with_reducible first | exact HB.out | apply below_alloc | apply pw_below_drewN | apply below_drew1) | exact HB.out)) hb); clear HO_5; clear HO788; clear HB; have HO_5 := n0_; have HO788 := n1_; have HO791 := n2_; have HB := n3_; clear n0_ n1_ n2_ n3_; (try clear hb); (try clear hb2); (try clear hk); (try clear hi); (try clear ho0); obtain ⟨Ao28, co28, eo28⟩ := Kd.R_slice HO791.out; subst eo28) | (go_at_call 22; (with_reducible refine (wogglelaw02_lives.calls k1  t792 _ A24.out).mono ?_); rintro e w29 ⟨rfl, hb⟩; have n0_ := Aside0.mk (Kd.S_below (by (with_reducible repeat (first | apply Kd.S_alloc | apply Kd.S_drewN | apply Kd.S_drew)); exact HO_5.out) hb); have n1_ := Aside0.mk (Kd.R_below (by (with_reducible repeat (first | apply Kd.R_alloc | apply Kd.R_drewN | apply Kd.R_drew)); exact HO788.out) hb); have n2_ := Aside0.mk (Kd.R_below (by (with_reducible repeat (first | apply Kd.R_alloc | apply Kd.R_drewN | apply Kd.R_drew)); exact HO791.out) hb); have n3_ := Aside0.mk (below_step (by repeat (first | (with_reducible first | exact HB.out | apply below_alloc | apply pw_below_drewN | apply below_drew1) | exact HB.out)) hb); clear HO_5; clear HO788; clear HO791; clear HB; have HO_5 := n0_; have HO788 := n1_; have HO791 := n2_; have HB := n3_; clear n0_ n1_ n2_ n3_; (try clear hb); (try clear hb2); (try clear hk); (try clear hi))); try go_wp2_with (first | (go_at_call 24; (with_reducible refine (woggleref01_Members.calls k1 x9_1 t786 _ A19.out).mono ?_); rintro e w25 ⟨v787, rfl, ho0, hb⟩; have n0_ := Aside0.mk (Kd.S_elder' (by (with_reducible repeat (first | apply Kd.S_alloc | apply Kd.S_drewN | apply Kd.S_drew)); exact HO_5.out) (Kd.R_base ho0) hb); have n1_ := Aside0.mk (Kd.R_lower ho0 (below_size (by repeat (first | (with_reducible first | exact HB.out | apply below_alloc | apply pw_below_drewN | apply below_drew1) | exact HB.out)))); have n2_ := Aside0.mk (below_step (by repeat (first | (with_reducible first | exact HB.out | apply below_alloc | apply pw_below_drewN | apply below_drew1) | exact HB.out)) hb); clear HO_5; clear HB; have HO_5 := n0_; have HO788 := n1_; have HB := n2_; clear n0_ n1_ n2_; (try clear hb); (try clear hb2); (try clear hk); (try clear hi); (try clear ho0); obtain ⟨Ao26, co26, eo26⟩ := Kd.R_slice HO788.out; subst eo26) | (go_at_call 24; (with_reducible refine (woggleref01_Members.calls k1 x10_1 t789 _ A20.out).mono ?_); rintro e w27 ⟨v790, rfl, ho0, hb⟩; have n0_ := Aside0.mk (Kd.S_elder' (by (with_reducible repeat (first | apply Kd.S_alloc | apply Kd.S_drewN | apply Kd.S_drew)); exact HO_5.out) (Kd.R_base ho0) hb); have n1_ := Aside0.mk (Kd.R_elder' (by (with_reducible repeat (first | apply Kd.R_alloc | apply Kd.R_drewN | apply Kd.R_drew)); exact HO788.out) (Kd.R_base ho0) hb); have n2_ := Aside0.mk (Kd.R_lower (Kd.R_new' ho0 (Kd.R_lt (by (with_reducible repeat (first | apply Kd.R_alloc | apply Kd.R_drewN | apply Kd.R_drew)); exact HO788.out))) (below_size (by repeat (first | (with_reducible first | exact HB.out | apply below_alloc | apply pw_below_drewN | apply below_drew1) | exact HB.out)))); have n3_ := Aside0.mk (below_step (by repeat (first | (with_reducible first | exact HB.out | apply below_alloc | apply pw_below_drewN | apply below_drew1) | exact HB.out)) hb); clear HO_5; clear HO788; clear HB; have HO_5 := n0_; have HO788 := n1_; have HO791 := n2_; have HB := n3_; clear n0_ n1_ n2_ n3_; (try clear hb); (try clear hb2); (try clear hk); (try clear hi); (try clear ho0); obtain ⟨Ao28, co28, eo28⟩ := Kd.R_slice HO791.out; subst eo28) | (go_at_call 22; (with_reducible refine (wogglelaw02_lives.calls k1  t792 _ A24.out).mono ?_); rintro e w29 ⟨rfl, hb⟩; have n0_ := Aside0.mk (Kd.S_below (by (with_reducible repeat (first | apply Kd.S_alloc | apply Kd.S_drewN | apply Kd.S_drew)); exact HO_5.out) hb); have n1_ := Aside0.mk (Kd.R_below (by (with_reducible repeat (first | apply Kd.R_alloc | apply Kd.R_drewN | apply Kd.R_drew)); exact HO788.out) hb); have n2_ := Aside0.mk (Kd.R_below (by (with_reducible repeat (first | apply Kd.R_alloc | apply Kd.R_drewN | apply Kd.R_drew)); exact HO791.out) hb); have n3_ := Aside0.mk (below_step (by repeat (first | (with_reducible first | exact HB.out | apply below_alloc | apply pw_below_drewN | apply below_drew1) | exact HB.out)) hb); clear HO_5; clear HO788; clear HO791; clear HB; have HO_5 := n0_; have HO788 := n1_; have HO791 := n2_; have HB := n3_; clear n0_ n1_ n2_ n3_; (try clear hb); (try clear hb2); (try clear hk); (try clear hi))))
              go_ret
              exact ⟨by first | rfl | (simp [errW_none, errW_some] <;> rfl) | (simp [*, errW_none, errW_some] <;> rfl), by repeat (first | (with_reducible first | exact HB.out | apply below_alloc | apply pw_below_drewN | apply below_drew1) | exact HB.out)⟩
            · rw [if_neg c23] at H
              have c23b0 : decide ((wrap64 ((wrap64 ((t786.length : Int) + (t789.length : Int))) - 2)) < t776) = false := decide_eq_false c23
              clear c23
              by_cases c30 : x8_1 < 15
              · rw [if_pos c30] at H
                have c30b0 : decide (x8_1 < 15) = true := decide_eq_true c30
                clear c30
                by_cases c31 : t776 = (wrap64 ((wrap64 ((t786.length : Int) + (t789.length : Int))) - 2))
                · rw [if_pos c31] at H
                  have c31b0 : (t776 == (wrap64 ((wrap64 ((t786.length : Int) + (t789.length : Int))) - 2))) = true := beq_iff_eq.mpr c31
                  have c31b1 : (t776 != (wrap64 ((wrap64 ((t786.length : Int) + (t789.length : Int))) - 2))) = false := bne_eq_false_iff_eq.mpr c31
                  clear c31
                  replace H := Option.bind_eq_some_iff.mp H
                  obtain ⟨t793, A320, H⟩ := H
                  replace H : (some t793) = some r := H
                  have A32 := Aside0.mk A320
                  clear A320
                  obtain rfl := Option.some.inj H
                  go_wp2_with (first | (go_at_call 24; (with_reducible refine (woggleref01_Members.calls k1 x9_1 t786 _ A19.out).mono ?_); rintro e w33 ⟨v787, rfl, ho0, hb⟩; have n0_ := Aside0.mk (Kd.S_elder' (by (with_reducible repeat (first | apply Kd.S_alloc | apply Kd.S_drewN | apply Kd.S_drew)); exact HO_5.out) (Kd.R_base ho0) hb); have n1_ := Aside0.mk (Kd.R_lower ho0 (below_size (by repeat (first | (with_reducible first | exact HB.out | apply below_alloc | apply pw_below_drewN | apply below_drew1) | exact HB.out)))); have n2_ := Aside0.mk (below_step (by repeat (first | (with_reducible first | exact HB.out | apply below_alloc | apply pw_below_drewN | apply below_drew1) | exact HB.out)) hb); clear HO_5; clear HB; have HO_5 := n0_; have HO788 := n1_; have HB := n2_; clear n0_ n1_ n2_; (try clear hb); (try clear hb2); (try clear hk); (try clear hi); (try clear ho0); obtain ⟨Ao34, co34, eo34⟩ := Kd.R_slice HO788.out; subst eo34) | (go_at_call 24; (with_reducible refine (woggleref01_Members.calls k1 x10_1 t789 _ A20.out).mono ?_); rintro e w35 ⟨v790, rfl, ho0, hb⟩; have n0_ := Aside0.mk (Kd.S_elder' (by (with_reducible repeat (first | apply Kd.S_alloc | apply Kd.S_drewN | apply Kd.S_drew)); exact HO_5.out) (Kd.R_base ho0) hb); have n1_ := Aside0.mk (Kd.R_elder' (by (with_reducible repeat (first | apply Kd.R_alloc | apply Kd.R_drewN | apply Kd.R_drew)); exact HO788.out) (Kd.R_base ho0) hb); have n2_ := Aside0.mk (Kd.R_lower (Kd.R_new' ho0 (Kd.R_lt (by (with_reducible repeat (first | apply Kd.R_alloc | apply Kd.R_drewN | apply Kd.R_drew)); exact HO788.out))) (below_size (by repeat (first | (with_reducible first | exact HB.out | apply below_alloc | apply pw_below_drewN | apply below_drew1) | exact HB.out)))); have n3_ := Aside0.mk (below_step (by repeat (first | (with_reducible first | exact HB.out | apply below_alloc | apply pw_below_drewN | apply below_drew1) | exact HB.out)) hb); clear HO_5; clear HO788; clear HB; have HO_5 := n0_; have HO788 := n1_; have HO791 := n2_; have HB := n3_; clear n0_ n1_ n2_ n3_; (try clear hb); (try clear hb2); (try clear hk); (try clear hi); (try clear ho0); obtain ⟨Ao36, co36, eo36⟩ := Kd.R_slice HO791.out; subst eo36) | (go_at_call 22; (with_reducible refine (wogglelaw02_lives.calls k1  t793 _ A32.out).mono ?_); rintro e w37 ⟨rfl, hb⟩; have n0_ := Aside0.mk (Kd.S_below (by (with_reducible repeat (first | apply Kd.S_alloc | apply Kd.S_drewN | apply Kd.S_drew)); exact HO_5.out) hb); have n1_ := Aside0.mk (Kd.R_below (by (with_reducible repeat (first | apply Kd.R_alloc | apply Kd.R_drewN | apply Kd.R_drew)); exact HO788.out) hb); have n2_ := Aside0.mk (Kd.R_below (by (with_reducible repeat (first | apply Kd.R_alloc | apply Kd.R_drewN | apply Kd.R_drew)); exact HO791.out) hb); have n3_ := Aside0.mk (below_step (by repeat (first | (with_reducible first | exact HB.out | apply below_alloc | apply pw_below_drewN | apply below_drew1) | exact HB.out)) hb); clear HO_5; clear HO788; clear HO791; clear HB; have HO_5 := n0_; have HO788 := n1_; have HO791 := n2_; have HB := n3_; clear n0_ n1_ n2_ n3_; (try clear hb); (try clear hb2); (try clear hk); (try clear hi)))
                  repeat (go_quiet (first | (go_at_call 24; (with_reducible refine (woggleref01_Members.calls k1 x9_1 t786 _ A19.out).mono ?_); rintro e w33 ⟨v787, rfl, ho0, hb⟩; have n0_ := Aside0.mk (Kd.S_elder' (by (with_reducible repeat (first | apply Kd.S_alloc | apply Kd.S_drewN | apply Kd.S_drew)); exact HO_5.out) (Kd.R_base ho0) hb); have n1_ := Aside0.mk (Kd.R_lower ho0 (below_size (by repeat (first | (with_reducible first | exact HB.out | apply below_alloc | apply pw_below_drewN | apply below_drew1) | exact HB.out)))); have n2_ := Aside0.mk (below_step (by repeat (first | (with_reducible first | exact HB.out | apply below_alloc | apply pw_below_drewN | apply below_drew1) | exact HB.out)) hb); clear HO_5; clear HB; have HO_5 := n0_; have HO788 := n1_; have HB := n2_; clear n0_ n1_ n2_; (try clear hb); (try clear hb2); (try clear hk); (try clear hi); (try clear ho0); obtain ⟨Ao34, co34, eo34⟩ := Kd.R_slice HO788.out; subst eo34) | (go_at_call 24; (with_reducible refine (woggleref01_Members.calls k1 x10_1 t789 _ A20.out).mono ?_); rintro e w35 ⟨v790, rfl, ho0, hb⟩; have n0_ := Aside0.mk (Kd.S_elder' (by (with_reducible repeat (first | apply Kd.S_alloc | apply Kd.S_drewN | apply Kd.S_drew)); exact HO_5.out) (Kd.R_base ho0) hb); have n1_ := Aside0.mk (Kd.R_elder' (by (with_reducible repeat (first | apply Kd.R_alloc | apply Kd.R_drewN | apply Kd.R_drew)); exact HO788.out) (Kd.R_base ho0) hb); have n2_ := Aside0.mk (Kd.R_lower (Kd.R_new' ho0 (Kd.R_lt (by (with_reducible repeat (first | apply Kd.R_alloc | apply Kd.R_drewN | apply Kd.R_drew)); exact HO788.out))) (below_size (by repeat (first | (with_reducible first | exact HB.out | apply below_alloc | apply pw_below_drewN | apply below_drew1) | exact HB.out)))); have n3_ := Aside0.mk (below_step (by repeat (first | (with_reducible first | exact HB.out | apply below_alloc | apply pw_below_drewN | apply below_drew1) | exact HB.out)) hb); clear HO_5; clear HO788; clear HB; have HO_5 := n0_; have HO788 := n1_; have HO791 := n2_; have HB := n3_; clear n0_ n1_ n2_ n3_; (try clear hb); (try clear hb2); (try clear hk); (try clear hi); (try clear ho0); obtain ⟨Ao36, co36, eo36⟩ := Kd.R_slice HO791.out; subst eo36) | (go_at_call 22; (with_reducible refine (wogglelaw02_lives.calls k1  t793 _ A32.out).mono ?_); rintro e w37 ⟨rfl, hb⟩; have n0_ := Aside0.mk (Kd.S_below (by (with_reducible repeat (first | apply Kd.S_alloc | apply Kd.S_drewN | apply Kd.S_drew)); exact HO_5.out) hb); have n1_ := Aside0.mk (Kd.R_below (by (with_reducible repeat (first | apply Kd.R_alloc | apply Kd.R_drewN | apply Kd.R_drew)); exact HO788.out) hb); have n2_ := Aside0.mk (Kd.R_below (by (with_reducible repeat (first | apply Kd.R_alloc | apply Kd.R_drewN | apply Kd.R_drew)); exact HO791.out) hb); have n3_ := Aside0.mk (below_step (by repeat (first | (with_reducible first | exact HB.out | apply below_alloc | apply pw_below_drewN | apply below_drew1) | exact HB.out)) hb); clear HO_5; clear HO788; clear HO791; clear HB; have HO_5 := n0_; have HO788 := n1_; have HO791 := n2_; have HB := n3_; clear n0_ n1_ n2_ n3_; (try clear hb); (try clear hb2); (try clear hk); (try clear hi))); try go_wp2_with (first | (go_at_call 24; (with_reducible refine (woggleref01_Members.calls k1 x9_1 t786 _ A19.out).mono ?_); rintro e w33 ⟨v787, rfl, ho0, hb⟩; have n0_ := Aside0.mk (Kd.S_elder' (by (with_reducible repeat (first | apply Kd.S_alloc | apply Kd.S_drewN | apply Kd.S_drew)); exact HO_5.out) (Kd.R_base ho0) hb); have n1_ := Aside0.mk (Kd.R_lower ho0 (below_size (by repeat (first | (with_reducible first | exact HB.out | apply below_alloc | apply pw_below_drewN | apply below_drew1) | exact HB.out)))); have n2_ := Aside0.mk (below_step (by repeat (first | (with_reducible first | exact HB.out | apply below_alloc | apply pw_below_drewN | apply below_drew1) | exact HB.out)) hb); clear HO_5; clear HB; have HO_5 := n0_; have HO788 := n1_; have HB := n2_; clear n0_ n1_ n2_; (try clear hb); (try clear hb2); (try clear hk); (try clear hi); (try clear ho0); obtain ⟨Ao34, co34, eo34⟩ := Kd.R_slice HO788.out; subst eo34) | (go_at_call 24; (with_reducible refine (woggleref01_Members.calls k1 x10_1 t789 _ A20.out).mono ?_); rintro e w35 ⟨v790, rfl, ho0, hb⟩; have n0_ := Aside0.mk (Kd.S_elder' (by (with_reducible repeat (first | apply Kd.S_alloc | apply Kd.S_drewN | apply Kd.S_drew)); exact HO_5.out) (Kd.R_base ho0) hb); have n1_ := Aside0.mk (Kd.R_elder' (by (with_reducible repeat (first | apply Kd.R_alloc | apply Kd.R_drewN | apply Kd.R_drew)); exact HO788.out) (Kd.R_base ho0) hb); have n2_ := Aside0.mk (Kd.R_lower (Kd.R_new' ho0 (Kd.R_lt (by (with_reducible repeat (first | apply Kd.R_alloc | apply Kd.R_drewN | apply Kd.R_drew)); exact HO788.out))) (below_size (by repeat (first | (with_reducible first | exact HB.out | apply below_alloc | apply pw_below_drewN | apply below_drew1) | exact HB.out)))); have n3_ := Aside0.mk (below_step (by repeat (first | (with_reducible first | exact HB.out | apply below_alloc | apply pw_below_drewN | apply below_drew1) | exact HB.out)) hb); clear HO_5; clear HO788; clear HB; have HO_5 := n0_; have HO788 := n1_; have HO791 := n2_; have HB := n3_; clear n0_ n1_ n2_ n3_; (try clear hb); (try clear hb2); (try clear hk); (try clear hi); (try clear ho0); obtain ⟨Ao36, co36, eo36⟩ := Kd.R_slice HO791.out; subst eo36) | (go_at_call 22; (with_reducible refine (wogglelaw02_lives.calls k1  t793 _ A32.out).mono ?_); rintro e w37 ⟨rfl, hb⟩; have n0_ := Aside0.mk (Kd.S_below (by (with_reducible repeat (first | apply Kd.S_alloc | apply Kd.S_drewN | apply Kd.S_drew)); exact HO_5.out) hb); have n1_ := Aside0.mk (Kd.R_below (by (with_reducible repeat (first | apply Kd.R_alloc | apply Kd.R_drewN | apply Kd.R_drew)); exact HO788.out) hb); have n2_ := Aside0.mk (Kd.R_below (by (with_reducible repeat (first | apply Kd.R_alloc | apply Kd.R_drewN | apply Kd.R_drew)); exact HO791.out) hb); have n3_ := Aside0.mk (below_step (by repeat (first | (with_reducible first | exact HB.out | apply below_alloc | apply pw_below_drewN | apply below_drew1) | exact HB.out)) hb); clear HO_5; clear HO788; clear HO791; clear HB; have HO_5 := n0_; have HO788 := n1_; have HO791 := n2_; have HB := n3_; clear n0_ n1_ n2_ n3_; (try clear hb); (try clear hb2); (try clear hk); (try clear hi))))
                  go_ret
                  exact ⟨by first | rfl | (simp [errW_none, errW_some] <;> rfl) | (simp [*, errW_none, errW_some] <;> rfl), by repeat (first | (with_reducible first | exact HB.out | apply below_alloc | apply pw_below_drewN | apply below_drew1) | exact HB.out)⟩
                · rw [if_neg c31] at H
                  exact (no_true_ H HRR.out).elim
              · rw [if_neg c30] at H
                exact (no_true_ H HRR.out).elim
          · rw [if_neg c22] at H
            have c22b0 : (x8_1 == 15) = false := beq_eq_false_iff_ne.mpr c22
            have c22b1 : (x8_1 != 15) = true := bne_iff_ne.mpr c22
            by_cases c46 : x8_1 < 15
            · rw [if_pos c46] at H
              have c46b0 : decide (x8_1 < 15) = true := decide_eq_true c46
              clear c46
              by_cases c47 : t776 = (wrap64 ((wrap64 ((t786.length : Int) + (t789.length : Int))) - 2))
              · rw [if_pos c47] at H
                have c47b0 : (t776 == (wrap64 ((wrap64 ((t786.length : Int) + (t789.length : Int))) - 2))) = true := beq_iff_eq.mpr c47
                have c47b1 : (t776 != (wrap64 ((wrap64 ((t786.length : Int) + (t789.length : Int))) - 2))) = false := bne_eq_false_iff_eq.mpr c47
                clear c47
                replace H := Option.bind_eq_some_iff.mp H
                obtain ⟨t794, A480, H⟩ := H
                replace H : (some t794) = some r := H
                have A48 := Aside0.mk A480
                clear A480
                obtain rfl := Option.some.inj H
                go_wp2_with (first | (go_at_call 24; (with_reducible refine (woggleref01_Members.calls k1 x9_1 t786 _ A19.out).mono ?_); rintro e w49 ⟨v787, rfl, ho0, hb⟩; have n0_ := Aside0.mk (Kd.S_elder' (by (with_reducible repeat (first | apply Kd.S_alloc | apply Kd.S_drewN | apply Kd.S_drew)); exact HO_5.out) (Kd.R_base ho0) hb); have n1_ := Aside0.mk (Kd.R_lower ho0 (below_size (by repeat (first | (with_reducible first | exact HB.out | apply below_alloc | apply pw_below_drewN | apply below_drew1) | exact HB.out)))); have n2_ := Aside0.mk (below_step (by repeat (first | (with_reducible first | exact HB.out | apply below_alloc | apply pw_below_drewN | apply below_drew1) | exact HB.out)) hb); clear HO_5; clear HB; have HO_5 := n0_; have HO788 := n1_; have HB := n2_; clear n0_ n1_ n2_; (try clear hb); (try clear hb2); (try clear hk); (try clear hi); (try clear ho0); obtain ⟨Ao50, co50, eo50⟩ := Kd.R_slice HO788.out; subst eo50) | (go_at_call 24; (with_reducible refine (woggleref01_Members.calls k1 x10_1 t789 _ A20.out).mono ?_); rintro e w51 ⟨v790, rfl, ho0, hb⟩; have n0_ := Aside0.mk (Kd.S_elder' (by (with_reducible repeat (first | apply Kd.S_alloc | apply Kd.S_drewN | apply Kd.S_drew)); exact HO_5.out) (Kd.R_base ho0) hb); have n1_ := Aside0.mk (Kd.R_elder' (by (with_reducible repeat (first | apply Kd.R_alloc | apply Kd.R_drewN | apply Kd.R_drew)); exact HO788.out) (Kd.R_base ho0) hb); have n2_ := Aside0.mk (Kd.R_lower (Kd.R_new' ho0 (Kd.R_lt (by (with_reducible repeat (first | apply Kd.R_alloc | apply Kd.R_drewN | apply Kd.R_drew)); exact HO788.out))) (below_size (by repeat (first | (with_reducible first | exact HB.out | apply below_alloc | apply pw_below_drewN | apply below_drew1) | exact HB.out)))); have n3_ := Aside0.mk (below_step (by repeat (first | (with_reducible first | exact HB.out | apply below_alloc | apply pw_below_drewN | apply below_drew1) | exact HB.out)) hb); clear HO_5; clear HO788; clear HB; have HO_5 := n0_; have HO788 := n1_; have HO791 := n2_; have HB := n3_; clear n0_ n1_ n2_ n3_; (try clear hb); (try clear hb2); (try clear hk); (try clear hi); (try clear ho0); obtain ⟨Ao52, co52, eo52⟩ := Kd.R_slice HO791.out; subst eo52) | (go_at_call 22; (with_reducible refine (wogglelaw02_lives.calls k1  t794 _ A48.out).mono ?_); rintro e w53 ⟨rfl, hb⟩; have n0_ := Aside0.mk (Kd.S_below (by (with_reducible repeat (first | apply Kd.S_alloc | apply Kd.S_drewN | apply Kd.S_drew)); exact HO_5.out) hb); have n1_ := Aside0.mk (Kd.R_below (by (with_reducible repeat (first | apply Kd.R_alloc | apply Kd.R_drewN | apply Kd.R_drew)); exact HO788.out) hb); have n2_ := Aside0.mk (Kd.R_below (by (with_reducible repeat (first | apply Kd.R_alloc | apply Kd.R_drewN | apply Kd.R_drew)); exact HO791.out) hb); have n3_ := Aside0.mk (below_step (by repeat (first | (with_reducible first | exact HB.out | apply below_alloc | apply pw_below_drewN | apply below_drew1) | exact HB.out)) hb); clear HO_5; clear HO788; clear HO791; clear HB; have HO_5 := n0_; have HO788 := n1_; have HO791 := n2_; have HB := n3_; clear n0_ n1_ n2_ n3_; (try clear hb); (try clear hb2); (try clear hk); (try clear hi)))
                repeat (go_quiet (first | (go_at_call 24; (with_reducible refine (woggleref01_Members.calls k1 x9_1 t786 _ A19.out).mono ?_); rintro e w49 ⟨v787, rfl, ho0, hb⟩; have n0_ := Aside0.mk (Kd.S_elder' (by (with_reducible repeat (first | apply Kd.S_alloc | apply Kd.S_drewN | apply Kd.S_drew)); exact HO_5.out) (Kd.R_base ho0) hb); have n1_ := Aside0.mk (Kd.R_lower ho0 (below_size (by repeat (first | (with_reducible first | exact HB.out | apply below_alloc | apply pw_below_drewN | apply below_drew1) | exact HB.out)))); have n2_ := Aside0.mk (below_step (by repeat (first | (with_reducible first | exact HB.out | apply below_alloc | apply pw_below_drewN | apply below_drew1) | exact HB.out)) hb); clear HO_5; clear HB; have HO_5 := n0_; have HO788 := n1_; have HB := n2_; clear n0_ n1_ n2_; (try clear hb); (try clear hb2); (try clear hk); (try clear hi); (try clear ho0); obtain ⟨Ao50, co50, eo50⟩ := Kd.R_slice HO788.out; subst eo50) | (go_at_call 24; (with_reducible refine (woggleref01_Members.calls k1 x10_1 t789 _ A20.out).mono ?_); rintro e w51 ⟨v790, rfl, ho0, hb⟩; have n0_ := Aside0.mk (Kd.S_elder' (by (with_reducible repeat (first | apply Kd.S_alloc | apply Kd.S_drewN | apply Kd.S_drew)); exact HO_5.out) (Kd.R_base ho0) hb); have n1_ := Aside0.mk (Kd.R_elder' (by (with_reducible repeat (first | apply Kd.R_alloc | apply Kd.R_drewN | apply Kd.R_drew)); exact HO788.out) (Kd.R_base ho0) hb); have n2_ := Aside0.mk (Kd.R_lower (Kd.R_new' ho0 (Kd.R_lt (by (with_reducible repeat (first | apply Kd.R_alloc | apply Kd.R_drewN | apply Kd.R_drew)); exact HO788.out))) (below_size (by repeat (first | (with_reducible first | exact HB.out | apply below_alloc | apply pw_below_drewN | apply below_drew1) | exact HB.out)))); have n3_ := Aside0.mk (below_step (by repeat (first | (with_reducible first | exact HB.out | apply below_alloc | apply pw_below_drewN | apply below_drew1) | exact HB.out)) hb); clear HO_5; clear HO788; clear HB; have HO_5 := n0_; have HO788 := n1_; have HO791 := n2_; have HB := n3_; clear n0_ n1_ n2_ n3_; (try clear hb); (try clear hb2); (try clear hk); (try clear hi); (try clear ho0); obtain ⟨Ao52, co52, eo52⟩ := Kd.R_slice HO791.out; subst eo52) | (go_at_call 22; (with_reducible refine (wogglelaw02_lives.calls k1  t794 _ A48.out).mono ?_); rintro e w53 ⟨rfl, hb⟩; have n0_ := Aside0.mk (Kd.S_below (by (with_reducible repeat (first | apply Kd.S_alloc | apply Kd.S_drewN | apply Kd.S_drew)); exact HO_5.out) hb); have n1_ := Aside0.mk (Kd.R_below (by (with_reducible repeat (first | apply Kd.R_alloc | apply Kd.R_drewN | apply Kd.R_drew)); exact HO788.out) hb); have n2_ := Aside0.mk (Kd.R_below (by (with_reducible repeat (first | apply Kd.R_alloc | apply Kd.R_drewN | apply Kd.R_drew)); exact HO791.out) hb); have n3_ := Aside0.mk (below_step (by repeat (first | (with_reducible first | exact HB.out | apply below_alloc | apply pw_below_drewN | apply below_drew1) | exact HB.out)) hb); clear HO_5; clear HO788; clear HO791; clear HB; have HO_5 := n0_; have HO788 := n1_; have HO791 := n2_; have HB := n3_; clear n0_ n1_ n2_ n3_; (try clear hb); (try clear hb2); (try clear hk); (try clear hi))); try go_wp2_with (first | (go_at_call 24; (with_reducible refine (woggleref01_Members.calls k1 x9_1 t786 _ A19.out).mono ?_); rintro e w49 ⟨v787, rfl, ho0, hb⟩; have n0_ := Aside0.mk (Kd.S_elder' (by (with_reducible repeat (first | apply Kd.S_alloc | apply Kd.S_drewN | apply Kd.S_drew)); exact HO_5.out) (Kd.R_base ho0) hb); have n1_ := Aside0.mk (Kd.R_lower ho0 (below_size (by repeat (first | (with_reducible first | exact HB.out | apply below_alloc | apply pw_below_drewN | apply below_drew1) | exact HB.out)))); have n2_ := Aside0.mk (below_step (by repeat (first | (with_reducible first | exact HB.out | apply below_alloc | apply pw_below_drewN | apply below_drew1) | exact HB.out)) hb); clear HO_5; clear HB; have HO_5 := n0_; have HO788 := n1_; have HB := n2_; clear n0_ n1_ n2_; (try clear hb); (try clear hb2); (try clear hk); (try clear hi); (try clear ho0); obtain ⟨Ao50, co50, eo50⟩ := Kd.R_slice HO788.out; subst eo50) | (go_at_call 24; (with_reducible refine (woggleref01_Members.calls k1 x10_1 t789 _ A20.out).mono ?_); rintro e w51 ⟨v790, rfl, ho0, hb⟩; have n0_ := Aside0.mk (Kd.S_elder' (by (with_reducible repeat (first | apply Kd.S_alloc | apply Kd.S_drewN | apply Kd.S_drew)); exact HO_5.out) (Kd.R_base ho0) hb); have n1_ := Aside0.mk (Kd.R_elder' (by (with_reducible repeat (first | apply Kd.R_alloc | apply Kd.R_drewN | apply Kd.R_drew)); exact HO788.out) (Kd.R_base ho0) hb); have n2_ := Aside0.mk (Kd.R_lower (Kd.R_new' ho0 (Kd.R_lt (by (with_reducible repeat (first | apply Kd.R_alloc | apply Kd.R_drewN | apply Kd.R_drew)); exact HO788.out))) (below_size (by repeat (first | (with_reducible first | exact HB.out | apply below_alloc | apply pw_below_drewN | apply below_drew1) | exact HB.out)))); have n3_ := Aside0.mk (below_step (by repeat (first | (with_reducible first | exact HB.out | apply below_alloc | apply pw_below_drewN | apply below_drew1) | exact HB.out)) hb); clear HO_5; clear HO788; clear HB; have HO_5 := n0_; have HO788 := n1_; have HO791 := n2_; have HB := n3_; clear n0_ n1_ n2_ n3_; (try clear hb); (try clear hb2); (try clear hk); (try clear hi); (try clear ho0); obtain ⟨Ao52, co52, eo52⟩ := Kd.R_slice HO791.out; subst eo52) | (go_at_call 22; (with_reducible refine (wogglelaw02_lives.calls k1  t794 _ A48.out).mono ?_); rintro e w53 ⟨rfl, hb⟩; have n0_ := Aside0.mk (Kd.S_below (by (with_reducible repeat (first | apply Kd.S_alloc | apply Kd.S_drewN | apply Kd.S_drew)); exact HO_5.out) hb); have n1_ := Aside0.mk (Kd.R_below (by (with_reducible repeat (first | apply Kd.R_alloc | apply Kd.R_drewN | apply Kd.R_drew)); exact HO788.out) hb); have n2_ := Aside0.mk (Kd.R_below (by (with_reducible repeat (first | apply Kd.R_alloc | apply Kd.R_drewN | apply Kd.R_drew)); exact HO791.out) hb); have n3_ := Aside0.mk (below_step (by repeat (first | (with_reducible first | exact HB.out | apply below_alloc | apply pw_below_drewN | apply below_drew1) | exact HB.out)) hb); clear HO_5; clear HO788; clear HO791; clear HB; have HO_5 := n0_; have HO788 := n1_; have HO791 := n2_; have HB := n3_; clear n0_ n1_ n2_ n3_; (try clear hb); (try clear hb2); (try clear hk); (try clear hi))))
                go_ret
                exact ⟨by first | rfl | (simp [errW_none, errW_some] <;> rfl) | (simp [*, errW_none, errW_some] <;> rfl), by repeat (first | (with_reducible first | exact HB.out | apply below_alloc | apply pw_below_drewN | apply below_drew1) | exact HB.out)⟩
              · rw [if_neg c47] at H
                exact (no_true_ H HRR.out).elim
            · rw [if_neg c46] at H
              exact (no_true_ H HRR.out).elim
        · rw [if_neg c21] at H
          exact (no_true_ H HRR.out).elim
/-- THE ONE PURE STATEMENT of wogglelaw02_TrackGametes: yours. -/
def wogglelaw02_TrackGametes.Pure : Prop := ∀ (a0 : Int) (l1 : List Int), (Lit.int .u8 a0).wf = true → l1.length ≤ maxLen → l1.length * 1 ≤ 140737488351232 → (∀ x ∈ l1, (Lit.int .u8 x).wf = true) → ∃ k, wogglelaw02_TrackGametes.f k a0 l1 = some true

end Go.Proofs.Ytcphmeeighhdjaa.P
