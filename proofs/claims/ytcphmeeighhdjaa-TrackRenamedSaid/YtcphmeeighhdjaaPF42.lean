-- written by a program of this session
import Derived.Test.YtcphmeeighhdjaaPK
namespace Go.Proofs.Ytcphmeeighhdjaa.P
open Go.RowKit Go.Proofs.YtcphmeeighhdjaaW.PrintWords Go.Proofs.YtcphmeeighhdjaaW.PrintLast Go.Proofs.YtcphmeeighhdjaaW.PrintMore
attribute [local go_sem] max2_int min2_int max_two min_two max_three min_three max_four min_four   -- for this text's walks alone
set_option linter.unusedVariables false
set_option linter.unusedSimpArgs false

/-! ### woggleref02_Cost: function 42 -/
def woggleref02_Cost.l0 : Nat → Int → List (S67) → List (List Int) → List Int → Int → Int → Option (Int)
  | 0, _, _, _, _, _, _ => none
  | k + 1, x0, x1, x2, x11, x12, x13 => if x13 < (x1.length : Int) then (if 0 ≤ (wrap64 (x0 + x13)) then (if (wrap64 (x0 + x13)) < (x11.length : Int) then (if 0 ≤ (rd x11 (wrap64 (x0 + x13))) then (if (rd x11 (wrap64 (x0 + x13))) < (x2.length : Int) then (if 0 ≤ x13 then (if 0 ≤ ((rd_T67 x1 x13).f0) then (if ((rd_T67 x1 x13).f0) < (x11.length : Int) then (if 0 ≤ (rd x11 ((rd_T67 x1 x13).f0)) then (if (rd x11 ((rd_T67 x1 x13).f0)) < ((rd_L3 x2 (rd x11 (wrap64 (x0 + x13)))).length : Int) then (if 0 ≤ ((rd_T67 x1 x13).f1) then (if ((rd_T67 x1 x13).f1) < (x11.length : Int) then (if 0 ≤ (rd x11 ((rd_T67 x1 x13).f1)) then (if (rd x11 ((rd_T67 x1 x13).f1)) < ((rd_L3 x2 (rd x11 (wrap64 (x0 + x13)))).length : Int) then (woggleref02_Cost.l0 k x0 x1 x2 x11 (wrap64 (x12 + (wrap64 ((rd (rd_L3 x2 (rd x11 (wrap64 (x0 + x13)))) (rd x11 ((rd_T67 x1 x13).f0))) + (rd (rd_L3 x2 (rd x11 (wrap64 (x0 + x13)))) (rd x11 ((rd_T67 x1 x13).f1))))))) (wrap64 (x13 + 1))) else (none)) else (none)) else (none)) else (none)) else (none)) else (none)) else (none)) else (none)) else (none)) else (none)) else (none)) else (none)) else (none)) else (some x12)
def woggleref02_Cost.f (k : Nat) (a0 : Int) (l1 : List (S67)) (l2 : List (List Int)) (l3 : List Int) (l4 : List Int) : Option (Int) := (some (([] : List Int) : List Int)).bind fun y328 => (if y328.length + l3.length < 17592186044416 then ((some (y328 ++ l3 : List Int)).bind fun y331 => (if y331.length + l4.length < 17592186044416 then (woggleref02_Cost.l0 k a0 l1 l2 (y331 ++ l4) 0 0) else (none))) else (none))
theorem woggleref02_Cost.mono_l : ∀ k, (∀ y0 y1 y2 y3 y4 y5, LeO (woggleref02_Cost.l0 k y0 y1 y2 y3 y4 y5) (woggleref02_Cost.l0 (k + 1) y0 y1 y2 y3 y4 y5))
  | 0 => fun _ _ _ _ _ _ r h => by simp [woggleref02_Cost.l0] at h
  | k + 1 => by
    have ih0 := woggleref02_Cost.mono_l k
    · intro y0 y1 y2 y3 y4 y5
      unfold woggleref02_Cost.l0
      repeat' first
      | (with_reducible exact ih0 _ _ _ _ _ _)
      | (with_reducible exact LeO.refl _)
      | (with_reducible exact LeO.none _)
      | (with_reducible refine LeO.ite ?_ ?_)
      | (with_reducible refine LeO.bind ?_ (fun _ => ?_))
      | exact ih0 _ _ _ _ _ _
      | exact LeO.none _
      | refine LeO.ite ?_ ?_
      | refine LeO.bind ?_ (fun _ => ?_)
theorem woggleref02_Cost.mono : ∀ a0 a1 a2 a3 a4 k, LeO (woggleref02_Cost.f k a0 a1 a2 a3 a4) (woggleref02_Cost.f (k + 1) a0 a1 a2 a3 a4) := by
  intro a0 a1 a2 a3 a4 k
  have ih0 := woggleref02_Cost.mono_l k
  unfold woggleref02_Cost.f
  repeat' first
      | (with_reducible exact ih0 _ _ _ _ _ _)
      | (with_reducible exact LeO.refl _)
      | (with_reducible exact LeO.none _)
      | (with_reducible refine LeO.ite ?_ ?_)
      | (with_reducible refine LeO.bind ?_ (fun _ => ?_))
      | exact ih0 _ _ _ _ _ _
      | exact LeO.none _
      | refine LeO.ite ?_ ?_
      | refine LeO.bind ?_ (fun _ => ?_)
set_option maxHeartbeats 8000000 in
set_option maxRecDepth 100000 in
theorem woggleref02_Cost.calls (k : Nat) (a0 : Int) (A1 : Option Addr) (c1 : Nat) (l1 : List (S67)) (A2 : Option Addr) (c2 : Nat) (l2 : List (List Int)) (A3 : Option Addr) (c3 : Nat) (l3 : List Int) (A4 : Option Addr) (c4 : Nat) (l4 : List Int) (r : Int) (w : World) (hr1 : Kd.C k67 w A1 l1.length l1) (hc1 : l1.length ≤ c1) (hr2 : Kd.C (Kd.slice 3 (Kd.int .i64)) w A2 l2.length l2) (hc2 : l2.length ≤ c2) (hr3 : Kd.C (Kd.int .i64) w A3 l3.length l3) (hc3 : l3.length ≤ c3) (hr4 : Kd.C (Kd.int .i64) w A4 l4.length l4) (hc4 : l4.length ≤ c4) (h : woggleref02_Cost.f k a0 l1 l2 l3 l4 = some r) :
    Calls Try.prog 42 #[.int .i64 a0, .slice A1 l1.length c1, .slice A2 l2.length c2, .slice A3 l3.length c3, .slice A4 l4.length c4] w fun e w' => e = .returned (.int .i64 r) ∧ Below w.heap.size w w' := by
  have HR1 := Aside0.mk hr1
  have HC1 := Aside0.mk hc1
  clear hr1 hc1
  have HR2 := Aside0.mk hr2
  have HC2 := Aside0.mk hc2
  clear hr2 hc2
  have HR3 := Aside0.mk hr3
  have HC3 := Aside0.mk hc3
  clear hr3 hc3
  have HR4 := Aside0.mk hr4
  have HC4 := Aside0.mk hc4
  clear hr4 hc4
  have HB := Aside0.mk (Below.refl w.heap.size w)
  have H : ((some (([] : List Int) : List Int)).bind fun y328 => (if y328.length + l3.length < 17592186044416 then ((some (y328 ++ l3 : List Int)).bind fun y331 => (if y331.length + l4.length < 17592186044416 then (woggleref02_Cost.l0 k a0 l1 l2 (y331 ++ l4) 0 0) else (none))) else (none))) = some r := h
  clear h
  obtain ⟨y328, hy328⟩ : ∃ y_ : List Int, y_ = (([] : List Int)) := ⟨_, rfl⟩
  replace H : (if y328.length + l3.length < 17592186044416 then ((some (y328 ++ l3 : List Int)).bind fun y331 => (if y331.length + l4.length < 17592186044416 then (woggleref02_Cost.l0 k a0 l1 l2 (y331 ++ l4) 0 0) else (none))) else (none)) = some r := by first | (rw [hy328]; with_reducible exact H) | (have H2_ := (Option.bind_some _ _).symm.trans H; rw [hy328]; with_reducible exact H2_) | (have H2_ := (Option.bind_some _ _).symm.trans H; with_reducible exact H2_) | with_reducible exact H | (rw [hy328]; exact H) | exact H
  have Ny328 := Aside0.mk hy328
  clear hy328
  by_cases c6 : y328.length + l3.length < 17592186044416
  · rw [if_pos c6] at H
    have LMc6 := Aside0.mk c6
    clear c6
    obtain ⟨y331, hy331⟩ : ∃ y_ : List Int, y_ = (y328 ++ l3) := ⟨_, rfl⟩
    replace H : (if y331.length + l4.length < 17592186044416 then (woggleref02_Cost.l0 k a0 l1 l2 (y331 ++ l4) 0 0) else (none)) = some r := by first | (rw [hy331]; with_reducible exact H) | (have H2_ := (Option.bind_some _ _).symm.trans H; rw [hy331]; with_reducible exact H2_) | (have H2_ := (Option.bind_some _ _).symm.trans H; with_reducible exact H2_) | with_reducible exact H | (rw [hy331]; exact H) | exact H
    have Ny331 := Aside0.mk hy331
    clear hy331
    by_cases c7 : y331.length + l4.length < 17592186044416
    · rw [if_pos c7] at H
      have LMc7 := Aside0.mk c7
      clear c7
      obtain ⟨y334, hy334⟩ : ∃ y_ : List Int, y_ = (y331 ++ l4) := ⟨_, rfl⟩
      replace H : (woggleref02_Cost.l0 k a0 l1 l2 y334 0 0) = some r := by first | (rw [hy334]; with_reducible exact H) | (have H2_ := (Option.bind_some _ _).symm.trans H; rw [hy334]; with_reducible exact H2_) | (have H2_ := (Option.bind_some _ _).symm.trans H; with_reducible exact H2_) | with_reducible exact H | (rw [hy334]; exact H) | exact H
      have Ny334 := Aside0.mk hy334
      clear hy334
      have H' := Aside0.mk H
      clear H
      go_enter Try.func42, Try.ntmps42
      go_wp2_with (first | ((with_reducible refine gate_dst (N := 14) rfl ?_); refine Kd.R_lit (Kd.int .i64) _ 3 ?hg (N := 14) ?hd (xs := ([] : List Int)) (inner := []) (ok := fun _ => True) (okp := fun _ => True) ?hr ?hp (fun _ hk => hk) trivial (Below.refl _ _) (Nat.le_refl _) (by simp) ?_; (case hd => rfl); (case hg => rfl); (case hr => first | (go_simp; done) | (go_simp; rfl)); (case hp => exact (Reps.none _ _)); intro v329 w8 ho9 hb hg_ hnew_; clear hg_ hnew_; (first | rw [← Ny328.out] at ho9 | (simp only [Int.reduceToNat] at ho9; rw [← Ny328.out] at ho9)); have n0_ := Aside0.mk (Kd.R_lower ho9 (below_size (by repeat (first | (with_reducible first | exact HB.out | apply below_alloc | apply pw_below_drewN | apply below_drew1) | exact HB.out)))); have n1_ := Aside0.mk (below_step (by repeat (first | (with_reducible first | exact HB.out | apply below_alloc | apply pw_below_drewN | apply below_drew1) | exact HB.out)) hb); clear HB; have HO330 := n0_; have HB := n1_; clear n0_ n1_; clear hb ho9) | ((with_reducible refine gate_builtin (b := .append) (xs := #[.tmp 14, .tmp 15]) rfl ?_); at_builtin; refine Kd.R_append_rows (Kd.int .i64) (w0 := w) w.heap.size rfl (.tmp 14) (.tmp 15) 25 3 (.int .i64 0) 8 rfl Try.underlying25 info3 rfl (by decide) (by omega) v329 y328 l3 _ _ _ (fun _ => True) (fun _ => False) rfl rfl ?aO ?aR (fun _ _ h => h) (fun _ h => h.elim) ?aF ?aB ?aS ?aL ?_; (case aR => repeat (first | exact (Kd.C_below HR3.out HB.out) | (with_reducible refine Kd.C_alloc ?_ _) | (with_reducible refine Kd.C_drewN ?_ _) | (with_reducible refine Kd.C_drew ?_))); (case aB => exact (by repeat (first | (with_reducible first | exact HB.out | apply below_alloc | apply pw_below_drewN | apply below_drew1) | exact HB.out))); (case aF => exact (fun _ _ => trivial)); (case aO => exact (by (with_reducible repeat (first | apply Kd.R_alloc | apply Kd.R_drewN | apply Kd.R_drew)); exact HO330.out)); (case aS => exact (below_size (by repeat (first | (with_reducible first | exact HB.out | apply below_alloc | apply pw_below_drewN | apply below_drew1) | exact HB.out)))); (case aL => have := LMc6.out; omega); intro v332 w10 ho hb hg hat; rw [← Ny331.out] at ho; have n0_ := Aside0.mk (hb); have n1_ := Aside0.mk (ho); clear HB; clear HO330; have HB := n0_; have HO333 := n1_; clear n0_ n1_; clear ho hb hg hat) | ((with_reducible refine gate_builtin (b := .append) (xs := #[.tmp 16, .tmp 17]) rfl ?_); at_builtin; refine Kd.R_append_rows (Kd.int .i64) (w0 := w) w.heap.size rfl (.tmp 16) (.tmp 17) 25 3 (.int .i64 0) 8 rfl Try.underlying25 info3 rfl (by decide) (by omega) v332 y331 l4 _ _ _ (fun _ => True) (fun _ => False) rfl rfl ?aO ?aR (fun _ _ h => h) (fun _ h => h.elim) ?aF ?aB ?aS ?aL ?_; (case aR => repeat (first | exact (Kd.C_below HR4.out HB.out) | (with_reducible refine Kd.C_alloc ?_ _) | (with_reducible refine Kd.C_drewN ?_ _) | (with_reducible refine Kd.C_drew ?_))); (case aB => exact (by repeat (first | (with_reducible first | exact HB.out | apply below_alloc | apply pw_below_drewN | apply below_drew1) | exact HB.out))); (case aF => exact (fun _ _ => trivial)); (case aO => exact (by (with_reducible repeat (first | apply Kd.R_alloc | apply Kd.R_drewN | apply Kd.R_drew)); exact HO333.out)); (case aS => exact (below_size (by repeat (first | (with_reducible first | exact HB.out | apply below_alloc | apply pw_below_drewN | apply below_drew1) | exact HB.out)))); (case aL => have := LMc7.out; omega); intro v335 w11 ho hb hg hat; rw [← Ny334.out] at ho; have n0_ := Aside0.mk (hb); have n1_ := Aside0.mk (ho); clear HB; clear HO333; have HB := n0_; have HO336 := n1_; clear n0_ n1_; clear ho hb hg hat))
      repeat (go_quiet (first | ((with_reducible refine gate_dst (N := 14) rfl ?_); refine Kd.R_lit (Kd.int .i64) _ 3 ?hg (N := 14) ?hd (xs := ([] : List Int)) (inner := []) (ok := fun _ => True) (okp := fun _ => True) ?hr ?hp (fun _ hk => hk) trivial (Below.refl _ _) (Nat.le_refl _) (by simp) ?_; (case hd => rfl); (case hg => rfl); (case hr => first | (go_simp; done) | (go_simp; rfl)); (case hp => exact (Reps.none _ _)); intro v329 w8 ho9 hb hg_ hnew_; clear hg_ hnew_; (first | rw [← Ny328.out] at ho9 | (simp only [Int.reduceToNat] at ho9; rw [← Ny328.out] at ho9)); have n0_ := Aside0.mk (Kd.R_lower ho9 (below_size (by repeat (first | (with_reducible first | exact HB.out | apply below_alloc | apply pw_below_drewN | apply below_drew1) | exact HB.out)))); have n1_ := Aside0.mk (below_step (by repeat (first | (with_reducible first | exact HB.out | apply below_alloc | apply pw_below_drewN | apply below_drew1) | exact HB.out)) hb); clear HB; have HO330 := n0_; have HB := n1_; clear n0_ n1_; clear hb ho9) | ((with_reducible refine gate_builtin (b := .append) (xs := #[.tmp 14, .tmp 15]) rfl ?_); at_builtin; refine Kd.R_append_rows (Kd.int .i64) (w0 := w) w.heap.size rfl (.tmp 14) (.tmp 15) 25 3 (.int .i64 0) 8 rfl Try.underlying25 info3 rfl (by decide) (by omega) v329 y328 l3 _ _ _ (fun _ => True) (fun _ => False) rfl rfl ?aO ?aR (fun _ _ h => h) (fun _ h => h.elim) ?aF ?aB ?aS ?aL ?_; (case aR => repeat (first | exact (Kd.C_below HR3.out HB.out) | (with_reducible refine Kd.C_alloc ?_ _) | (with_reducible refine Kd.C_drewN ?_ _) | (with_reducible refine Kd.C_drew ?_))); (case aB => exact (by repeat (first | (with_reducible first | exact HB.out | apply below_alloc | apply pw_below_drewN | apply below_drew1) | exact HB.out))); (case aF => exact (fun _ _ => trivial)); (case aO => exact (by (with_reducible repeat (first | apply Kd.R_alloc | apply Kd.R_drewN | apply Kd.R_drew)); exact HO330.out)); (case aS => exact (below_size (by repeat (first | (with_reducible first | exact HB.out | apply below_alloc | apply pw_below_drewN | apply below_drew1) | exact HB.out)))); (case aL => have := LMc6.out; omega); intro v332 w10 ho hb hg hat; rw [← Ny331.out] at ho; have n0_ := Aside0.mk (hb); have n1_ := Aside0.mk (ho); clear HB; clear HO330; have HB := n0_; have HO333 := n1_; clear n0_ n1_; clear ho hb hg hat) | ((with_reducible refine gate_builtin (b := .append) (xs := #[.tmp 16, .tmp 17]) rfl ?_); at_builtin; refine Kd.R_append_rows (Kd.int .i64) (w0 := w) w.heap.size rfl (.tmp 16) (.tmp 17) 25 3 (.int .i64 0) 8 rfl Try.underlying25 info3 rfl (by decide) (by omega) v332 y331 l4 _ _ _ (fun _ => True) (fun _ => False) rfl rfl ?aO ?aR (fun _ _ h => h) (fun _ h => h.elim) ?aF ?aB ?aS ?aL ?_; (case aR => repeat (first | exact (Kd.C_below HR4.out HB.out) | (with_reducible refine Kd.C_alloc ?_ _) | (with_reducible refine Kd.C_drewN ?_ _) | (with_reducible refine Kd.C_drew ?_))); (case aB => exact (by repeat (first | (with_reducible first | exact HB.out | apply below_alloc | apply pw_below_drewN | apply below_drew1) | exact HB.out))); (case aF => exact (fun _ _ => trivial)); (case aO => exact (by (with_reducible repeat (first | apply Kd.R_alloc | apply Kd.R_drewN | apply Kd.R_drew)); exact HO333.out)); (case aS => exact (below_size (by repeat (first | (with_reducible first | exact HB.out | apply below_alloc | apply pw_below_drewN | apply below_drew1) | exact HB.out)))); (case aL => have := LMc7.out; omega); intro v335 w11 ho hb hg hat; rw [← Ny334.out] at ho; have n0_ := Aside0.mk (hb); have n1_ := Aside0.mk (ho); clear HB; clear HO333; have HB := n0_; have HO336 := n1_; clear n0_ n1_; clear ho hb hg hat)); try go_wp2_with (first | ((with_reducible refine gate_dst (N := 14) rfl ?_); refine Kd.R_lit (Kd.int .i64) _ 3 ?hg (N := 14) ?hd (xs := ([] : List Int)) (inner := []) (ok := fun _ => True) (okp := fun _ => True) ?hr ?hp (fun _ hk => hk) trivial (Below.refl _ _) (Nat.le_refl _) (by simp) ?_; (case hd => rfl); (case hg => rfl); (case hr => first | (go_simp; done) | (go_simp; rfl)); (case hp => exact (Reps.none _ _)); intro v329 w8 ho9 hb hg_ hnew_; clear hg_ hnew_; (first | rw [← Ny328.out] at ho9 | (simp only [Int.reduceToNat] at ho9; rw [← Ny328.out] at ho9)); have n0_ := Aside0.mk (Kd.R_lower ho9 (below_size (by repeat (first | (with_reducible first | exact HB.out | apply below_alloc | apply pw_below_drewN | apply below_drew1) | exact HB.out)))); have n1_ := Aside0.mk (below_step (by repeat (first | (with_reducible first | exact HB.out | apply below_alloc | apply pw_below_drewN | apply below_drew1) | exact HB.out)) hb); clear HB; have HO330 := n0_; have HB := n1_; clear n0_ n1_; clear hb ho9) | ((with_reducible refine gate_builtin (b := .append) (xs := #[.tmp 14, .tmp 15]) rfl ?_); at_builtin; refine Kd.R_append_rows (Kd.int .i64) (w0 := w) w.heap.size rfl (.tmp 14) (.tmp 15) 25 3 (.int .i64 0) 8 rfl Try.underlying25 info3 rfl (by decide) (by omega) v329 y328 l3 _ _ _ (fun _ => True) (fun _ => False) rfl rfl ?aO ?aR (fun _ _ h => h) (fun _ h => h.elim) ?aF ?aB ?aS ?aL ?_; (case aR => repeat (first | exact (Kd.C_below HR3.out HB.out) | (with_reducible refine Kd.C_alloc ?_ _) | (with_reducible refine Kd.C_drewN ?_ _) | (with_reducible refine Kd.C_drew ?_))); (case aB => exact (by repeat (first | (with_reducible first | exact HB.out | apply below_alloc | apply pw_below_drewN | apply below_drew1) | exact HB.out))); (case aF => exact (fun _ _ => trivial)); (case aO => exact (by (with_reducible repeat (first | apply Kd.R_alloc | apply Kd.R_drewN | apply Kd.R_drew)); exact HO330.out)); (case aS => exact (below_size (by repeat (first | (with_reducible first | exact HB.out | apply below_alloc | apply pw_below_drewN | apply below_drew1) | exact HB.out)))); (case aL => have := LMc6.out; omega); intro v332 w10 ho hb hg hat; rw [← Ny331.out] at ho; have n0_ := Aside0.mk (hb); have n1_ := Aside0.mk (ho); clear HB; clear HO330; have HB := n0_; have HO333 := n1_; clear n0_ n1_; clear ho hb hg hat) | ((with_reducible refine gate_builtin (b := .append) (xs := #[.tmp 16, .tmp 17]) rfl ?_); at_builtin; refine Kd.R_append_rows (Kd.int .i64) (w0 := w) w.heap.size rfl (.tmp 16) (.tmp 17) 25 3 (.int .i64 0) 8 rfl Try.underlying25 info3 rfl (by decide) (by omega) v332 y331 l4 _ _ _ (fun _ => True) (fun _ => False) rfl rfl ?aO ?aR (fun _ _ h => h) (fun _ h => h.elim) ?aF ?aB ?aS ?aL ?_; (case aR => repeat (first | exact (Kd.C_below HR4.out HB.out) | (with_reducible refine Kd.C_alloc ?_ _) | (with_reducible refine Kd.C_drewN ?_ _) | (with_reducible refine Kd.C_drew ?_))); (case aB => exact (by repeat (first | (with_reducible first | exact HB.out | apply below_alloc | apply pw_below_drewN | apply below_drew1) | exact HB.out))); (case aF => exact (fun _ _ => trivial)); (case aO => exact (by (with_reducible repeat (first | apply Kd.R_alloc | apply Kd.R_drewN | apply Kd.R_drew)); exact HO333.out)); (case aS => exact (below_size (by repeat (first | (with_reducible first | exact HB.out | apply below_alloc | apply pw_below_drewN | apply below_drew1) | exact HB.out)))); (case aL => have := LMc7.out; omega); intro v335 w11 ho hb hg hat; rw [← Ny334.out] at ho; have n0_ := Aside0.mk (hb); have n1_ := Aside0.mk (ho); clear HB; clear HO333; have HB := n0_; have HO336 := n1_; clear n0_ n1_; clear ho hb hg hat)))
      go_loopg [12, 13] k (fun kq v12 v13 w' => ∃ (x12_1 : Int) (x13_1 : Int), v12 = .int .i64 x12_1 ∧ v13 = .int .i64 x13_1 ∧ Aside0 (woggleref02_Cost.l0 kq a0 l1 l2 y334 x12_1 x13_1 = some r) ∧ Aside0 (kq ≤ k) ∧ Aside0 (Kd.R (Kd.int .i64) 3 w' w.heap.size (fun _ => True) v335 y334) ∧ Aside0 (Below w.heap.size w w'))
      case atStart => exact ⟨(0), (0), (by first | rfl | (simp; done) | (simp [*]; done)), (by first | rfl | (simp; done) | (simp [*]; done)), H', ⟨Nat.le_refl _⟩, ⟨by (with_reducible repeat (first | apply Kd.R_alloc | apply Kd.R_drewN | apply Kd.R_drew)); exact HO336.out⟩, ⟨by repeat (first | (with_reducible first | exact HB.out | apply below_alloc | apply pw_below_drewN | apply below_drew1) | exact HB.out)⟩⟩
      case round =>
        clear H'
        try clear c1
        try clear c2
        try clear p2
        try clear c3
        try clear c4
        try clear c6
        try clear c7
        obtain ⟨x12_1, x13_1, rfl, rfl, HA, HK1, HO_11, HB⟩ := hrel
        cases gk with
        | zero => exact absurd HA.out (by simp [woggleref02_Cost.l0])
        | succ k1 =>
          have H := HA.out
          clear HA
          simp only [woggleref02_Cost.l0] at H
          by_cases c12 : x13_1 < (l1.length : Int)
          · rw [if_pos c12] at H
            have c12b0 : decide (x13_1 < (l1.length : Int)) = true := decide_eq_true c12
            clear c12
            obtain ⟨ji13, hji13⟩ : ∃ j_ : Int, (wrap64 (a0 + x13_1)) = j_ := ⟨_, rfl⟩
            replace H : (if 0 ≤ (ji13) then (if (ji13) < (y334.length : Int) then (if 0 ≤ (rd y334 (ji13)) then (if (rd y334 (ji13)) < (l2.length : Int) then (if 0 ≤ x13_1 then (if 0 ≤ ((rd_T67 l1 x13_1).f0) then (if ((rd_T67 l1 x13_1).f0) < (y334.length : Int) then (if 0 ≤ (rd y334 ((rd_T67 l1 x13_1).f0)) then (if (rd y334 ((rd_T67 l1 x13_1).f0)) < ((rd_L3 l2 (rd y334 (ji13))).length : Int) then (if 0 ≤ ((rd_T67 l1 x13_1).f1) then (if ((rd_T67 l1 x13_1).f1) < (y334.length : Int) then (if 0 ≤ (rd y334 ((rd_T67 l1 x13_1).f1)) then (if (rd y334 ((rd_T67 l1 x13_1).f1)) < ((rd_L3 l2 (rd y334 (ji13))).length : Int) then (woggleref02_Cost.l0 k1 a0 l1 l2 y334 (wrap64 (x12_1 + (wrap64 ((rd (rd_L3 l2 (rd y334 (ji13))) (rd y334 ((rd_T67 l1 x13_1).f0))) + (rd (rd_L3 l2 (rd y334 (ji13))) (rd y334 ((rd_T67 l1 x13_1).f1))))))) (wrap64 (x13_1 + 1))) else (none)) else (none)) else (none)) else (none)) else (none)) else (none)) else (none)) else (none)) else (none)) else (none)) else (none)) else (none)) else (none)) = some r := by first | (rw [hji13] at H; exact H) | (simp only [hji13] at H ⊢; exact H)
            have hji13w : (IntKind.i64.wrap (a0 + x13_1)) = ji13 := (i64_w _).trans hji13
            by_cases c14 : 0 ≤ (ji13)
            · rw [if_pos c14] at H
              have c14b0 : decide (0 ≤ (ji13)) = true := decide_eq_true c14
              clear c14
              by_cases c15 : (ji13) < (y334.length : Int)
              · rw [if_pos c15] at H
                have c15b0 : decide ((ji13) < (y334.length : Int)) = true := decide_eq_true c15
                clear c15
                by_cases c16 : 0 ≤ (rd y334 (ji13))
                · rw [if_pos c16] at H
                  have c16b0 : decide (0 ≤ (rd y334 (ji13))) = true := decide_eq_true c16
                  clear c16
                  by_cases c17 : (rd y334 (ji13)) < (l2.length : Int)
                  · rw [if_pos c17] at H
                    have c17b0 : decide ((rd y334 (ji13)) < (l2.length : Int)) = true := decide_eq_true c17
                    clear c17
                    by_cases c18 : 0 ≤ x13_1
                    · rw [if_pos c18] at H
                      have c18b0 : decide (0 ≤ x13_1) = true := decide_eq_true c18
                      clear c18
                      by_cases c19 : 0 ≤ ((rd_T67 l1 x13_1).f0)
                      · rw [if_pos c19] at H
                        have c19b0 : decide (0 ≤ ((rd_T67 l1 x13_1).f0)) = true := decide_eq_true c19
                        clear c19
                        by_cases c20 : ((rd_T67 l1 x13_1).f0) < (y334.length : Int)
                        · rw [if_pos c20] at H
                          have c20b0 : decide (((rd_T67 l1 x13_1).f0) < (y334.length : Int)) = true := decide_eq_true c20
                          clear c20
                          by_cases c21 : 0 ≤ (rd y334 ((rd_T67 l1 x13_1).f0))
                          · rw [if_pos c21] at H
                            have c21b0 : decide (0 ≤ (rd y334 ((rd_T67 l1 x13_1).f0))) = true := decide_eq_true c21
                            clear c21
                            by_cases c22 : (rd y334 ((rd_T67 l1 x13_1).f0)) < ((rd_L3 l2 (rd y334 (ji13))).length : Int)
                            · rw [if_pos c22] at H
                              have c22b0 : decide ((rd y334 ((rd_T67 l1 x13_1).f0)) < ((rd_L3 l2 (rd y334 (ji13))).length : Int)) = true := decide_eq_true c22
                              clear c22
                              by_cases c23 : 0 ≤ ((rd_T67 l1 x13_1).f1)
                              · rw [if_pos c23] at H
                                have c23b0 : decide (0 ≤ ((rd_T67 l1 x13_1).f1)) = true := decide_eq_true c23
                                clear c23
                                by_cases c24 : ((rd_T67 l1 x13_1).f1) < (y334.length : Int)
                                · rw [if_pos c24] at H
                                  have c24b0 : decide (((rd_T67 l1 x13_1).f1) < (y334.length : Int)) = true := decide_eq_true c24
                                  clear c24
                                  by_cases c25 : 0 ≤ (rd y334 ((rd_T67 l1 x13_1).f1))
                                  · rw [if_pos c25] at H
                                    have c25b0 : decide (0 ≤ (rd y334 ((rd_T67 l1 x13_1).f1))) = true := decide_eq_true c25
                                    clear c25
                                    by_cases c26 : (rd y334 ((rd_T67 l1 x13_1).f1)) < ((rd_L3 l2 (rd y334 (ji13))).length : Int)
                                    · rw [if_pos c26] at H
                                      have c26b0 : decide ((rd y334 ((rd_T67 l1 x13_1).f1)) < ((rd_L3 l2 (rd y334 (ji13))).length : Int)) = true := decide_eq_true c26
                                      clear c26
                                      have H' := Aside0.mk H
                                      clear H
                                      obtain ⟨Ao27, co27, eo27⟩ := Kd.R_slice HO_11.out
                                      subst eo27
                                      have p337 : 0 ≤ ((ji13) : Int) := of_decide_eq_true (by first | (with_reducible assumption) | assumption)
                                      have q337 : (ji13) < (y334.length : Int) := of_decide_eq_true (by first | (with_reducible assumption) | assumption)
                                      obtain ⟨ad337, e337, hx337_0⟩ := Kd.at_int (Kd.R_reads' HO_11.out).2.2 (ji13) p337 q337
                                      cases e337
                                      replace p337 := eq_true p337
                                      replace q337 := eq_true q337
                                      have p338 : 0 ≤ ((rd y334 (ji13)) : Int) := of_decide_eq_true (by first | (with_reducible assumption) | assumption)
                                      have q338 : (rd y334 (ji13)) < (l2.length : Int) := of_decide_eq_true (by first | (with_reducible assumption) | assumption)
                                      obtain ⟨ad338, A338_0, c338_0, e338, hx338_0, hl338_0, hi338_0⟩ := at_L3 HR2.out (rd y334 (ji13)) p338 q338
                                      cases e338
                                      replace hx338_0 := (HB.out.cell (World.block_lt_of_cell? w _ hx338_0)).trans hx338_0
                                      have HR338_0 := Aside0.mk hi338_0
                                      have HC338_0 := Aside0.mk hl338_0
                                      clear hi338_0 hl338_0
                                      replace p338 := eq_true p338
                                      replace q338 := eq_true q338
                                      have p339 : 0 ≤ (x13_1 : Int) := of_decide_eq_true (by first | (with_reducible assumption) | assumption)
                                      have q339 : x13_1 < (l1.length : Int) := of_decide_eq_true (by first | (with_reducible assumption) | assumption)
                                      obtain ⟨ad339, e339, hx339_0, hx339_1⟩ := at_T67 HR1.out x13_1 p339 q339
                                      cases e339
                                      replace hx339_0 := (HB.out.cell (World.block_lt_of_cell? w _ hx339_0)).trans hx339_0
                                      replace hx339_1 := (HB.out.cell (World.block_lt_of_cell? w _ hx339_1)).trans hx339_1
                                      replace p339 := eq_true p339
                                      replace q339 := eq_true q339
                                      have p340 : 0 ≤ (((rd_T67 l1 x13_1).f0) : Int) := of_decide_eq_true (by first | (with_reducible assumption) | assumption)
                                      have q340 : ((rd_T67 l1 x13_1).f0) < (y334.length : Int) := of_decide_eq_true (by first | (with_reducible assumption) | assumption)
                                      obtain ⟨ad340, e340, hx340_0⟩ := Kd.at_int (Kd.R_reads' HO_11.out).2.2 ((rd_T67 l1 x13_1).f0) p340 q340
                                      obtain rfl : ad337 = ad340 := (by injection e340)
                                      replace p340 := eq_true p340
                                      replace q340 := eq_true q340
                                      have p341 : 0 ≤ ((rd y334 ((rd_T67 l1 x13_1).f0)) : Int) := of_decide_eq_true (by first | (with_reducible assumption) | assumption)
                                      have q341 : (rd y334 ((rd_T67 l1 x13_1).f0)) < ((rd_L3 l2 (rd y334 (ji13))).length : Int) := of_decide_eq_true (by first | (with_reducible assumption) | assumption)
                                      obtain ⟨ad341, e341, hx341_0⟩ := Kd.at_int HR338_0.out (rd y334 ((rd_T67 l1 x13_1).f0)) p341 q341
                                      cases e341
                                      replace hx341_0 := (HB.out.cell (World.block_lt_of_cell? w _ hx341_0)).trans hx341_0
                                      replace p341 := eq_true p341
                                      replace q341 := eq_true q341
                                      have p342 : 0 ≤ ((ji13) : Int) := of_decide_eq_true (by first | (with_reducible assumption) | assumption)
                                      have q342 : (ji13) < (y334.length : Int) := of_decide_eq_true (by first | (with_reducible assumption) | assumption)
                                      obtain ⟨ad342, e342, hx342_0⟩ := Kd.at_int (Kd.R_reads' HO_11.out).2.2 (ji13) p342 q342
                                      obtain rfl : ad337 = ad342 := (by injection e342)
                                      replace p342 := eq_true p342
                                      replace q342 := eq_true q342
                                      have p343 : 0 ≤ ((rd y334 (ji13)) : Int) := of_decide_eq_true (by first | (with_reducible assumption) | assumption)
                                      have q343 : (rd y334 (ji13)) < (l2.length : Int) := of_decide_eq_true (by first | (with_reducible assumption) | assumption)
                                      obtain ⟨ad343, A343_0, c343_0, e343, hx343_0, hl343_0, hi343_0⟩ := at_L3 HR2.out (rd y334 (ji13)) p343 q343
                                      obtain rfl : ad338 = ad343 := (by injection e343)
                                      replace hx343_0 := (HB.out.cell (World.block_lt_of_cell? w _ hx343_0)).trans hx343_0
                                      have HR343_0 := Aside0.mk hi343_0
                                      have HC343_0 := Aside0.mk hl343_0
                                      clear hi343_0 hl343_0
                                      replace p343 := eq_true p343
                                      replace q343 := eq_true q343
                                      have ea_ := Option.some.inj (hx338_0.symm.trans hx343_0)
                                      injection ea_ with ea_ en_ ec_
                                      subst ea_
                                      subst ec_
                                      clear en_
                                      have p344 : 0 ≤ (x13_1 : Int) := of_decide_eq_true (by first | (with_reducible assumption) | assumption)
                                      have q344 : x13_1 < (l1.length : Int) := of_decide_eq_true (by first | (with_reducible assumption) | assumption)
                                      obtain ⟨ad344, e344, hx344_0, hx344_1⟩ := at_T67 HR1.out x13_1 p344 q344
                                      obtain rfl : ad339 = ad344 := (by injection e344)
                                      replace hx344_0 := (HB.out.cell (World.block_lt_of_cell? w _ hx344_0)).trans hx344_0
                                      replace hx344_1 := (HB.out.cell (World.block_lt_of_cell? w _ hx344_1)).trans hx344_1
                                      replace p344 := eq_true p344
                                      replace q344 := eq_true q344
                                      have p345 : 0 ≤ (((rd_T67 l1 x13_1).f1) : Int) := of_decide_eq_true (by first | (with_reducible assumption) | assumption)
                                      have q345 : ((rd_T67 l1 x13_1).f1) < (y334.length : Int) := of_decide_eq_true (by first | (with_reducible assumption) | assumption)
                                      obtain ⟨ad345, e345, hx345_0⟩ := Kd.at_int (Kd.R_reads' HO_11.out).2.2 ((rd_T67 l1 x13_1).f1) p345 q345
                                      obtain rfl : ad337 = ad345 := (by injection e345)
                                      replace p345 := eq_true p345
                                      replace q345 := eq_true q345
                                      have p346 : 0 ≤ ((rd y334 ((rd_T67 l1 x13_1).f1)) : Int) := of_decide_eq_true (by first | (with_reducible assumption) | assumption)
                                      have q346 : (rd y334 ((rd_T67 l1 x13_1).f1)) < ((rd_L3 l2 (rd y334 (ji13))).length : Int) := of_decide_eq_true (by first | (with_reducible assumption) | assumption)
                                      obtain ⟨ad346, e346, hx346_0⟩ := Kd.at_int HR343_0.out (rd y334 ((rd_T67 l1 x13_1).f1)) p346 q346
                                      cases e346
                                      replace hx346_0 := (HB.out.cell (World.block_lt_of_cell? w _ hx346_0)).trans hx346_0
                                      replace p346 := eq_true p346
                                      replace q346 := eq_true q346
                                      go_wp2
                                      repeat (go_quiet (fail); try go_wp2)
                                      go_roundg k1
                                      case measure => have := HK1.out; omega
                                      case rel => exact ⟨(wrap64 (x12_1 + (wrap64 ((rd (rd_L3 l2 (rd y334 (ji13))) (rd y334 ((rd_T67 l1 x13_1).f0))) + (rd (rd_L3 l2 (rd y334 (ji13))) (rd y334 ((rd_T67 l1 x13_1).f1))))))), (wrap64 (x13_1 + 1)), (by first | rfl | (simp; done) | (simp only [← hji13] <;> (first | rfl | simp)) | (simp [*]; done)), (by first | rfl | (simp; done) | (simp [*]; done)), H', ⟨by have := HK1.out; omega⟩, ⟨by (with_reducible repeat (first | apply Kd.R_alloc | apply Kd.R_drewN | apply Kd.R_drew)); exact HO_11.out⟩, ⟨by repeat (first | (with_reducible first | exact HB.out | apply below_alloc | apply pw_below_drewN | apply below_drew1) | exact HB.out)⟩⟩
                                    · rw [if_neg c26] at H
                                      exact absurd H (by simp)
                                  · rw [if_neg c25] at H
                                    exact absurd H (by simp)
                                · rw [if_neg c24] at H
                                  exact absurd H (by simp)
                              · rw [if_neg c23] at H
                                exact absurd H (by simp)
                            · rw [if_neg c22] at H
                              exact absurd H (by simp)
                          · rw [if_neg c21] at H
                            exact absurd H (by simp)
                        · rw [if_neg c20] at H
                          exact absurd H (by simp)
                      · rw [if_neg c19] at H
                        exact absurd H (by simp)
                    · rw [if_neg c18] at H
                      exact absurd H (by simp)
                  · rw [if_neg c17] at H
                    exact absurd H (by simp)
                · rw [if_neg c16] at H
                  exact absurd H (by simp)
              · rw [if_neg c15] at H
                exact absurd H (by simp)
            · rw [if_neg c14] at H
              exact absurd H (by simp)
          · rw [if_neg c12] at H
            have c12b0 : decide (x13_1 < (l1.length : Int)) = false := decide_eq_false c12
            clear c12
            obtain rfl := Option.some.inj H
            go_wp2
            repeat (go_quiet (fail); try go_wp2)
            go_ret
            exact ⟨by first | rfl | (simp [errW_none, errW_some] <;> rfl) | (simp [*, errW_none, errW_some] <;> rfl), by repeat (first | (with_reducible first | exact HB.out | apply below_alloc | apply pw_below_drewN | apply below_drew1) | exact HB.out)⟩
    · rw [if_neg c7] at H
      exact absurd H (by simp)
  · rw [if_neg c6] at H
    exact absurd H (by simp)

end Go.Proofs.Ytcphmeeighhdjaa.P
