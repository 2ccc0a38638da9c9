-- written by a program of this session
import Derived.Test.YtcphmeeighhdjaaPK
import Derived.Test.YtcphmeeighhdjaaPF54
namespace Go.Proofs.Ytcphmeeighhdjaa.P
open Go.RowKit Go.Proofs.YtcphmeeighhdjaaW.PrintWords Go.Proofs.YtcphmeeighhdjaaW.PrintLast Go.Proofs.YtcphmeeighhdjaaW.PrintMore
attribute [local go_sem] max2_int min2_int max_two min_two max_three min_three max_four min_four   -- for this text's walks alone
set_option linter.unusedVariables false
set_option linter.unusedSimpArgs false

/-! ### woggleref02_Tree: function 20 -/
mutual
def woggleref02_Tree.j0 : Nat → Int → List (S67) → Bool → Option (Bool)
  | 0, _, _, _ => none
  | k + 1, x0, x1, x18 => if x18 = true then (some false) else (if 0 ≤ (wrap64 ((wrap64 (2 * x0)) - 1)) then (if (wrap64 ((wrap64 (2 * x0)) - 1) : Int).toNat ≤ 281474976710656 then (woggleref02_Tree.l0 k x0 x1 (List.replicate (wrap64 ((wrap64 (2 * x0)) - 1) : Int).toNat false) 0) else (none)) else (none))
def woggleref02_Tree.l0 : Nat → Int → List (S67) → List Bool → Int → Option (Bool)
  | 0, _, _, _, _ => none
  | k + 1, x0, x1, x5, x6 => if x6 < (x1.length : Int) then (if 0 ≤ x6 then ((woggleref02_in.f ((rd_T67 x1 x6).f0) 0 (wrap64 ((wrap64 (x0 + x6)) - 1))).bind fun t170 => (if t170 = true then ((woggleref02_in.f ((rd_T67 x1 x6).f1) 0 (wrap64 ((wrap64 (x0 + x6)) - 1))).bind fun t171 => (if t171 = true then (if ((rd_T67 x1 x6).f0) = ((rd_T67 x1 x6).f1) then (some false) else (if 0 ≤ ((rd_T67 x1 x6).f0) then (if ((rd_T67 x1 x6).f0) < (x5.length : Int) then (if rdOf false x5 ((rd_T67 x1 x6).f0) = true then (some false) else (if 0 ≤ ((rd_T67 x1 x6).f1) then (if ((rd_T67 x1 x6).f1) < (x5.length : Int) then (if rdOf false x5 ((rd_T67 x1 x6).f1) = true then (some false) else (woggleref02_Tree.l0 k x0 x1 ((x5.set (((rd_T67 x1 x6).f0) : Int).toNat true).set (((rd_T67 x1 x6).f1) : Int).toNat true) (wrap64 (x6 + 1)))) else (none)) else (none))) else (none)) else (none))) else (some false))) else (some false))) else (none)) else (some true)
end
def woggleref02_Tree.f (k : Nat) (a0 : Int) (l1 : List (S67)) : Option (Bool) := (woggleref02_in.f a0 2 8).bind fun t164 => (if t164 = true then (woggleref02_Tree.j0 k a0 l1 ((l1.length : Int) != (wrap64 (a0 - 1)))) else (woggleref02_Tree.j0 k a0 l1 true))
theorem woggleref02_Tree.mono_l : ∀ k, (∀ y0 y1 y2, LeO (woggleref02_Tree.j0 k y0 y1 y2) (woggleref02_Tree.j0 (k + 1) y0 y1 y2)) ∧ (∀ y0 y1 y2 y3, LeO (woggleref02_Tree.l0 k y0 y1 y2 y3) (woggleref02_Tree.l0 (k + 1) y0 y1 y2 y3))
  | 0 => ⟨fun _ _ _ r h => by simp [woggleref02_Tree.j0] at h, fun _ _ _ _ r h => by simp [woggleref02_Tree.l0] at h⟩
  | k + 1 => by
    obtain ⟨ih0, ih1⟩ := woggleref02_Tree.mono_l k
    refine ⟨?_, ?_⟩
    · intro y0 y1 y2
      unfold woggleref02_Tree.j0
      repeat' first
      | (with_reducible exact ih0 _ _ _)
      | (with_reducible exact ih1 _ _ _ _)
      | (with_reducible exact LeO.refl _)
      | (with_reducible exact LeO.none _)
      | (with_reducible refine LeO.ite ?_ ?_)
      | (with_reducible refine LeO.bind ?_ (fun _ => ?_))
      | exact ih0 _ _ _
      | exact ih1 _ _ _ _
      | exact LeO.none _
      | refine LeO.ite ?_ ?_
      | refine LeO.bind ?_ (fun _ => ?_)
    · intro y0 y1 y2 y3
      unfold woggleref02_Tree.l0
      repeat' first
      | (with_reducible exact ih0 _ _ _)
      | (with_reducible exact ih1 _ _ _ _)
      | (with_reducible exact LeO.refl _)
      | (with_reducible exact LeO.none _)
      | (with_reducible refine LeO.ite ?_ ?_)
      | (with_reducible refine LeO.bind ?_ (fun _ => ?_))
      | exact ih0 _ _ _
      | exact ih1 _ _ _ _
      | exact LeO.none _
      | refine LeO.ite ?_ ?_
      | refine LeO.bind ?_ (fun _ => ?_)
theorem woggleref02_Tree.mono : ∀ a0 a1 k, LeO (woggleref02_Tree.f k a0 a1) (woggleref02_Tree.f (k + 1) a0 a1) := by
  intro a0 a1 k
  obtain ⟨ih0, ih1⟩ := woggleref02_Tree.mono_l k
  unfold woggleref02_Tree.f
  repeat' first
      | (with_reducible exact ih0 _ _ _)
      | (with_reducible exact ih1 _ _ _ _)
      | (with_reducible exact LeO.refl _)
      | (with_reducible exact LeO.none _)
      | (with_reducible refine LeO.ite ?_ ?_)
      | (with_reducible refine LeO.bind ?_ (fun _ => ?_))
      | exact ih0 _ _ _
      | exact ih1 _ _ _ _
      | exact LeO.none _
      | refine LeO.ite ?_ ?_
      | refine LeO.bind ?_ (fun _ => ?_)
set_option maxHeartbeats 8000000 in
set_option maxRecDepth 100000 in
theorem woggleref02_Tree.calls (k : Nat) (a0 : Int) (A1 : Option Addr) (c1 : Nat) (l1 : List (S67)) (r : Bool) (w : World) (hr1 : Kd.C k67 w A1 l1.length l1) (hc1 : l1.length ≤ c1) (h : woggleref02_Tree.f k a0 l1 = some r) :
    Calls Try.prog 20 #[.int .i64 a0, .slice A1 l1.length c1] w fun e w' => e = .returned (.bool r) ∧ Below w.heap.size w w' := by
  have HR1 := Aside0.mk hr1
  have HC1 := Aside0.mk hc1
  clear hr1 hc1
  have HB := Aside0.mk (Below.refl w.heap.size w)
  have H : ((woggleref02_in.f a0 2 8).bind fun t164 => (if t164 = true then (woggleref02_Tree.j0 k a0 l1 ((l1.length : Int) != (wrap64 (a0 - 1)))) else (woggleref02_Tree.j0 k a0 l1 true))) = some r := h
  clear h
  have HC3 := Aside0.mk H
  clear H
  go_enter Try.func20, Try.ntmps20
  go_upto_region 1 with (fail)
  repeat (go_quiet (fail); go_upto_region 1 with (fail))
  go_cut [18] (fun v18 wc => ∃ (kq : Nat) (x18_2 : Bool), v18 = .bool x18_2 ∧ Aside0 (woggleref02_Tree.j0 kq a0 l1 x18_2 = some r) ∧ Aside0 (kq ≤ k) ∧ Aside0 (Below w.heap.size w wc))
  case first =>
    have H := HC3.out
    clear HC3
    replace H := Option.bind_eq_some_iff.mp H
    obtain ⟨t164, A40, H⟩ := H
    replace H : (if t164 = true then (woggleref02_Tree.j0 k a0 l1 ((l1.length : Int) != (wrap64 (a0 - 1)))) else (woggleref02_Tree.j0 k a0 l1 true)) = some r := H
    have A4 := Aside0.mk A40
    clear A40
    by_cases c5 : t164 = true
    · subst c5
      have H1 : (woggleref02_Tree.j0 k a0 l1 ((l1.length : Int) != (wrap64 (a0 - 1)))) = some r := by rw [if_pos rfl] at H; exact H
      clear H
      have H := H1
      clear H1
      have H' := Aside0.mk H
      clear H
      go_wp2_with (first | (go_at_call 54; (with_reducible refine (woggleref02_in.calls a0 2 8 true _ A4.out).mono ?_); rintro e w' ⟨rfl, ⟨nd, rfl⟩⟩; (try first | exact ⟨rfl, _, World.drewN_drewN _ _ _⟩ | exact ⟨rfl, _, Eq.trans (World.drewN_drewN _ _ _) (congrArg (World.drewN _) (Nat.add_assoc _ _ _))⟩)))
      repeat (go_quiet (first | (go_at_call 54; (with_reducible refine (woggleref02_in.calls a0 2 8 true _ A4.out).mono ?_); rintro e w' ⟨rfl, ⟨nd, rfl⟩⟩; (try first | exact ⟨rfl, _, World.drewN_drewN _ _ _⟩ | exact ⟨rfl, _, Eq.trans (World.drewN_drewN _ _ _) (congrArg (World.drewN _) (Nat.add_assoc _ _ _))⟩))); try go_wp2_with (first | (go_at_call 54; (with_reducible refine (woggleref02_in.calls a0 2 8 true _ A4.out).mono ?_); rintro e w' ⟨rfl, ⟨nd, rfl⟩⟩; (try first | exact ⟨rfl, _, World.drewN_drewN _ _ _⟩ | exact ⟨rfl, _, Eq.trans (World.drewN_drewN _ _ _) (congrArg (World.drewN _) (Nat.add_assoc _ _ _))⟩))))
      go_meet
      case rel => exact ⟨_, (((l1.length : Int) != (wrap64 (a0 - 1)))), (by first | rfl | (simp; done) | (simp [*]; done)), H', ⟨by first | omega | exact Nat.le_refl _⟩, ⟨by repeat (first | (with_reducible first | exact HB.out | apply below_alloc | apply pw_below_drewN | apply below_drew1) | exact HB.out)⟩⟩
    · replace c5 := Bool.eq_false_iff.mpr c5
      subst c5
      have H1 : (woggleref02_Tree.j0 k a0 l1 true) = some r := by rw [if_neg (show ¬ (false = true) by decide)] at H; exact H
      clear H
      have H := H1
      clear H1
      have H' := Aside0.mk H
      clear H
      go_wp2_with (first | (go_at_call 54; (with_reducible refine (woggleref02_in.calls a0 2 8 false _ A4.out).mono ?_); rintro e w' ⟨rfl, ⟨nd, rfl⟩⟩; (try first | exact ⟨rfl, _, World.drewN_drewN _ _ _⟩ | exact ⟨rfl, _, Eq.trans (World.drewN_drewN _ _ _) (congrArg (World.drewN _) (Nat.add_assoc _ _ _))⟩)))
      repeat (go_quiet (first | (go_at_call 54; (with_reducible refine (woggleref02_in.calls a0 2 8 false _ A4.out).mono ?_); rintro e w' ⟨rfl, ⟨nd, rfl⟩⟩; (try first | exact ⟨rfl, _, World.drewN_drewN _ _ _⟩ | exact ⟨rfl, _, Eq.trans (World.drewN_drewN _ _ _) (congrArg (World.drewN _) (Nat.add_assoc _ _ _))⟩))); try go_wp2_with (first | (go_at_call 54; (with_reducible refine (woggleref02_in.calls a0 2 8 false _ A4.out).mono ?_); rintro e w' ⟨rfl, ⟨nd, rfl⟩⟩; (try first | exact ⟨rfl, _, World.drewN_drewN _ _ _⟩ | exact ⟨rfl, _, Eq.trans (World.drewN_drewN _ _ _) (congrArg (World.drewN _) (Nat.add_assoc _ _ _))⟩))))
      go_meet
      case rel => exact ⟨_, (true), (by first | rfl | (simp; done) | (simp [*]; done)), H', ⟨by first | omega | exact Nat.le_refl _⟩, ⟨by repeat (first | (with_reducible first | exact HB.out | apply below_alloc | apply pw_below_drewN | apply below_drew1) | exact HB.out)⟩⟩
  case rest =>
    clear HC3
    try clear c1
    try clear c2
    try clear p2
    try clear c5
    obtain ⟨kq, x18_2, rfl, HA, HJ2, HB⟩ := hcut
    cases kq with
    | zero => exact absurd HA.out (by simp [woggleref02_Tree.j0])
    | succ kj2 =>
      have H := HA.out
      clear HA
      simp only [woggleref02_Tree.j0] at H
      by_cases c6 : x18_2 = true
      · subst c6
        have H1 : (some false) = some r := by rw [if_pos rfl] at H; exact H
        clear H
        have H := H1
        clear H1
        obtain rfl := Option.some.inj H
        go_wp2
        repeat (go_quiet (fail); try go_wp2)
        go_ret
        exact ⟨by first | rfl | (simp [errW_none, errW_some] <;> rfl) | (simp [*, errW_none, errW_some] <;> rfl), by repeat (first | (with_reducible first | exact HB.out | apply below_alloc | apply pw_below_drewN | apply below_drew1) | exact HB.out)⟩
      · replace c6 := Bool.eq_false_iff.mpr c6
        subst c6
        have H1 : (if 0 ≤ (wrap64 ((wrap64 (2 * a0)) - 1)) then (if (wrap64 ((wrap64 (2 * a0)) - 1) : Int).toNat ≤ 281474976710656 then (woggleref02_Tree.l0 kj2 a0 l1 (List.replicate (wrap64 ((wrap64 (2 * a0)) - 1) : Int).toNat false) 0) else (none)) else (none)) = some r := by rw [if_neg (show ¬ (false = true) by decide)] at H; exact H
        clear H
        have H := H1
        clear H1
        obtain ⟨ji7, hji7⟩ : ∃ j_ : Int, (wrap64 ((wrap64 (2 * a0)) - 1)) = j_ := ⟨_, rfl⟩
        replace H : (if 0 ≤ (ji7) then (if (ji7 : Int).toNat ≤ 281474976710656 then (woggleref02_Tree.l0 kj2 a0 l1 (List.replicate (ji7 : Int).toNat false) 0) else (none)) else (none)) = some r := by first | (rw [hji7] at H; exact H) | (simp only [hji7] at H ⊢; exact H)
        have hji7w : (IntKind.i64.wrap ((wrap64 (2 * a0)) - 1)) = ji7 := (i64_w _).trans hji7
        by_cases c8 : 0 ≤ (ji7)
        · rw [if_pos c8] at H
          have c8b0 := eq_true c8
          have c8b1 : decide (0 ≤ (ji7)) = true := decide_eq_true c8
          clear c8
          by_cases c9 : (ji7 : Int).toNat ≤ 281474976710656
          · rw [if_pos c9] at H
            have c9b0 := eq_true c9
            have c9b1 : decide ((ji7 : Int).toNat ≤ 281474976710656) = true := decide_eq_true c9
            clear c9
            obtain ⟨y165, hy165⟩ : ∃ y_ : List Bool, y_ = (List.replicate (ji7 : Int).toNat false) := ⟨_, rfl⟩
            replace H : (woggleref02_Tree.l0 kj2 a0 l1 y165 0) = some r := by first | (rw [hy165]; with_reducible exact H) | (have H2_ := (Option.bind_some _ _).symm.trans H; rw [hy165]; with_reducible exact H2_) | (have H2_ := (Option.bind_some _ _).symm.trans H; with_reducible exact H2_) | with_reducible exact H | (rw [hy165]; exact H) | exact H
            have Ny165 := Aside0.mk hy165
            clear hy165
            have H' := Aside0.mk H
            clear H
            go_wp2_with (first | ((with_reducible refine gate_dst (N := 22) rfl ?_); (try (refine gate_guard (by rfl) ?_; dsimp only)); refine Kd.R_make Kd.bool _ 4 rfl (N := 22) rfl 89 _ _ rfl ji7 rfl rfl Try.underlying89 (.bool false) 1 info4 rfl (by decide) (by omega) false (ok := fun _ => True) (okp := fun _ => True) rfl (fun _ hk => hk) trivial (of_decide_eq_true (by first | (with_reducible assumption) | assumption)) (Nat.le_trans (Nat.mul_le_mul_right _ (of_decide_eq_true (by first | (with_reducible assumption) | assumption) : ji7.toNat ≤ 281474976710656)) (by omega)) (Below.refl _ _) (Nat.le_refl _) ?_; intro v166 w10 ho11 hb hg_ hnew_; clear hg_ hnew_; (first | rw [← Ny165.out] at ho11 | (simp only [Int.reduceToNat] at ho11; rw [← Ny165.out] at ho11)); have n0_ := Aside0.mk (Kd.R_lower ho11 (below_size (by repeat (first | (with_reducible first | exact HB.out | apply below_alloc | apply pw_below_drewN | apply below_drew1) | exact HB.out)))); have n1_ := Aside0.mk (below_step (by repeat (first | (with_reducible first | exact HB.out | apply below_alloc | apply pw_below_drewN | apply below_drew1) | exact HB.out)) hb); clear HB; have HO167 := n0_; have HB := n1_; clear n0_ n1_; clear hb ho11))
            repeat (go_quiet (first | ((with_reducible refine gate_dst (N := 22) rfl ?_); (try (refine gate_guard (by rfl) ?_; dsimp only)); refine Kd.R_make Kd.bool _ 4 rfl (N := 22) rfl 89 _ _ rfl ji7 rfl rfl Try.underlying89 (.bool false) 1 info4 rfl (by decide) (by omega) false (ok := fun _ => True) (okp := fun _ => True) rfl (fun _ hk => hk) trivial (of_decide_eq_true (by first | (with_reducible assumption) | assumption)) (Nat.le_trans (Nat.mul_le_mul_right _ (of_decide_eq_true (by first | (with_reducible assumption) | assumption) : ji7.toNat ≤ 281474976710656)) (by omega)) (Below.refl _ _) (Nat.le_refl _) ?_; intro v166 w10 ho11 hb hg_ hnew_; clear hg_ hnew_; (first | rw [← Ny165.out] at ho11 | (simp only [Int.reduceToNat] at ho11; rw [← Ny165.out] at ho11)); have n0_ := Aside0.mk (Kd.R_lower ho11 (below_size (by repeat (first | (with_reducible first | exact HB.out | apply below_alloc | apply pw_below_drewN | apply below_drew1) | exact HB.out)))); have n1_ := Aside0.mk (below_step (by repeat (first | (with_reducible first | exact HB.out | apply below_alloc | apply pw_below_drewN | apply below_drew1) | exact HB.out)) hb); clear HB; have HO167 := n0_; have HB := n1_; clear n0_ n1_; clear hb ho11)); try go_wp2_with (first | ((with_reducible refine gate_dst (N := 22) rfl ?_); (try (refine gate_guard (by rfl) ?_; dsimp only)); refine Kd.R_make Kd.bool _ 4 rfl (N := 22) rfl 89 _ _ rfl ji7 rfl rfl Try.underlying89 (.bool false) 1 info4 rfl (by decide) (by omega) false (ok := fun _ => True) (okp := fun _ => True) rfl (fun _ hk => hk) trivial (of_decide_eq_true (by first | (with_reducible assumption) | assumption)) (Nat.le_trans (Nat.mul_le_mul_right _ (of_decide_eq_true (by first | (with_reducible assumption) | assumption) : ji7.toNat ≤ 281474976710656)) (by omega)) (Below.refl _ _) (Nat.le_refl _) ?_; intro v166 w10 ho11 hb hg_ hnew_; clear hg_ hnew_; (first | rw [← Ny165.out] at ho11 | (simp only [Int.reduceToNat] at ho11; rw [← Ny165.out] at ho11)); have n0_ := Aside0.mk (Kd.R_lower ho11 (below_size (by repeat (first | (with_reducible first | exact HB.out | apply below_alloc | apply pw_below_drewN | apply below_drew1) | exact HB.out)))); have n1_ := Aside0.mk (below_step (by repeat (first | (with_reducible first | exact HB.out | apply below_alloc | apply pw_below_drewN | apply below_drew1) | exact HB.out)) hb); clear HB; have HO167 := n0_; have HB := n1_; clear n0_ n1_; clear hb ho11)))
            go_loopg [6] kj2 (fun kq v6 w' => ∃ (x5_2 : List Bool) (x6_2 : Int), v6 = .int .i64 x6_2 ∧ Aside0 (woggleref02_Tree.l0 kq a0 l1 x5_2 x6_2 = some r) ∧ Aside0 (kq ≤ kj2) ∧ Aside0 (Kd.R Kd.bool 4 w' w.heap.size (fun _ => True) v166 x5_2) ∧ Aside0 (Below w.heap.size w w'))
            case atStart => exact ⟨(y165), (0), (by first | rfl | (simp; done) | (simp [*]; done)), H', ⟨Nat.le_refl _⟩, ⟨by (with_reducible repeat (first | apply Kd.R_alloc | apply Kd.R_drewN | apply Kd.R_drew)); exact HO167.out⟩, ⟨by repeat (first | (with_reducible first | exact HB.out | apply below_alloc | apply pw_below_drewN | apply below_drew1) | exact HB.out)⟩⟩
            case round =>
              clear H'
              try clear c1
              try clear c2
              try clear p2
              try clear c5
              try clear c6
              try clear p6
              try clear c8
              try clear c8b0
              try clear c8b1
              try clear c9
              try clear c9b0
              try clear c9b1
              try clear p2
              obtain ⟨x5_2, x6_2, rfl, HA, HK2, HO_5, HB⟩ := hrel
              cases gk with
              | zero => exact absurd HA.out (by simp [woggleref02_Tree.l0])
              | succ k2 =>
                have H := HA.out
                clear HA
                simp only [woggleref02_Tree.l0] at H
                by_cases c12 : x6_2 < (l1.length : Int)
                · rw [if_pos c12] at H
                  have c12b0 : decide (x6_2 < (l1.length : Int)) = true := decide_eq_true c12
                  clear c12
                  by_cases c13 : 0 ≤ x6_2
                  · rw [if_pos c13] at H
                    have c13b0 : decide (0 ≤ x6_2) = true := decide_eq_true c13
                    clear c13
                    replace H := Option.bind_eq_some_iff.mp H
                    obtain ⟨t170, A140, H⟩ := H
                    replace H : (if t170 = true then ((woggleref02_in.f ((rd_T67 l1 x6_2).f1) 0 (wrap64 ((wrap64 (a0 + x6_2)) - 1))).bind fun t171 => (if t171 = true then (if ((rd_T67 l1 x6_2).f0) = ((rd_T67 l1 x6_2).f1) then (some false) else (if 0 ≤ ((rd_T67 l1 x6_2).f0) then (if ((rd_T67 l1 x6_2).f0) < (x5_2.length : Int) then (if rdOf false x5_2 ((rd_T67 l1 x6_2).f0) = true then (some false) else (if 0 ≤ ((rd_T67 l1 x6_2).f1) then (if ((rd_T67 l1 x6_2).f1) < (x5_2.length : Int) then (if rdOf false x5_2 ((rd_T67 l1 x6_2).f1) = true then (some false) else (woggleref02_Tree.l0 k2 a0 l1 ((x5_2.set (((rd_T67 l1 x6_2).f0) : Int).toNat true).set (((rd_T67 l1 x6_2).f1) : Int).toNat true) (wrap64 (x6_2 + 1)))) else (none)) else (none))) else (none)) else (none))) else (some false))) else (some false)) = some r := H
                    have A14 := Aside0.mk A140
                    clear A140
                    by_cases c15 : t170 = true
                    · subst c15
                      have H1 : ((woggleref02_in.f ((rd_T67 l1 x6_2).f1) 0 (wrap64 ((wrap64 (a0 + x6_2)) - 1))).bind fun t171 => (if t171 = true then (if ((rd_T67 l1 x6_2).f0) = ((rd_T67 l1 x6_2).f1) then (some false) else (if 0 ≤ ((rd_T67 l1 x6_2).f0) then (if ((rd_T67 l1 x6_2).f0) < (x5_2.length : Int) then (if rdOf false x5_2 ((rd_T67 l1 x6_2).f0) = true then (some false) else (if 0 ≤ ((rd_T67 l1 x6_2).f1) then (if ((rd_T67 l1 x6_2).f1) < (x5_2.length : Int) then (if rdOf false x5_2 ((rd_T67 l1 x6_2).f1) = true then (some false) else (woggleref02_Tree.l0 k2 a0 l1 ((x5_2.set (((rd_T67 l1 x6_2).f0) : Int).toNat true).set (((rd_T67 l1 x6_2).f1) : Int).toNat true) (wrap64 (x6_2 + 1)))) else (none)) else (none))) else (none)) else (none))) else (some false))) = some r := by rw [if_pos rfl] at H; exact H
                      clear H
                      have H := H1
                      clear H1
                      replace H := Option.bind_eq_some_iff.mp H
                      obtain ⟨t171, A160, H⟩ := H
                      replace H : (if t171 = true then (if ((rd_T67 l1 x6_2).f0) = ((rd_T67 l1 x6_2).f1) then (some false) else (if 0 ≤ ((rd_T67 l1 x6_2).f0) then (if ((rd_T67 l1 x6_2).f0) < (x5_2.length : Int) then (if rdOf false x5_2 ((rd_T67 l1 x6_2).f0) = true then (some false) else (if 0 ≤ ((rd_T67 l1 x6_2).f1) then (if ((rd_T67 l1 x6_2).f1) < (x5_2.length : Int) then (if rdOf false x5_2 ((rd_T67 l1 x6_2).f1) = true then (some false) else (woggleref02_Tree.l0 k2 a0 l1 ((x5_2.set (((rd_T67 l1 x6_2).f0) : Int).toNat true).set (((rd_T67 l1 x6_2).f1) : Int).toNat true) (wrap64 (x6_2 + 1)))) else (none)) else (none))) else (none)) else (none))) else (some false)) = some r := H
                      have A16 := Aside0.mk A160
                      clear A160
                      by_cases c17 : t171 = true
                      · subst c17
                        have H1 : (if ((rd_T67 l1 x6_2).f0) = ((rd_T67 l1 x6_2).f1) then (some false) else (if 0 ≤ ((rd_T67 l1 x6_2).f0) then (if ((rd_T67 l1 x6_2).f0) < (x5_2.length : Int) then (if rdOf false x5_2 ((rd_T67 l1 x6_2).f0) = true then (some false) else (if 0 ≤ ((rd_T67 l1 x6_2).f1) then (if ((rd_T67 l1 x6_2).f1) < (x5_2.length : Int) then (if rdOf false x5_2 ((rd_T67 l1 x6_2).f1) = true then (some false) else (woggleref02_Tree.l0 k2 a0 l1 ((x5_2.set (((rd_T67 l1 x6_2).f0) : Int).toNat true).set (((rd_T67 l1 x6_2).f1) : Int).toNat true) (wrap64 (x6_2 + 1)))) else (none)) else (none))) else (none)) else (none))) = some r := by rw [if_pos rfl] at H; exact H
                        clear H
                        have H := H1
                        clear H1
                        by_cases c18 : ((rd_T67 l1 x6_2).f0) = ((rd_T67 l1 x6_2).f1)
                        · rw [if_pos c18] at H
                          have c18b0 : (((rd_T67 l1 x6_2).f0) == ((rd_T67 l1 x6_2).f1)) = true := beq_iff_eq.mpr c18
                          have c18b1 : (((rd_T67 l1 x6_2).f0) != ((rd_T67 l1 x6_2).f1)) = false := bne_eq_false_iff_eq.mpr c18
                          clear c18
                          obtain rfl := Option.some.inj H
                          have p168 : 0 ≤ (x6_2 : Int) := of_decide_eq_true (by first | (with_reducible assumption) | assumption)
                          have q168 : x6_2 < (l1.length : Int) := of_decide_eq_true (by first | (with_reducible assumption) | assumption)
                          obtain ⟨ad168, e168, hx168_0, hx168_1⟩ := at_T67 HR1.out x6_2 p168 q168
                          cases e168
                          replace hx168_0 := (HB.out.cell (World.block_lt_of_cell? w _ hx168_0)).trans hx168_0
                          replace hx168_1 := (HB.out.cell (World.block_lt_of_cell? w _ hx168_1)).trans hx168_1
                          replace p168 := eq_true p168
                          replace q168 := eq_true q168
                          have p169 : 0 ≤ (x6_2 : Int) := of_decide_eq_true (by first | (with_reducible assumption) | assumption)
                          have q169 : x6_2 < (l1.length : Int) := of_decide_eq_true (by first | (with_reducible assumption) | assumption)
                          obtain ⟨ad169, e169, hx169_0, hx169_1⟩ := at_T67 HR1.out x6_2 p169 q169
                          obtain rfl : ad168 = ad169 := (by injection e169)
                          replace hx169_0 := (HB.out.cell (World.block_lt_of_cell? w _ hx169_0)).trans hx169_0
                          replace hx169_1 := (HB.out.cell (World.block_lt_of_cell? w _ hx169_1)).trans hx169_1
                          replace p169 := eq_true p169
                          replace q169 := eq_true q169
                          go_wp2_with (first | (go_at_call 54; (first | (with_reducible refine (woggleref02_in.calls ((rd_T67 l1 x6_2).f0) 0 (wrap64 ((wrap64 (a0 + x6_2)) - 1)) true _ A14.out).mono ?_) | (simp only [i64_w, i32_w]; with_reducible refine (woggleref02_in.calls ((rd_T67 l1 x6_2).f0) 0 (wrap64 ((wrap64 (a0 + x6_2)) - 1)) true _ A14.out).mono ?_)); rintro e w' ⟨rfl, ⟨nd, rfl⟩⟩; (try first | exact ⟨rfl, _, World.drewN_drewN _ _ _⟩ | exact ⟨rfl, _, Eq.trans (World.drewN_drewN _ _ _) (congrArg (World.drewN _) (Nat.add_assoc _ _ _))⟩)) | (go_at_call 54; (first | (with_reducible refine (woggleref02_in.calls ((rd_T67 l1 x6_2).f1) 0 (wrap64 ((wrap64 (a0 + x6_2)) - 1)) true _ A16.out).mono ?_) | (simp only [i64_w, i32_w]; with_reducible refine (woggleref02_in.calls ((rd_T67 l1 x6_2).f1) 0 (wrap64 ((wrap64 (a0 + x6_2)) - 1)) true _ A16.out).mono ?_)); rintro e w' ⟨rfl, ⟨nd, rfl⟩⟩; (try first | exact ⟨rfl, _, World.drewN_drewN _ _ _⟩ | exact ⟨rfl, _, Eq.trans (World.drewN_drewN _ _ _) (congrArg (World.drewN _) (Nat.add_assoc _ _ _))⟩)))
                          repeat (go_quiet (first | (go_at_call 54; (first | (with_reducible refine (woggleref02_in.calls ((rd_T67 l1 x6_2).f0) 0 (wrap64 ((wrap64 (a0 + x6_2)) - 1)) true _ A14.out).mono ?_) | (simp only [i64_w, i32_w]; with_reducible refine (woggleref02_in.calls ((rd_T67 l1 x6_2).f0) 0 (wrap64 ((wrap64 (a0 + x6_2)) - 1)) true _ A14.out).mono ?_)); rintro e w' ⟨rfl, ⟨nd, rfl⟩⟩; (try first | exact ⟨rfl, _, World.drewN_drewN _ _ _⟩ | exact ⟨rfl, _, Eq.trans (World.drewN_drewN _ _ _) (congrArg (World.drewN _) (Nat.add_assoc _ _ _))⟩)) | (go_at_call 54; (first | (with_reducible refine (woggleref02_in.calls ((rd_T67 l1 x6_2).f1) 0 (wrap64 ((wrap64 (a0 + x6_2)) - 1)) true _ A16.out).mono ?_) | (simp only [i64_w, i32_w]; with_reducible refine (woggleref02_in.calls ((rd_T67 l1 x6_2).f1) 0 (wrap64 ((wrap64 (a0 + x6_2)) - 1)) true _ A16.out).mono ?_)); rintro e w' ⟨rfl, ⟨nd, rfl⟩⟩; (try first | exact ⟨rfl, _, World.drewN_drewN _ _ _⟩ | exact ⟨rfl, _, Eq.trans (World.drewN_drewN _ _ _) (congrArg (World.drewN _) (Nat.add_assoc _ _ _))⟩))); try go_wp2_with (first | (go_at_call 54; (first | (with_reducible refine (woggleref02_in.calls ((rd_T67 l1 x6_2).f0) 0 (wrap64 ((wrap64 (a0 + x6_2)) - 1)) true _ A14.out).mono ?_) | (simp only [i64_w, i32_w]; with_reducible refine (woggleref02_in.calls ((rd_T67 l1 x6_2).f0) 0 (wrap64 ((wrap64 (a0 + x6_2)) - 1)) true _ A14.out).mono ?_)); rintro e w' ⟨rfl, ⟨nd, rfl⟩⟩; (try first | exact ⟨rfl, _, World.drewN_drewN _ _ _⟩ | exact ⟨rfl, _, Eq.trans (World.drewN_drewN _ _ _) (congrArg (World.drewN _) (Nat.add_assoc _ _ _))⟩)) | (go_at_call 54; (first | (with_reducible refine (woggleref02_in.calls ((rd_T67 l1 x6_2).f1) 0 (wrap64 ((wrap64 (a0 + x6_2)) - 1)) true _ A16.out).mono ?_) | (simp only [i64_w, i32_w]; with_reducible refine (woggleref02_in.calls ((rd_T67 l1 x6_2).f1) 0 (wrap64 ((wrap64 (a0 + x6_2)) - 1)) true _ A16.out).mono ?_)); rintro e w' ⟨rfl, ⟨nd, rfl⟩⟩; (try first | exact ⟨rfl, _, World.drewN_drewN _ _ _⟩ | exact ⟨rfl, _, Eq.trans (World.drewN_drewN _ _ _) (congrArg (World.drewN _) (Nat.add_assoc _ _ _))⟩))))
                          go_ret
                          exact ⟨by first | rfl | (simp [errW_none, errW_some] <;> rfl) | (simp only [← hji7]; first | rfl | (simp [errW_none, errW_some] <;> rfl)) | (simp [*, errW_none, errW_some] <;> rfl), by repeat (first | (with_reducible first | exact HB.out | apply below_alloc | apply pw_below_drewN | apply below_drew1) | exact HB.out)⟩
                        · rw [if_neg c18] at H
                          have c18b0 : (((rd_T67 l1 x6_2).f0) == ((rd_T67 l1 x6_2).f1)) = false := beq_eq_false_iff_ne.mpr c18
                          have c18b1 : (((rd_T67 l1 x6_2).f0) != ((rd_T67 l1 x6_2).f1)) = true := bne_iff_ne.mpr c18
                          by_cases c19 : 0 ≤ ((rd_T67 l1 x6_2).f0)
                          · rw [if_pos c19] at H
                            have c19b0 : decide (0 ≤ ((rd_T67 l1 x6_2).f0)) = true := decide_eq_true c19
                            clear c19
                            by_cases c20 : ((rd_T67 l1 x6_2).f0) < (x5_2.length : Int)
                            · rw [if_pos c20] at H
                              have c20b0 : decide (((rd_T67 l1 x6_2).f0) < (x5_2.length : Int)) = true := decide_eq_true c20
                              clear c20
                              obtain ⟨bq21, hbq21⟩ : ∃ b_ : Bool, b_ = (rdOf false x5_2 ((rd_T67 l1 x6_2).f0)) := ⟨_, rfl⟩
                              replace H : (if bq21 = true then (some false) else (if 0 ≤ ((rd_T67 l1 x6_2).f1) then (if ((rd_T67 l1 x6_2).f1) < (x5_2.length : Int) then (if rdOf false x5_2 ((rd_T67 l1 x6_2).f1) = true then (some false) else (woggleref02_Tree.l0 k2 a0 l1 ((x5_2.set (((rd_T67 l1 x6_2).f0) : Int).toNat true).set (((rd_T67 l1 x6_2).f1) : Int).toNat true) (wrap64 (x6_2 + 1)))) else (none)) else (none))) = some r := by rw [← hbq21] at H; exact H
                              have Nbq21 := Aside0.mk hbq21
                              clear hbq21
                              by_cases c22 : bq21 = true
                              · subst c22
                                have H1 : (some false) = some r := by rw [if_pos rfl] at H; exact H
                                clear H
                                have H := H1
                                clear H1
                                obtain rfl := Option.some.inj H
                                have p168 : 0 ≤ (x6_2 : Int) := of_decide_eq_true (by first | (with_reducible assumption) | assumption)
                                have q168 : x6_2 < (l1.length : Int) := of_decide_eq_true (by first | (with_reducible assumption) | assumption)
                                obtain ⟨ad168, e168, hx168_0, hx168_1⟩ := at_T67 HR1.out x6_2 p168 q168
                                cases e168
                                replace hx168_0 := (HB.out.cell (World.block_lt_of_cell? w _ hx168_0)).trans hx168_0
                                replace hx168_1 := (HB.out.cell (World.block_lt_of_cell? w _ hx168_1)).trans hx168_1
                                replace p168 := eq_true p168
                                replace q168 := eq_true q168
                                have p169 : 0 ≤ (x6_2 : Int) := of_decide_eq_true (by first | (with_reducible assumption) | assumption)
                                have q169 : x6_2 < (l1.length : Int) := of_decide_eq_true (by first | (with_reducible assumption) | assumption)
                                obtain ⟨ad169, e169, hx169_0, hx169_1⟩ := at_T67 HR1.out x6_2 p169 q169
                                obtain rfl : ad168 = ad169 := (by injection e169)
                                replace hx169_0 := (HB.out.cell (World.block_lt_of_cell? w _ hx169_0)).trans hx169_0
                                replace hx169_1 := (HB.out.cell (World.block_lt_of_cell? w _ hx169_1)).trans hx169_1
                                replace p169 := eq_true p169
                                replace q169 := eq_true q169
                                go_wp2_with (first | (go_at_call 54; (first | (with_reducible refine (woggleref02_in.calls ((rd_T67 l1 x6_2).f0) 0 (wrap64 ((wrap64 (a0 + x6_2)) - 1)) true _ A14.out).mono ?_) | (simp only [i64_w, i32_w]; with_reducible refine (woggleref02_in.calls ((rd_T67 l1 x6_2).f0) 0 (wrap64 ((wrap64 (a0 + x6_2)) - 1)) true _ A14.out).mono ?_)); rintro e w' ⟨rfl, ⟨nd, rfl⟩⟩; (try first | exact ⟨rfl, _, World.drewN_drewN _ _ _⟩ | exact ⟨rfl, _, Eq.trans (World.drewN_drewN _ _ _) (congrArg (World.drewN _) (Nat.add_assoc _ _ _))⟩)) | (go_at_call 54; (first | (with_reducible refine (woggleref02_in.calls ((rd_T67 l1 x6_2).f1) 0 (wrap64 ((wrap64 (a0 + x6_2)) - 1)) true _ A16.out).mono ?_) | (simp only [i64_w, i32_w]; with_reducible refine (woggleref02_in.calls ((rd_T67 l1 x6_2).f1) 0 (wrap64 ((wrap64 (a0 + x6_2)) - 1)) true _ A16.out).mono ?_)); rintro e w' ⟨rfl, ⟨nd, rfl⟩⟩; (try first | exact ⟨rfl, _, World.drewN_drewN _ _ _⟩ | exact ⟨rfl, _, Eq.trans (World.drewN_drewN _ _ _) (congrArg (World.drewN _) (Nat.add_assoc _ _ _))⟩); obtain ⟨Ao23, co23, eo23⟩ := Kd.R_slice HO_5.out; subst eo23; have p172 : 0 ≤ (((rd_T67 l1 x6_2).f0) : Int) := of_decide_eq_true (by first | (with_reducible assumption) | assumption); have q172 : ((rd_T67 l1 x6_2).f0) < (x5_2.length : Int) := of_decide_eq_true (by first | (with_reducible assumption) | assumption); obtain ⟨ad172, e172, hx172_0⟩ := Kd.at_bool (Kd.R_reads' HO_5.out).2.2 ((rd_T67 l1 x6_2).f0) p172 q172; (try rw [← Nbq21.out] at hx172_0); cases e172; replace p172 := eq_true p172; replace q172 := eq_true q172))
                                repeat (go_quiet (first | (go_at_call 54; (first | (with_reducible refine (woggleref02_in.calls ((rd_T67 l1 x6_2).f0) 0 (wrap64 ((wrap64 (a0 + x6_2)) - 1)) true _ A14.out).mono ?_) | (simp only [i64_w, i32_w]; with_reducible refine (woggleref02_in.calls ((rd_T67 l1 x6_2).f0) 0 (wrap64 ((wrap64 (a0 + x6_2)) - 1)) true _ A14.out).mono ?_)); rintro e w' ⟨rfl, ⟨nd, rfl⟩⟩; (try first | exact ⟨rfl, _, World.drewN_drewN _ _ _⟩ | exact ⟨rfl, _, Eq.trans (World.drewN_drewN _ _ _) (congrArg (World.drewN _) (Nat.add_assoc _ _ _))⟩)) | (go_at_call 54; (first | (with_reducible refine (woggleref02_in.calls ((rd_T67 l1 x6_2).f1) 0 (wrap64 ((wrap64 (a0 + x6_2)) - 1)) true _ A16.out).mono ?_) | (simp only [i64_w, i32_w]; with_reducible refine (woggleref02_in.calls ((rd_T67 l1 x6_2).f1) 0 (wrap64 ((wrap64 (a0 + x6_2)) - 1)) true _ A16.out).mono ?_)); rintro e w' ⟨rfl, ⟨nd, rfl⟩⟩; (try first | exact ⟨rfl, _, World.drewN_drewN _ _ _⟩ | exact ⟨rfl, _, Eq.trans (World.drewN_drewN _ _ _) (congrArg (World.drewN _) (Nat.add_assoc _ _ _))⟩); obtain ⟨Ao23, co23, eo23⟩ := Kd.R_slice HO_5.out; subst eo23; have p172 : 0 ≤ (((rd_T67 l1 x6_2).f0) : Int) := of_decide_eq_true (by first | (with_reducible assumption) | assumption); have q172 : ((rd_T67 l1 x6_2).f0) < (x5_2.length : Int) := of_decide_eq_true (by first | (with_reducible assumption) | assumption); obtain ⟨ad172, e172, hx172_0⟩ := Kd.at_bool (Kd.R_reads' HO_5.out).2.2 ((rd_T67 l1 x6_2).f0) p172 q172; (try rw [← Nbq21.out] at hx172_0); cases e172; replace p172 := eq_true p172; replace q172 := eq_true q172)); try go_wp2_with (first | (go_at_call 54; (first | (with_reducible refine (woggleref02_in.calls ((rd_T67 l1 x6_2).f0) 0 (wrap64 ((wrap64 (a0 + x6_2)) - 1)) true _ A14.out).mono ?_) | (simp only [i64_w, i32_w]; with_reducible refine (woggleref02_in.calls ((rd_T67 l1 x6_2).f0) 0 (wrap64 ((wrap64 (a0 + x6_2)) - 1)) true _ A14.out).mono ?_)); rintro e w' ⟨rfl, ⟨nd, rfl⟩⟩; (try first | exact ⟨rfl, _, World.drewN_drewN _ _ _⟩ | exact ⟨rfl, _, Eq.trans (World.drewN_drewN _ _ _) (congrArg (World.drewN _) (Nat.add_assoc _ _ _))⟩)) | (go_at_call 54; (first | (with_reducible refine (woggleref02_in.calls ((rd_T67 l1 x6_2).f1) 0 (wrap64 ((wrap64 (a0 + x6_2)) - 1)) true _ A16.out).mono ?_) | (simp only [i64_w, i32_w]; with_reducible refine (woggleref02_in.calls ((rd_T67 l1 x6_2).f1) 0 (wrap64 ((wrap64 (a0 + x6_2)) - 1)) true _ A16.out).mono ?_)); rintro e w' ⟨rfl, ⟨nd, rfl⟩⟩; (try first | exact ⟨rfl, _, World.drewN_drewN _ _ _⟩ | exact ⟨rfl, _, Eq.trans (World.drewN_drewN _ _ _) (congrArg (World.drewN _) (Nat.add_assoc _ _ _))⟩); obtain ⟨Ao23, co23, eo23⟩ := Kd.R_slice HO_5.out; subst eo23; have p172 : 0 ≤ (((rd_T67 l1 x6_2).f0) : Int) := of_decide_eq_true (by first | (with_reducible assumption) | assumption); have q172 : ((rd_T67 l1 x6_2).f0) < (x5_2.length : Int) := of_decide_eq_true (by first | (with_reducible assumption) | assumption); obtain ⟨ad172, e172, hx172_0⟩ := Kd.at_bool (Kd.R_reads' HO_5.out).2.2 ((rd_T67 l1 x6_2).f0) p172 q172; (try rw [← Nbq21.out] at hx172_0); cases e172; replace p172 := eq_true p172; replace q172 := eq_true q172)))
                                go_ret
                                exact ⟨by first | rfl | (simp [errW_none, errW_some] <;> rfl) | (simp only [← hji7]; first | rfl | (simp [errW_none, errW_some] <;> rfl)) | (simp [*, errW_none, errW_some] <;> rfl), by repeat (first | (with_reducible first | exact HB.out | apply below_alloc | apply pw_below_drewN | apply below_drew1) | exact HB.out)⟩
                              · replace c22 := Bool.eq_false_iff.mpr c22
                                subst c22
                                have H1 : (if 0 ≤ ((rd_T67 l1 x6_2).f1) then (if ((rd_T67 l1 x6_2).f1) < (x5_2.length : Int) then (if rdOf false x5_2 ((rd_T67 l1 x6_2).f1) = true then (some false) else (woggleref02_Tree.l0 k2 a0 l1 ((x5_2.set (((rd_T67 l1 x6_2).f0) : Int).toNat true).set (((rd_T67 l1 x6_2).f1) : Int).toNat true) (wrap64 (x6_2 + 1)))) else (none)) else (none)) = some r := by rw [if_neg (show ¬ (false = true) by decide)] at H; exact H
                                clear H
                                have H := H1
                                clear H1
                                by_cases c24 : 0 ≤ ((rd_T67 l1 x6_2).f1)
                                · rw [if_pos c24] at H
                                  have c24b0 : decide (0 ≤ ((rd_T67 l1 x6_2).f1)) = true := decide_eq_true c24
                                  clear c24
                                  by_cases c25 : ((rd_T67 l1 x6_2).f1) < (x5_2.length : Int)
                                  · rw [if_pos c25] at H
                                    have c25b0 : decide (((rd_T67 l1 x6_2).f1) < (x5_2.length : Int)) = true := decide_eq_true c25
                                    clear c25
                                    obtain ⟨bq26, hbq26⟩ : ∃ b_ : Bool, b_ = (rdOf false x5_2 ((rd_T67 l1 x6_2).f1)) := ⟨_, rfl⟩
                                    replace H : (if bq26 = true then (some false) else (woggleref02_Tree.l0 k2 a0 l1 ((x5_2.set (((rd_T67 l1 x6_2).f0) : Int).toNat true).set (((rd_T67 l1 x6_2).f1) : Int).toNat true) (wrap64 (x6_2 + 1)))) = some r := by rw [← hbq26] at H; exact H
                                    have Nbq26 := Aside0.mk hbq26
                                    clear hbq26
                                    by_cases c27 : bq26 = true
                                    · subst c27
                                      have H1 : (some false) = some r := by rw [if_pos rfl] at H; exact H
                                      clear H
                                      have H := H1
                                      clear H1
                                      obtain rfl := Option.some.inj H
                                      have p168 : 0 ≤ (x6_2 : Int) := of_decide_eq_true (by first | (with_reducible assumption) | assumption)
                                      have q168 : x6_2 < (l1.length : Int) := of_decide_eq_true (by first | (with_reducible assumption) | assumption)
                                      obtain ⟨ad168, e168, hx168_0, hx168_1⟩ := at_T67 HR1.out x6_2 p168 q168
                                      cases e168
                                      replace hx168_0 := (HB.out.cell (World.block_lt_of_cell? w _ hx168_0)).trans hx168_0
                                      replace hx168_1 := (HB.out.cell (World.block_lt_of_cell? w _ hx168_1)).trans hx168_1
                                      replace p168 := eq_true p168
                                      replace q168 := eq_true q168
                                      have p169 : 0 ≤ (x6_2 : Int) := of_decide_eq_true (by first | (with_reducible assumption) | assumption)
                                      have q169 : x6_2 < (l1.length : Int) := of_decide_eq_true (by first | (with_reducible assumption) | assumption)
                                      obtain ⟨ad169, e169, hx169_0, hx169_1⟩ := at_T67 HR1.out x6_2 p169 q169
                                      obtain rfl : ad168 = ad169 := (by injection e169)
                                      replace hx169_0 := (HB.out.cell (World.block_lt_of_cell? w _ hx169_0)).trans hx169_0
                                      replace hx169_1 := (HB.out.cell (World.block_lt_of_cell? w _ hx169_1)).trans hx169_1
                                      replace p169 := eq_true p169
                                      replace q169 := eq_true q169
                                      go_wp2_with (first | (go_at_call 54; (first | (with_reducible refine (woggleref02_in.calls ((rd_T67 l1 x6_2).f0) 0 (wrap64 ((wrap64 (a0 + x6_2)) - 1)) true _ A14.out).mono ?_) | (simp only [i64_w, i32_w]; with_reducible refine (woggleref02_in.calls ((rd_T67 l1 x6_2).f0) 0 (wrap64 ((wrap64 (a0 + x6_2)) - 1)) true _ A14.out).mono ?_)); rintro e w' ⟨rfl, ⟨nd, rfl⟩⟩; (try first | exact ⟨rfl, _, World.drewN_drewN _ _ _⟩ | exact ⟨rfl, _, Eq.trans (World.drewN_drewN _ _ _) (congrArg (World.drewN _) (Nat.add_assoc _ _ _))⟩)) | (go_at_call 54; (first | (with_reducible refine (woggleref02_in.calls ((rd_T67 l1 x6_2).f1) 0 (wrap64 ((wrap64 (a0 + x6_2)) - 1)) true _ A16.out).mono ?_) | (simp only [i64_w, i32_w]; with_reducible refine (woggleref02_in.calls ((rd_T67 l1 x6_2).f1) 0 (wrap64 ((wrap64 (a0 + x6_2)) - 1)) true _ A16.out).mono ?_)); rintro e w' ⟨rfl, ⟨nd, rfl⟩⟩; (try first | exact ⟨rfl, _, World.drewN_drewN _ _ _⟩ | exact ⟨rfl, _, Eq.trans (World.drewN_drewN _ _ _) (congrArg (World.drewN _) (Nat.add_assoc _ _ _))⟩); obtain ⟨Ao28, co28, eo28⟩ := Kd.R_slice HO_5.out; subst eo28; have p172 : 0 ≤ (((rd_T67 l1 x6_2).f0) : Int) := of_decide_eq_true (by first | (with_reducible assumption) | assumption); have q172 : ((rd_T67 l1 x6_2).f0) < (x5_2.length : Int) := of_decide_eq_true (by first | (with_reducible assumption) | assumption); obtain ⟨ad172, e172, hx172_0⟩ := Kd.at_bool (Kd.R_reads' HO_5.out).2.2 ((rd_T67 l1 x6_2).f0) p172 q172; (try rw [← Nbq21.out] at hx172_0); (try rw [← Nbq26.out] at hx172_0); cases e172; replace p172 := eq_true p172; replace q172 := eq_true q172; have p173 : 0 ≤ (((rd_T67 l1 x6_2).f1) : Int) := of_decide_eq_true (by first | (with_reducible assumption) | assumption); have q173 : ((rd_T67 l1 x6_2).f1) < (x5_2.length : Int) := of_decide_eq_true (by first | (with_reducible assumption) | assumption); obtain ⟨ad173, e173, hx173_0⟩ := Kd.at_bool (Kd.R_reads' HO_5.out).2.2 ((rd_T67 l1 x6_2).f1) p173 q173; (try rw [← Nbq21.out] at hx173_0); (try rw [← Nbq26.out] at hx173_0); obtain rfl : ad172 = ad173 := (by injection e173); replace p173 := eq_true p173; replace q173 := eq_true q173))
                                      repeat (go_quiet (first | (go_at_call 54; (first | (with_reducible refine (woggleref02_in.calls ((rd_T67 l1 x6_2).f0) 0 (wrap64 ((wrap64 (a0 + x6_2)) - 1)) true _ A14.out).mono ?_) | (simp only [i64_w, i32_w]; with_reducible refine (woggleref02_in.calls ((rd_T67 l1 x6_2).f0) 0 (wrap64 ((wrap64 (a0 + x6_2)) - 1)) true _ A14.out).mono ?_)); rintro e w' ⟨rfl, ⟨nd, rfl⟩⟩; (try first | exact ⟨rfl, _, World.drewN_drewN _ _ _⟩ | exact ⟨rfl, _, Eq.trans (World.drewN_drewN _ _ _) (congrArg (World.drewN _) (Nat.add_assoc _ _ _))⟩)) | (go_at_call 54; (first | (with_reducible refine (woggleref02_in.calls ((rd_T67 l1 x6_2).f1) 0 (wrap64 ((wrap64 (a0 + x6_2)) - 1)) true _ A16.out).mono ?_) | (simp only [i64_w, i32_w]; with_reducible refine (woggleref02_in.calls ((rd_T67 l1 x6_2).f1) 0 (wrap64 ((wrap64 (a0 + x6_2)) - 1)) true _ A16.out).mono ?_)); rintro e w' ⟨rfl, ⟨nd, rfl⟩⟩; (try first | exact ⟨rfl, _, World.drewN_drewN _ _ _⟩ | exact ⟨rfl, _, Eq.trans (World.drewN_drewN _ _ _) (congrArg (World.drewN _) (Nat.add_assoc _ _ _))⟩); obtain ⟨Ao28, co28, eo28⟩ := Kd.R_slice HO_5.out; subst eo28; have p172 : 0 ≤ (((rd_T67 l1 x6_2).f0) : Int) := of_decide_eq_true (by first | (with_reducible assumption) | assumption); have q172 : ((rd_T67 l1 x6_2).f0) < (x5_2.length : Int) := of_decide_eq_true (by first | (with_reducible assumption) | assumption); obtain ⟨ad172, e172, hx172_0⟩ := Kd.at_bool (Kd.R_reads' HO_5.out).2.2 ((rd_T67 l1 x6_2).f0) p172 q172; (try rw [← Nbq21.out] at hx172_0); (try rw [← Nbq26.out] at hx172_0); cases e172; replace p172 := eq_true p172; replace q172 := eq_true q172; have p173 : 0 ≤ (((rd_T67 l1 x6_2).f1) : Int) := of_decide_eq_true (by first | (with_reducible assumption) | assumption); have q173 : ((rd_T67 l1 x6_2).f1) < (x5_2.length : Int) := of_decide_eq_true (by first | (with_reducible assumption) | assumption); obtain ⟨ad173, e173, hx173_0⟩ := Kd.at_bool (Kd.R_reads' HO_5.out).2.2 ((rd_T67 l1 x6_2).f1) p173 q173; (try rw [← Nbq21.out] at hx173_0); (try rw [← Nbq26.out] at hx173_0); obtain rfl : ad172 = ad173 := (by injection e173); replace p173 := eq_true p173; replace q173 := eq_true q173)); try go_wp2_with (first | (go_at_call 54; (first | (with_reducible refine (woggleref02_in.calls ((rd_T67 l1 x6_2).f0) 0 (wrap64 ((wrap64 (a0 + x6_2)) - 1)) true _ A14.out).mono ?_) | (simp only [i64_w, i32_w]; with_reducible refine (woggleref02_in.calls ((rd_T67 l1 x6_2).f0) 0 (wrap64 ((wrap64 (a0 + x6_2)) - 1)) true _ A14.out).mono ?_)); rintro e w' ⟨rfl, ⟨nd, rfl⟩⟩; (try first | exact ⟨rfl, _, World.drewN_drewN _ _ _⟩ | exact ⟨rfl, _, Eq.trans (World.drewN_drewN _ _ _) (congrArg (World.drewN _) (Nat.add_assoc _ _ _))⟩)) | (go_at_call 54; (first | (with_reducible refine (woggleref02_in.calls ((rd_T67 l1 x6_2).f1) 0 (wrap64 ((wrap64 (a0 + x6_2)) - 1)) true _ A16.out).mono ?_) | (simp only [i64_w, i32_w]; with_reducible refine (woggleref02_in.calls ((rd_T67 l1 x6_2).f1) 0 (wrap64 ((wrap64 (a0 + x6_2)) - 1)) true _ A16.out).mono ?_)); rintro e w' ⟨rfl, ⟨nd, rfl⟩⟩; (try first | exact ⟨rfl, _, World.drewN_drewN _ _ _⟩ | exact ⟨rfl, _, Eq.trans (World.drewN_drewN _ _ _) (congrArg (World.drewN _) (Nat.add_assoc _ _ _))⟩); obtain ⟨Ao28, co28, eo28⟩ := Kd.R_slice HO_5.out; subst eo28; have p172 : 0 ≤ (((rd_T67 l1 x6_2).f0) : Int) := of_decide_eq_true (by first | (with_reducible assumption) | assumption); have q172 : ((rd_T67 l1 x6_2).f0) < (x5_2.length : Int) := of_decide_eq_true (by first | (with_reducible assumption) | assumption); obtain ⟨ad172, e172, hx172_0⟩ := Kd.at_bool (Kd.R_reads' HO_5.out).2.2 ((rd_T67 l1 x6_2).f0) p172 q172; (try rw [← Nbq21.out] at hx172_0); (try rw [← Nbq26.out] at hx172_0); cases e172; replace p172 := eq_true p172; replace q172 := eq_true q172; have p173 : 0 ≤ (((rd_T67 l1 x6_2).f1) : Int) := of_decide_eq_true (by first | (with_reducible assumption) | assumption); have q173 : ((rd_T67 l1 x6_2).f1) < (x5_2.length : Int) := of_decide_eq_true (by first | (with_reducible assumption) | assumption); obtain ⟨ad173, e173, hx173_0⟩ := Kd.at_bool (Kd.R_reads' HO_5.out).2.2 ((rd_T67 l1 x6_2).f1) p173 q173; (try rw [← Nbq21.out] at hx173_0); (try rw [← Nbq26.out] at hx173_0); obtain rfl : ad172 = ad173 := (by injection e173); replace p173 := eq_true p173; replace q173 := eq_true q173)))
                                      go_ret
                                      exact ⟨by first | rfl | (simp [errW_none, errW_some] <;> rfl) | (simp only [← hji7]; first | rfl | (simp [errW_none, errW_some] <;> rfl)) | (simp [*, errW_none, errW_some] <;> rfl), by repeat (first | (with_reducible first | exact HB.out | apply below_alloc | apply pw_below_drewN | apply below_drew1) | exact HB.out)⟩
                                    · replace c27 := Bool.eq_false_iff.mpr c27
                                      subst c27
                                      have H1 : (woggleref02_Tree.l0 k2 a0 l1 ((x5_2.set (((rd_T67 l1 x6_2).f0) : Int).toNat true).set (((rd_T67 l1 x6_2).f1) : Int).toNat true) (wrap64 (x6_2 + 1))) = some r := by rw [if_neg (show ¬ (false = true) by decide)] at H; exact H
                                      clear H
                                      have H := H1
                                      clear H1
                                      obtain ⟨y174, hy174⟩ : ∃ y_ : List Bool, y_ = (x5_2.set (((rd_T67 l1 x6_2).f0) : Int).toNat true) := ⟨_, rfl⟩
                                      replace H : (woggleref02_Tree.l0 k2 a0 l1 (y174.set (((rd_T67 l1 x6_2).f1) : Int).toNat true) (wrap64 (x6_2 + 1))) = some r := by first | (rw [hy174]; with_reducible exact H) | (have H2_ := (Option.bind_some _ _).symm.trans H; rw [hy174]; with_reducible exact H2_) | (have H2_ := (Option.bind_some _ _).symm.trans H; with_reducible exact H2_) | with_reducible exact H | (rw [hy174]; exact H) | exact H
                                      have Ny174 := Aside0.mk hy174
                                      clear hy174
                                      obtain ⟨y175, hy175⟩ : ∃ y_ : List Bool, y_ = (y174.set (((rd_T67 l1 x6_2).f1) : Int).toNat true) := ⟨_, rfl⟩
                                      replace H : (woggleref02_Tree.l0 k2 a0 l1 y175 (wrap64 (x6_2 + 1))) = some r := by first | (rw [hy175]; with_reducible exact H) | (have H2_ := (Option.bind_some _ _).symm.trans H; rw [hy175]; with_reducible exact H2_) | (have H2_ := (Option.bind_some _ _).symm.trans H; with_reducible exact H2_) | with_reducible exact H | (rw [hy175]; exact H) | exact H
                                      have Ny175 := Aside0.mk hy175
                                      clear hy175
                                      have H' := Aside0.mk H
                                      clear H
                                      have p168 : 0 ≤ (x6_2 : Int) := of_decide_eq_true (by first | (with_reducible assumption) | assumption)
                                      have q168 : x6_2 < (l1.length : Int) := of_decide_eq_true (by first | (with_reducible assumption) | assumption)
                                      obtain ⟨ad168, e168, hx168_0, hx168_1⟩ := at_T67 HR1.out x6_2 p168 q168
                                      cases e168
                                      replace hx168_0 := (HB.out.cell (World.block_lt_of_cell? w _ hx168_0)).trans hx168_0
                                      replace hx168_1 := (HB.out.cell (World.block_lt_of_cell? w _ hx168_1)).trans hx168_1
                                      replace p168 := eq_true p168
                                      replace q168 := eq_true q168
                                      have p169 : 0 ≤ (x6_2 : Int) := of_decide_eq_true (by first | (with_reducible assumption) | assumption)
                                      have q169 : x6_2 < (l1.length : Int) := of_decide_eq_true (by first | (with_reducible assumption) | assumption)
                                      obtain ⟨ad169, e169, hx169_0, hx169_1⟩ := at_T67 HR1.out x6_2 p169 q169
                                      obtain rfl : ad168 = ad169 := (by injection e169)
                                      replace hx169_0 := (HB.out.cell (World.block_lt_of_cell? w _ hx169_0)).trans hx169_0
                                      replace hx169_1 := (HB.out.cell (World.block_lt_of_cell? w _ hx169_1)).trans hx169_1
                                      replace p169 := eq_true p169
                                      replace q169 := eq_true q169
                                      go_wp2_with (first | (go_at_call 54; (first | (with_reducible refine (woggleref02_in.calls ((rd_T67 l1 x6_2).f0) 0 (wrap64 ((wrap64 (a0 + x6_2)) - 1)) true _ A14.out).mono ?_) | (simp only [i64_w, i32_w]; with_reducible refine (woggleref02_in.calls ((rd_T67 l1 x6_2).f0) 0 (wrap64 ((wrap64 (a0 + x6_2)) - 1)) true _ A14.out).mono ?_)); rintro e w' ⟨rfl, ⟨nd, rfl⟩⟩; (try first | exact ⟨rfl, _, World.drewN_drewN _ _ _⟩ | exact ⟨rfl, _, Eq.trans (World.drewN_drewN _ _ _) (congrArg (World.drewN _) (Nat.add_assoc _ _ _))⟩)) | (go_at_call 54; (first | (with_reducible refine (woggleref02_in.calls ((rd_T67 l1 x6_2).f1) 0 (wrap64 ((wrap64 (a0 + x6_2)) - 1)) true _ A16.out).mono ?_) | (simp only [i64_w, i32_w]; with_reducible refine (woggleref02_in.calls ((rd_T67 l1 x6_2).f1) 0 (wrap64 ((wrap64 (a0 + x6_2)) - 1)) true _ A16.out).mono ?_)); rintro e w' ⟨rfl, ⟨nd, rfl⟩⟩; (try first | exact ⟨rfl, _, World.drewN_drewN _ _ _⟩ | exact ⟨rfl, _, Eq.trans (World.drewN_drewN _ _ _) (congrArg (World.drewN _) (Nat.add_assoc _ _ _))⟩); obtain ⟨Ao31, co31, eo31⟩ := Kd.R_slice HO_5.out; subst eo31; have p172 : 0 ≤ (((rd_T67 l1 x6_2).f0) : Int) := of_decide_eq_true (by first | (with_reducible assumption) | assumption); have q172 : ((rd_T67 l1 x6_2).f0) < (x5_2.length : Int) := of_decide_eq_true (by first | (with_reducible assumption) | assumption); obtain ⟨ad172, e172, hx172_0⟩ := Kd.at_bool (Kd.R_reads' HO_5.out).2.2 ((rd_T67 l1 x6_2).f0) p172 q172; (try rw [← Nbq21.out] at hx172_0); (try rw [← Nbq26.out] at hx172_0); cases e172; replace p172 := eq_true p172; replace q172 := eq_true q172; have p173 : 0 ≤ (((rd_T67 l1 x6_2).f1) : Int) := of_decide_eq_true (by first | (with_reducible assumption) | assumption); have q173 : ((rd_T67 l1 x6_2).f1) < (x5_2.length : Int) := of_decide_eq_true (by first | (with_reducible assumption) | assumption); obtain ⟨ad173, e173, hx173_0⟩ := Kd.at_bool (Kd.R_reads' HO_5.out).2.2 ((rd_T67 l1 x6_2).f1) p173 q173; (try rw [← Nbq21.out] at hx173_0); (try rw [← Nbq26.out] at hx173_0); obtain rfl : ad172 = ad173 := (by injection e173); replace p173 := eq_true p173; replace q173 := eq_true q173; have p29 : 0 ≤ (((rd_T67 l1 x6_2).f0) : Int) := of_decide_eq_true (by first | (with_reducible assumption) | assumption); have q29 : (((rd_T67 l1 x6_2).f0) : Int) < ((x5_2.length : Int) : Int) := of_decide_eq_true (by first | (with_reducible assumption) | assumption); obtain ⟨go29, co29, eo29, gb29, gl29, cl29, HG29⟩ := Kd.R_form HO_5.out (by omega); (first | cases eo29 | (injection eo29 with ea_ en_ ec_; (first | subst ea_ | (injection ea_ with ea_; subst ea_)); subst ec_; clear en_)); have GB29 := Aside0.mk gb29; have GG29 := Aside0.mk HG29; clear gb29 gl29 HG29; (first | simp only [add_plain] at hx172_0 | skip); (first | simp only [add_plain] at hx173_0 | skip); obtain ⟨hx29_0, hf29_0⟩ := Kd.R_celln false HO_5.out (((rd_T67 l1 x6_2).f0) : Int) p29 q29; replace p29 := eq_true p29; replace q29 := eq_true q29; obtain ⟨hy32_, hz32_⟩ := Kd.R_celln false HO_5.out (((rd_T67 l1 x6_2).f0) : Int) (of_decide_eq_true (by first | (with_reducible assumption) | assumption)) (of_decide_eq_true (by first | (with_reducible assumption) | assumption)); have HP32 := Kd.R_putg HO_5.out (((rd_T67 l1 x6_2).f0) : Int) true) | ((with_reducible refine gate_store (t := 4) (p := 76) rfl ?_); (try (rw [drewN_self wr]; generalize hq_ : World.drewN wr _ = wr; have n0_ := Aside0.mk (Kd.R_at hq_ HO_5.out); have n1_ := Aside0.mk (below_at hq_ HB.out); clear hq_ HO_5 HB; have HO_5 := n0_; have HB := n1_; clear n0_ n1_; (try (obtain ⟨hy32_, hz32_⟩ := Kd.R_celln false HO_5.out (((rd_T67 l1 x6_2).f0) : Int) (of_decide_eq_true (by first | (with_reducible assumption) | assumption)) (of_decide_eq_true (by first | (with_reducible assumption) | assumption)))); (try (have HP32 := Kd.R_putg HO_5.out (((rd_T67 l1 x6_2).f0) : Int) true)))); refine store_event (t := 4) (p := 76) (v := ?vo_w33) (w1 := (wr.setCell ⟨go29, (((rd_T67 l1 x6_2).f0) : Int).toNat, none⟩ (.bool true))) ?hg ?ho ?hn ?hr ?_; (case ho => rfl); (case hg => rfl); (case hn => rfl); (case hr => first | (go_simp; done) | (go_simp; rfl)); intro w33 hw; have hg : wr.grownBy w33 (some go29) := (by rw [hw]; exact HP32.2); have hp_ : Kd.R Kd.bool 4 w33 w.heap.size (fun _ => True) (.slice (some ⟨go29, 0, none⟩) x5_2.length co31) y174 := (by rw [hw, Ny174.out]; exact HP32.1); clear HP32; have n0_ := Aside0.mk (hp_); have n1_ := Aside0.mk ((by rw [hw]; exact below_set (HB.out) GB29.out : Below w.heap.size w w33)); clear HO_5; clear HB; have HO_5 := n0_; have HB := n1_; clear n0_ n1_; clear hg hw hp_; have p30 : 0 ≤ (((rd_T67 l1 x6_2).f1) : Int) := of_decide_eq_true (by first | (with_reducible assumption) | assumption); have q30 : (((rd_T67 l1 x6_2).f1) : Int) < ((x5_2.length : Int) : Int) := of_decide_eq_true (by first | (with_reducible assumption) | assumption); obtain ⟨hx30_0, hf30_0⟩ := Kd.R_celln false HO_5.out (((rd_T67 l1 x6_2).f1) : Int) p30 q30; replace p30 := eq_true p30; replace q30 := eq_true q30; obtain ⟨hy34_, hz34_⟩ := Kd.R_celln false HO_5.out (((rd_T67 l1 x6_2).f1) : Int) (of_decide_eq_true (by first | (with_reducible assumption) | assumption)) (of_decide_eq_true (by first | (with_reducible assumption) | assumption)); have HP34 := Kd.R_putg HO_5.out (((rd_T67 l1 x6_2).f1) : Int) true) | ((with_reducible refine gate_store (t := 4) (p := 77) rfl ?_); (try (rw [drewN_self w33]; generalize hq_ : World.drewN w33 _ = w33; have n0_ := Aside0.mk (Kd.R_at hq_ HO_5.out); have n1_ := Aside0.mk (below_at hq_ HB.out); clear hq_ HO_5 HB; have HO_5 := n0_; have HB := n1_; clear n0_ n1_; (try (obtain ⟨hy34_, hz34_⟩ := Kd.R_celln false HO_5.out (((rd_T67 l1 x6_2).f1) : Int) (of_decide_eq_true (by first | (with_reducible assumption) | assumption)) (of_decide_eq_true (by first | (with_reducible assumption) | assumption)))); (try (have HP34 := Kd.R_putg HO_5.out (((rd_T67 l1 x6_2).f1) : Int) true)))); refine store_event (t := 4) (p := 77) (v := ?vo_w35) (w1 := (w33.setCell ⟨go29, (((rd_T67 l1 x6_2).f1) : Int).toNat, none⟩ (.bool true))) ?hg ?ho ?hn ?hr ?_; (case ho => rfl); (case hg => rfl); (case hn => rfl); (case hr => first | (go_simp; done) | (go_simp; rfl)); intro w35 hw; have hg : w33.grownBy w35 (some go29) := (by rw [hw]; exact HP34.2); have hp_ : Kd.R Kd.bool 4 w35 w.heap.size (fun _ => True) (.slice (some ⟨go29, 0, none⟩) x5_2.length co31) y175 := (by rw [hw, Ny175.out]; exact HP34.1); clear HP34; have n0_ := Aside0.mk (hp_); have n1_ := Aside0.mk ((by rw [hw]; exact below_set (HB.out) GB29.out : Below w.heap.size w w35)); clear HO_5; clear HB; have HO_5 := n0_; have HB := n1_; clear n0_ n1_; clear hg hw hp_))
                                      repeat (go_quiet (first | (go_at_call 54; (first | (with_reducible refine (woggleref02_in.calls ((rd_T67 l1 x6_2).f0) 0 (wrap64 ((wrap64 (a0 + x6_2)) - 1)) true _ A14.out).mono ?_) | (simp only [i64_w, i32_w]; with_reducible refine (woggleref02_in.calls ((rd_T67 l1 x6_2).f0) 0 (wrap64 ((wrap64 (a0 + x6_2)) - 1)) true _ A14.out).mono ?_)); rintro e w' ⟨rfl, ⟨nd, rfl⟩⟩; (try first | exact ⟨rfl, _, World.drewN_drewN _ _ _⟩ | exact ⟨rfl, _, Eq.trans (World.drewN_drewN _ _ _) (congrArg (World.drewN _) (Nat.add_assoc _ _ _))⟩)) | (go_at_call 54; (first | (with_reducible refine (woggleref02_in.calls ((rd_T67 l1 x6_2).f1) 0 (wrap64 ((wrap64 (a0 + x6_2)) - 1)) true _ A16.out).mono ?_) | (simp only [i64_w, i32_w]; with_reducible refine (woggleref02_in.calls ((rd_T67 l1 x6_2).f1) 0 (wrap64 ((wrap64 (a0 + x6_2)) - 1)) true _ A16.out).mono ?_)); rintro e w' ⟨rfl, ⟨nd, rfl⟩⟩; (try first | exact ⟨rfl, _, World.drewN_drewN _ _ _⟩ | exact ⟨rfl, _, Eq.trans (World.drewN_drewN _ _ _) (congrArg (World.drewN _) (Nat.add_assoc _ _ _))⟩); obtain ⟨Ao31, co31, eo31⟩ := Kd.R_slice HO_5.out; subst eo31; have p172 : 0 ≤ (((rd_T67 l1 x6_2).f0) : Int) := of_decide_eq_true (by first | (with_reducible assumption) | assumption); have q172 : ((rd_T67 l1 x6_2).f0) < (x5_2.length : Int) := of_decide_eq_true (by first | (with_reducible assumption) | assumption); obtain ⟨ad172, e172, hx172_0⟩ := Kd.at_bool (Kd.R_reads' HO_5.out).2.2 ((rd_T67 l1 x6_2).f0) p172 q172; (try rw [← Nbq21.out] at hx172_0); (try rw [← Nbq26.out] at hx172_0); cases e172; replace p172 := eq_true p172; replace q172 := eq_true q172; have p173 : 0 ≤ (((rd_T67 l1 x6_2).f1) : Int) := of_decide_eq_true (by first | (with_reducible assumption) | assumption); have q173 : ((rd_T67 l1 x6_2).f1) < (x5_2.length : Int) := of_decide_eq_true (by first | (with_reducible assumption) | assumption); obtain ⟨ad173, e173, hx173_0⟩ := Kd.at_bool (Kd.R_reads' HO_5.out).2.2 ((rd_T67 l1 x6_2).f1) p173 q173; (try rw [← Nbq21.out] at hx173_0); (try rw [← Nbq26.out] at hx173_0); obtain rfl : ad172 = ad173 := (by injection e173); replace p173 := eq_true p173; replace q173 := eq_true q173; have p29 : 0 ≤ (((rd_T67 l1 x6_2).f0) : Int) := of_decide_eq_true (by first | (with_reducible assumption) | assumption); have q29 : (((rd_T67 l1 x6_2).f0) : Int) < ((x5_2.length : Int) : Int) := of_decide_eq_true (by first | (with_reducible assumption) | assumption); obtain ⟨go29, co29, eo29, gb29, gl29, cl29, HG29⟩ := Kd.R_form HO_5.out (by omega); (first | cases eo29 | (injection eo29 with ea_ en_ ec_; (first | subst ea_ | (injection ea_ with ea_; subst ea_)); subst ec_; clear en_)); have GB29 := Aside0.mk gb29; have GG29 := Aside0.mk HG29; clear gb29 gl29 HG29; (first | simp only [add_plain] at hx172_0 | skip); (first | simp only [add_plain] at hx173_0 | skip); obtain ⟨hx29_0, hf29_0⟩ := Kd.R_celln false HO_5.out (((rd_T67 l1 x6_2).f0) : Int) p29 q29; replace p29 := eq_true p29; replace q29 := eq_true q29; obtain ⟨hy32_, hz32_⟩ := Kd.R_celln false HO_5.out (((rd_T67 l1 x6_2).f0) : Int) (of_decide_eq_true (by first | (with_reducible assumption) | assumption)) (of_decide_eq_true (by first | (with_reducible assumption) | assumption)); have HP32 := Kd.R_putg HO_5.out (((rd_T67 l1 x6_2).f0) : Int) true) | ((with_reducible refine gate_store (t := 4) (p := 76) rfl ?_); (try (rw [drewN_self wr]; generalize hq_ : World.drewN wr _ = wr; have n0_ := Aside0.mk (Kd.R_at hq_ HO_5.out); have n1_ := Aside0.mk (below_at hq_ HB.out); clear hq_ HO_5 HB; have HO_5 := n0_; have HB := n1_; clear n0_ n1_; (try (obtain ⟨hy32_, hz32_⟩ := Kd.R_celln false HO_5.out (((rd_T67 l1 x6_2).f0) : Int) (of_decide_eq_true (by first | (with_reducible assumption) | assumption)) (of_decide_eq_true (by first | (with_reducible assumption) | assumption)))); (try (have HP32 := Kd.R_putg HO_5.out (((rd_T67 l1 x6_2).f0) : Int) true)))); refine store_event (t := 4) (p := 76) (v := ?vo_w33) (w1 := (wr.setCell ⟨go29, (((rd_T67 l1 x6_2).f0) : Int).toNat, none⟩ (.bool true))) ?hg ?ho ?hn ?hr ?_; (case ho => rfl); (case hg => rfl); (case hn => rfl); (case hr => first | (go_simp; done) | (go_simp; rfl)); intro w33 hw; have hg : wr.grownBy w33 (some go29) := (by rw [hw]; exact HP32.2); have hp_ : Kd.R Kd.bool 4 w33 w.heap.size (fun _ => True) (.slice (some ⟨go29, 0, none⟩) x5_2.length co31) y174 := (by rw [hw, Ny174.out]; exact HP32.1); clear HP32; have n0_ := Aside0.mk (hp_); have n1_ := Aside0.mk ((by rw [hw]; exact below_set (HB.out) GB29.out : Below w.heap.size w w33)); clear HO_5; clear HB; have HO_5 := n0_; have HB := n1_; clear n0_ n1_; clear hg hw hp_; have p30 : 0 ≤ (((rd_T67 l1 x6_2).f1) : Int) := of_decide_eq_true (by first | (with_reducible assumption) | assumption); have q30 : (((rd_T67 l1 x6_2).f1) : Int) < ((x5_2.length : Int) : Int) := of_decide_eq_true (by first | (with_reducible assumption) | assumption); obtain ⟨hx30_0, hf30_0⟩ := Kd.R_celln false HO_5.out (((rd_T67 l1 x6_2).f1) : Int) p30 q30; replace p30 := eq_true p30; replace q30 := eq_true q30; obtain ⟨hy34_, hz34_⟩ := Kd.R_celln false HO_5.out (((rd_T67 l1 x6_2).f1) : Int) (of_decide_eq_true (by first | (with_reducible assumption) | assumption)) (of_decide_eq_true (by first | (with_reducible assumption) | assumption)); have HP34 := Kd.R_putg HO_5.out (((rd_T67 l1 x6_2).f1) : Int) true) | ((with_reducible refine gate_store (t := 4) (p := 77) rfl ?_); (try (rw [drewN_self w33]; generalize hq_ : World.drewN w33 _ = w33; have n0_ := Aside0.mk (Kd.R_at hq_ HO_5.out); have n1_ := Aside0.mk (below_at hq_ HB.out); clear hq_ HO_5 HB; have HO_5 := n0_; have HB := n1_; clear n0_ n1_; (try (obtain ⟨hy34_, hz34_⟩ := Kd.R_celln false HO_5.out (((rd_T67 l1 x6_2).f1) : Int) (of_decide_eq_true (by first | (with_reducible assumption) | assumption)) (of_decide_eq_true (by first | (with_reducible assumption) | assumption)))); (try (have HP34 := Kd.R_putg HO_5.out (((rd_T67 l1 x6_2).f1) : Int) true)))); refine store_event (t := 4) (p := 77) (v := ?vo_w35) (w1 := (w33.setCell ⟨go29, (((rd_T67 l1 x6_2).f1) : Int).toNat, none⟩ (.bool true))) ?hg ?ho ?hn ?hr ?_; (case ho => rfl); (case hg => rfl); (case hn => rfl); (case hr => first | (go_simp; done) | (go_simp; rfl)); intro w35 hw; have hg : w33.grownBy w35 (some go29) := (by rw [hw]; exact HP34.2); have hp_ : Kd.R Kd.bool 4 w35 w.heap.size (fun _ => True) (.slice (some ⟨go29, 0, none⟩) x5_2.length co31) y175 := (by rw [hw, Ny175.out]; exact HP34.1); clear HP34; have n0_ := Aside0.mk (hp_); have n1_ := Aside0.mk ((by rw [hw]; exact below_set (HB.out) GB29.out : Below w.heap.size w w35)); clear HO_5; clear HB; have HO_5 := n0_; have HB := n1_; clear n0_ n1_; clear hg hw hp_)); try go_wp2_with (first | (go_at_call 54; (first | (with_reducible refine (woggleref02_in.calls ((rd_T67 l1 x6_2).f0) 0 (wrap64 ((wrap64 (a0 + x6_2)) - 1)) true _ A14.out).mono ?_) | (simp only [i64_w, i32_w]; with_reducible refine (woggleref02_in.calls ((rd_T67 l1 x6_2).f0) 0 (wrap64 ((wrap64 (a0 + x6_2)) - 1)) true _ A14.out).mono ?_)); rintro e w' ⟨rfl, ⟨nd, rfl⟩⟩; (try first | exact ⟨rfl, _, World.drewN_drewN _ _ _⟩ | exact ⟨rfl, _, Eq.trans (World.drewN_drewN _ _ _) (congrArg (World.drewN _) (Nat.add_assoc _ _ _))⟩)) | (go_at_call 54; (first | (with_reducible refine (woggleref02_in.calls ((rd_T67 l1 x6_2).f1) 0 (wrap64 ((wrap64 (a0 + x6_2)) - 1)) true _ A16.out).mono ?_) | (simp only [i64_w, i32_w]; with_reducible refine (woggleref02_in.calls ((rd_T67 l1 x6_2).f1) 0 (wrap64 ((wrap64 (a0 + x6_2)) - 1)) true _ A16.out).mono ?_)); rintro e w' ⟨rfl, ⟨nd, rfl⟩⟩; (try first | exact ⟨rfl, _, World.drewN_drewN _ _ _⟩ | exact ⟨rfl, _, Eq.trans (World.drewN_drewN _ _ _) (congrArg (World.drewN _) (Nat.add_assoc _ _ _))⟩); obtain ⟨Ao31, co31, eo31⟩ := Kd.R_slice HO_5.out; subst eo31; have p172 : 0 ≤ (((rd_T67 l1 x6_2).f0) : Int) := of_decide_eq_true (by first | (with_reducible assumption) | assumption); have q172 : ((rd_T67 l1 x6_2).f0) < (x5_2.length : Int) := of_decide_eq_true (by first | (with_reducible assumption) | assumption); obtain ⟨ad172, e172, hx172_0⟩ := Kd.at_bool (Kd.R_reads' HO_5.out).2.2 ((rd_T67 l1 x6_2).f0) p172 q172; (try rw [← Nbq21.out] at hx172_0); (try rw [← Nbq26.out] at hx172_0); cases e172; replace p172 := eq_true p172; replace q172 := eq_true q172; have p173 : 0 ≤ (((rd_T67 l1 x6_2).f1) : Int) := of_decide_eq_true (by first | (with_reducible assumption) | assumption); have q173 : ((rd_T67 l1 x6_2).f1) < (x5_2.length : Int) := of_decide_eq_true (by first | (with_reducible assumption) | assumption); obtain ⟨ad173, e173, hx173_0⟩ := Kd.at_bool (Kd.R_reads' HO_5.out).2.2 ((rd_T67 l1 x6_2).f1) p173 q173; (try rw [← Nbq21.out] at hx173_0); (try rw [← Nbq26.out] at hx173_0); obtain rfl : ad172 = ad173 := (by injection e173); replace p173 := eq_true p173; replace q173 := eq_true q173; have p29 : 0 ≤ (((rd_T67 l1 x6_2).f0) : Int) := of_decide_eq_true (by first | (with_reducible assumption) | assumption); have q29 : (((rd_T67 l1 x6_2).f0) : Int) < ((x5_2.length : Int) : Int) := of_decide_eq_true (by first | (with_reducible assumption) | assumption); obtain ⟨go29, co29, eo29, gb29, gl29, cl29, HG29⟩ := Kd.R_form HO_5.out (by omega); (first | cases eo29 | (injection eo29 with ea_ en_ ec_; (first | subst ea_ | (injection ea_ with ea_; subst ea_)); subst ec_; clear en_)); have GB29 := Aside0.mk gb29; have GG29 := Aside0.mk HG29; clear gb29 gl29 HG29; (first | simp only [add_plain] at hx172_0 | skip); (first | simp only [add_plain] at hx173_0 | skip); obtain ⟨hx29_0, hf29_0⟩ := Kd.R_celln false HO_5.out (((rd_T67 l1 x6_2).f0) : Int) p29 q29; replace p29 := eq_true p29; replace q29 := eq_true q29; obtain ⟨hy32_, hz32_⟩ := Kd.R_celln false HO_5.out (((rd_T67 l1 x6_2).f0) : Int) (of_decide_eq_true (by first | (with_reducible assumption) | assumption)) (of_decide_eq_true (by first | (with_reducible assumption) | assumption)); have HP32 := Kd.R_putg HO_5.out (((rd_T67 l1 x6_2).f0) : Int) true) | ((with_reducible refine gate_store (t := 4) (p := 76) rfl ?_); (try (rw [drewN_self wr]; generalize hq_ : World.drewN wr _ = wr; have n0_ := Aside0.mk (Kd.R_at hq_ HO_5.out); have n1_ := Aside0.mk (below_at hq_ HB.out); clear hq_ HO_5 HB; have HO_5 := n0_; have HB := n1_; clear n0_ n1_; (try (obtain ⟨hy32_, hz32_⟩ := Kd.R_celln false HO_5.out (((rd_T67 l1 x6_2).f0) : Int) (of_decide_eq_true (by first | (with_reducible assumption) | assumption)) (of_decide_eq_true (by first | (with_reducible assumption) | assumption)))); (try (have HP32 := Kd.R_putg HO_5.out (((rd_T67 l1 x6_2).f0) : Int) true)))); refine store_event (t := 4) (p := 76) (v := ?vo_w33) (w1 := (wr.setCell ⟨go29, (((rd_T67 l1 x6_2).f0) : Int).toNat, none⟩ (.bool true))) ?hg ?ho ?hn ?hr ?_; (case ho => rfl); (case hg => rfl); (case hn => rfl); (case hr => first | (go_simp; done) | (go_simp; rfl)); intro w33 hw; have hg : wr.grownBy w33 (some go29) := (by rw [hw]; exact HP32.2); have hp_ : Kd.R Kd.bool 4 w33 w.heap.size (fun _ => True) (.slice (some ⟨go29, 0, none⟩) x5_2.length co31) y174 := (by rw [hw, Ny174.out]; exact HP32.1); clear HP32; have n0_ := Aside0.mk (hp_); have n1_ := Aside0.mk ((by rw [hw]; exact below_set (HB.out) GB29.out : Below w.heap.size w w33)); clear HO_5; clear HB; have HO_5 := n0_; have HB := n1_; clear n0_ n1_; clear hg hw hp_; have p30 : 0 ≤ (((rd_T67 l1 x6_2).f1) : Int) := of_decide_eq_true (by first | (with_reducible assumption) | assumption); have q30 : (((rd_T67 l1 x6_2).f1) : Int) < ((x5_2.length : Int) : Int) := of_decide_eq_true (by first | (with_reducible assumption) | assumption); obtain ⟨hx30_0, hf30_0⟩ := Kd.R_celln false HO_5.out (((rd_T67 l1 x6_2).f1) : Int) p30 q30; replace p30 := eq_true p30; replace q30 := eq_true q30; obtain ⟨hy34_, hz34_⟩ := Kd.R_celln false HO_5.out (((rd_T67 l1 x6_2).f1) : Int) (of_decide_eq_true (by first | (with_reducible assumption) | assumption)) (of_decide_eq_true (by first | (with_reducible assumption) | assumption)); have HP34 := Kd.R_putg HO_5.out (((rd_T67 l1 x6_2).f1) : Int) true) | ((with_reducible refine gate_store (t := 4) (p := 77) rfl ?_); (try (rw [drewN_self w33]; generalize hq_ : World.drewN w33 _ = w33; have n0_ := Aside0.mk (Kd.R_at hq_ HO_5.out); have n1_ := Aside0.mk (below_at hq_ HB.out); clear hq_ HO_5 HB; have HO_5 := n0_; have HB := n1_; clear n0_ n1_; (try (obtain ⟨hy34_, hz34_⟩ := Kd.R_celln false HO_5.out (((rd_T67 l1 x6_2).f1) : Int) (of_decide_eq_true (by first | (with_reducible assumption) | assumption)) (of_decide_eq_true (by first | (with_reducible assumption) | assumption)))); (try (have HP34 := Kd.R_putg HO_5.out (((rd_T67 l1 x6_2).f1) : Int) true)))); refine store_event (t := 4) (p := 77) (v := ?vo_w35) (w1 := (w33.setCell ⟨go29, (((rd_T67 l1 x6_2).f1) : Int).toNat, none⟩ (.bool true))) ?hg ?ho ?hn ?hr ?_; (case ho => rfl); (case hg => rfl); (case hn => rfl); (case hr => first | (go_simp; done) | (go_simp; rfl)); intro w35 hw; have hg : w33.grownBy w35 (some go29) := (by rw [hw]; exact HP34.2); have hp_ : Kd.R Kd.bool 4 w35 w.heap.size (fun _ => True) (.slice (some ⟨go29, 0, none⟩) x5_2.length co31) y175 := (by rw [hw, Ny175.out]; exact HP34.1); clear HP34; have n0_ := Aside0.mk (hp_); have n1_ := Aside0.mk ((by rw [hw]; exact below_set (HB.out) GB29.out : Below w.heap.size w w35)); clear HO_5; clear HB; have HO_5 := n0_; have HB := n1_; clear n0_ n1_; clear hg hw hp_)))
                                      go_roundg k2
                                      case measure => have := HJ2.out; have := HK2.out; omega
                                      case rel => exact ⟨(y175), (wrap64 (x6_2 + 1)), (by first | rfl | (simp; done) | (simp [*]; done)), H', ⟨by have := HJ2.out; have := HK2.out; omega⟩, ⟨by (with_reducible repeat (first | apply Kd.R_alloc | apply Kd.R_drewN | apply Kd.R_drew)); exact HO_5.out⟩, ⟨by repeat (first | (with_reducible first | exact HB.out | apply below_alloc | apply pw_below_drewN | apply below_drew1) | exact HB.out)⟩⟩
                                  · rw [if_neg c25] at H
                                    exact absurd H (by simp)
                                · rw [if_neg c24] at H
                                  exact absurd H (by simp)
                            · rw [if_neg c20] at H
                              exact absurd H (by simp)
                          · rw [if_neg c19] at H
                            exact absurd H (by simp)
                      · replace c17 := Bool.eq_false_iff.mpr c17
                        subst c17
                        have H1 : (some false) = some r := by rw [if_neg (show ¬ (false = true) by decide)] at H; exact H
                        clear H
                        have H := H1
                        clear H1
                        obtain rfl := Option.some.inj H
                        have p168 : 0 ≤ (x6_2 : Int) := of_decide_eq_true (by first | (with_reducible assumption) | assumption)
                        have q168 : x6_2 < (l1.length : Int) := of_decide_eq_true (by first | (with_reducible assumption) | assumption)
                        obtain ⟨ad168, e168, hx168_0, hx168_1⟩ := at_T67 HR1.out x6_2 p168 q168
                        cases e168
                        replace hx168_0 := (HB.out.cell (World.block_lt_of_cell? w _ hx168_0)).trans hx168_0
                        replace hx168_1 := (HB.out.cell (World.block_lt_of_cell? w _ hx168_1)).trans hx168_1
                        replace p168 := eq_true p168
                        replace q168 := eq_true q168
                        have p169 : 0 ≤ (x6_2 : Int) := of_decide_eq_true (by first | (with_reducible assumption) | assumption)
                        have q169 : x6_2 < (l1.length : Int) := of_decide_eq_true (by first | (with_reducible assumption) | assumption)
                        obtain ⟨ad169, e169, hx169_0, hx169_1⟩ := at_T67 HR1.out x6_2 p169 q169
                        obtain rfl : ad168 = ad169 := (by injection e169)
                        replace hx169_0 := (HB.out.cell (World.block_lt_of_cell? w _ hx169_0)).trans hx169_0
                        replace hx169_1 := (HB.out.cell (World.block_lt_of_cell? w _ hx169_1)).trans hx169_1
                        replace p169 := eq_true p169
                        replace q169 := eq_true q169
                        go_wp2_with (first | (go_at_call 54; (first | (with_reducible refine (woggleref02_in.calls ((rd_T67 l1 x6_2).f0) 0 (wrap64 ((wrap64 (a0 + x6_2)) - 1)) true _ A14.out).mono ?_) | (simp only [i64_w, i32_w]; with_reducible refine (woggleref02_in.calls ((rd_T67 l1 x6_2).f0) 0 (wrap64 ((wrap64 (a0 + x6_2)) - 1)) true _ A14.out).mono ?_)); rintro e w' ⟨rfl, ⟨nd, rfl⟩⟩; (try first | exact ⟨rfl, _, World.drewN_drewN _ _ _⟩ | exact ⟨rfl, _, Eq.trans (World.drewN_drewN _ _ _) (congrArg (World.drewN _) (Nat.add_assoc _ _ _))⟩)) | (go_at_call 54; (first | (with_reducible refine (woggleref02_in.calls ((rd_T67 l1 x6_2).f1) 0 (wrap64 ((wrap64 (a0 + x6_2)) - 1)) false _ A16.out).mono ?_) | (simp only [i64_w, i32_w]; with_reducible refine (woggleref02_in.calls ((rd_T67 l1 x6_2).f1) 0 (wrap64 ((wrap64 (a0 + x6_2)) - 1)) false _ A16.out).mono ?_)); rintro e w' ⟨rfl, ⟨nd, rfl⟩⟩; (try first | exact ⟨rfl, _, World.drewN_drewN _ _ _⟩ | exact ⟨rfl, _, Eq.trans (World.drewN_drewN _ _ _) (congrArg (World.drewN _) (Nat.add_assoc _ _ _))⟩)))
                        repeat (go_quiet (first | (go_at_call 54; (first | (with_reducible refine (woggleref02_in.calls ((rd_T67 l1 x6_2).f0) 0 (wrap64 ((wrap64 (a0 + x6_2)) - 1)) true _ A14.out).mono ?_) | (simp only [i64_w, i32_w]; with_reducible refine (woggleref02_in.calls ((rd_T67 l1 x6_2).f0) 0 (wrap64 ((wrap64 (a0 + x6_2)) - 1)) true _ A14.out).mono ?_)); rintro e w' ⟨rfl, ⟨nd, rfl⟩⟩; (try first | exact ⟨rfl, _, World.drewN_drewN _ _ _⟩ | exact ⟨rfl, _, Eq.trans (World.drewN_drewN _ _ _) (congrArg (World.drewN _) (Nat.add_assoc _ _ _))⟩)) | (go_at_call 54; (first | (with_reducible refine (woggleref02_in.calls ((rd_T67 l1 x6_2).f1) 0 (wrap64 ((wrap64 (a0 + x6_2)) - 1)) false _ A16.out).mono ?_) | (simp only [i64_w, i32_w]; with_reducible refine (woggleref02_in.calls ((rd_T67 l1 x6_2).f1) 0 (wrap64 ((wrap64 (a0 + x6_2)) - 1)) false _ A16.out).mono ?_)); rintro e w' ⟨rfl, ⟨nd, rfl⟩⟩; (try first | exact ⟨rfl, _, World.drewN_drewN _ _ _⟩ | exact ⟨rfl, _, Eq.trans (World.drewN_drewN _ _ _) (congrArg (World.drewN _) (Nat.add_assoc _ _ _))⟩))); try go_wp2_with (first | (go_at_call 54; (first | (with_reducible refine (woggleref02_in.calls ((rd_T67 l1 x6_2).f0) 0 (wrap64 ((wrap64 (a0 + x6_2)) - 1)) true _ A14.out).mono ?_) | (simp only [i64_w, i32_w]; with_reducible refine (woggleref02_in.calls ((rd_T67 l1 x6_2).f0) 0 (wrap64 ((wrap64 (a0 + x6_2)) - 1)) true _ A14.out).mono ?_)); rintro e w' ⟨rfl, ⟨nd, rfl⟩⟩; (try first | exact ⟨rfl, _, World.drewN_drewN _ _ _⟩ | exact ⟨rfl, _, Eq.trans (World.drewN_drewN _ _ _) (congrArg (World.drewN _) (Nat.add_assoc _ _ _))⟩)) | (go_at_call 54; (first | (with_reducible refine (woggleref02_in.calls ((rd_T67 l1 x6_2).f1) 0 (wrap64 ((wrap64 (a0 + x6_2)) - 1)) false _ A16.out).mono ?_) | (simp only [i64_w, i32_w]; with_reducible refine (woggleref02_in.calls ((rd_T67 l1 x6_2).f1) 0 (wrap64 ((wrap64 (a0 + x6_2)) - 1)) false _ A16.out).mono ?_)); rintro e w' ⟨rfl, ⟨nd, rfl⟩⟩; (try first | exact ⟨rfl, _, World.drewN_drewN _ _ _⟩ | exact ⟨rfl, _, Eq.trans (World.drewN_drewN _ _ _) (congrArg (World.drewN _) (Nat.add_assoc _ _ _))⟩))))
                        go_ret
                        exact ⟨by first | rfl | (simp [errW_none, errW_some] <;> rfl) | (simp only [← hji7]; first | rfl | (simp [errW_none, errW_some] <;> rfl)) | (simp [*, errW_none, errW_some] <;> rfl), by repeat (first | (with_reducible first | exact HB.out | apply below_alloc | apply pw_below_drewN | apply below_drew1) | exact HB.out)⟩
                    · replace c15 := Bool.eq_false_iff.mpr c15
                      subst c15
                      have H1 : (some false) = some r := by rw [if_neg (show ¬ (false = true) by decide)] at H; exact H
                      clear H
                      have H := H1
                      clear H1
                      obtain rfl := Option.some.inj H
                      have p168 : 0 ≤ (x6_2 : Int) := of_decide_eq_true (by first | (with_reducible assumption) | assumption)
                      have q168 : x6_2 < (l1.length : Int) := of_decide_eq_true (by first | (with_reducible assumption) | assumption)
                      obtain ⟨ad168, e168, hx168_0, hx168_1⟩ := at_T67 HR1.out x6_2 p168 q168
                      cases e168
                      replace hx168_0 := (HB.out.cell (World.block_lt_of_cell? w _ hx168_0)).trans hx168_0
                      replace hx168_1 := (HB.out.cell (World.block_lt_of_cell? w _ hx168_1)).trans hx168_1
                      replace p168 := eq_true p168
                      replace q168 := eq_true q168
                      have p169 : 0 ≤ (x6_2 : Int) := of_decide_eq_true (by first | (with_reducible assumption) | assumption)
                      have q169 : x6_2 < (l1.length : Int) := of_decide_eq_true (by first | (with_reducible assumption) | assumption)
                      obtain ⟨ad169, e169, hx169_0, hx169_1⟩ := at_T67 HR1.out x6_2 p169 q169
                      obtain rfl : ad168 = ad169 := (by injection e169)
                      replace hx169_0 := (HB.out.cell (World.block_lt_of_cell? w _ hx169_0)).trans hx169_0
                      replace hx169_1 := (HB.out.cell (World.block_lt_of_cell? w _ hx169_1)).trans hx169_1
                      replace p169 := eq_true p169
                      replace q169 := eq_true q169
                      go_wp2_with (first | (go_at_call 54; (first | (with_reducible refine (woggleref02_in.calls ((rd_T67 l1 x6_2).f0) 0 (wrap64 ((wrap64 (a0 + x6_2)) - 1)) false _ A14.out).mono ?_) | (simp only [i64_w, i32_w]; with_reducible refine (woggleref02_in.calls ((rd_T67 l1 x6_2).f0) 0 (wrap64 ((wrap64 (a0 + x6_2)) - 1)) false _ A14.out).mono ?_)); rintro e w' ⟨rfl, ⟨nd, rfl⟩⟩; (try first | exact ⟨rfl, _, World.drewN_drewN _ _ _⟩ | exact ⟨rfl, _, Eq.trans (World.drewN_drewN _ _ _) (congrArg (World.drewN _) (Nat.add_assoc _ _ _))⟩)))
                      repeat (go_quiet (first | (go_at_call 54; (first | (with_reducible refine (woggleref02_in.calls ((rd_T67 l1 x6_2).f0) 0 (wrap64 ((wrap64 (a0 + x6_2)) - 1)) false _ A14.out).mono ?_) | (simp only [i64_w, i32_w]; with_reducible refine (woggleref02_in.calls ((rd_T67 l1 x6_2).f0) 0 (wrap64 ((wrap64 (a0 + x6_2)) - 1)) false _ A14.out).mono ?_)); rintro e w' ⟨rfl, ⟨nd, rfl⟩⟩; (try first | exact ⟨rfl, _, World.drewN_drewN _ _ _⟩ | exact ⟨rfl, _, Eq.trans (World.drewN_drewN _ _ _) (congrArg (World.drewN _) (Nat.add_assoc _ _ _))⟩))); try go_wp2_with (first | (go_at_call 54; (first | (with_reducible refine (woggleref02_in.calls ((rd_T67 l1 x6_2).f0) 0 (wrap64 ((wrap64 (a0 + x6_2)) - 1)) false _ A14.out).mono ?_) | (simp only [i64_w, i32_w]; with_reducible refine (woggleref02_in.calls ((rd_T67 l1 x6_2).f0) 0 (wrap64 ((wrap64 (a0 + x6_2)) - 1)) false _ A14.out).mono ?_)); rintro e w' ⟨rfl, ⟨nd, rfl⟩⟩; (try first | exact ⟨rfl, _, World.drewN_drewN _ _ _⟩ | exact ⟨rfl, _, Eq.trans (World.drewN_drewN _ _ _) (congrArg (World.drewN _) (Nat.add_assoc _ _ _))⟩))))
                      go_ret
                      exact ⟨by first | rfl | (simp [errW_none, errW_some] <;> rfl) | (simp only [← hji7]; first | rfl | (simp [errW_none, errW_some] <;> rfl)) | (simp [*, errW_none, errW_some] <;> rfl), by repeat (first | (with_reducible first | exact HB.out | apply below_alloc | apply pw_below_drewN | apply below_drew1) | exact HB.out)⟩
                  · rw [if_neg c13] at H
                    exact absurd H (by simp)
                · rw [if_neg c12] at H
                  have c12b0 : decide (x6_2 < (l1.length : Int)) = false := decide_eq_false c12
                  clear c12
                  obtain rfl := Option.some.inj H
                  go_wp2
                  repeat (go_quiet (fail); try go_wp2)
                  go_ret
                  exact ⟨by first | rfl | (simp [errW_none, errW_some] <;> rfl) | (simp only [← hji7]; first | rfl | (simp [errW_none, errW_some] <;> rfl)) | (simp [*, errW_none, errW_some] <;> rfl), by repeat (first | (with_reducible first | exact HB.out | apply below_alloc | apply pw_below_drewN | apply below_drew1) | exact HB.out)⟩
          · rw [if_neg c9] at H
            exact absurd H (by simp)
        · rw [if_neg c8] at H
          exact absurd H (by simp)

end Go.Proofs.Ytcphmeeighhdjaa.P
