-- written by a program of this session
import Derived.Test.YtcphmeeighhdjaaPK
import Derived.Test.YtcphmeeighhdjaaPF22
import Derived.Test.YtcphmeeighhdjaaPF22d
import Derived.Test.YtcphmeeighhdjaaPF35
import Derived.Test.YtcphmeeighhdjaaPF36
import Derived.Test.YtcphmeeighhdjaaPF37
import Derived.Test.YtcphmeeighhdjaaGH
namespace Go.Proofs.Ytcphmeeighhdjaa.P
open Go.RowKit Go.Proofs.YtcphmeeighhdjaaW.PrintWords Go.Proofs.YtcphmeeighhdjaaW.PrintLast Go.Proofs.YtcphmeeighhdjaaW.PrintMore
attribute [local go_sem] max2_int min2_int max_two min_two max_three min_three max_four min_four   -- for this text's walks alone
set_option linter.unusedVariables false
set_option linter.unusedSimpArgs false

/-! ### wogglelaw02_TrackBounds: function 9 -/
mutual
def wogglelaw02_TrackBounds.l0 : Nat → Int → Int → List Int → Int → Int → List Int → Int → Int → Int → Option (Bool)
  | 0, _, _, _, _, _, _, _, _, _ => none
  | k + 1, x3, x5, x6, x7, x8, x9, x10, x11, x12 => if x12 < x3 then (if 0 ≤ x12 then (if x12 < (x6.length : Int) then (if 0 ≤ (rd x6 x12) then (if (rd x6 x12) < (x9.length : Int) then (wogglelaw02_TrackBounds.l0 k x3 x5 x6 x7 x8 (x9.set ((rd x6 x12) : Int).toNat (wrap64 ((rd x9 (rd x6 x12)) + 1))) x10 x11 (wrap64 (x12 + 1))) else (none)) else (none)) else (none)) else (none)) else (wogglelaw02_TrackBounds.l1 k x3 x5 x7 x8 x9 x10 x11 0)
def wogglelaw02_TrackBounds.l1 : Nat → Int → Int → Int → Int → List Int → Int → Int → Int → Option (Bool)
  | 0, _, _, _, _, _, _, _, _ => none
  | k + 1, x3, x5, x7, x8, x9, x10, x11, x13 => if x13 < x5 then (if 0 ≤ x13 then (if x13 < (x9.length : Int) then (if (rd x9 x13) > 0 then (wogglelaw02_TrackBounds.l1 k x3 x5 x7 x8 x9 (wrap64 (x10 + 1)) (mx x11 (rd x9 x13)) (wrap64 (x13 + 1))) else (wogglelaw02_TrackBounds.l1 k x3 x5 x7 x8 x9 x10 (mx x11 (rd x9 x13)) (wrap64 (x13 + 1)))) else (none)) else (none)) else (if x8 = 0 then (if x7 ≥ (wrap64 (x10 - 1)) then (if x7 ≤ (wrap64 (x3 - x11)) then ((wogglelaw02_lives.f k).bind fun t610 => (some t610)) else (some false)) else (some false)) else (some false))
end
def wogglelaw02_TrackBounds.f (k : Nat) (a0_0 : Int) (a0_1 : Int) (l0_2 : List Int) (l0_3 : List Int) (l0_4 : List Int) : Option (Bool) := (wogglelaw02_made.f k a0_0 l0_2).bind fun bt589 => ((wogglelaw02_states.f k bt589.1 (wrap64 ((Int.tmod (wrap64 (a0_1)) 4) + 1)) l0_4).bind fun t593 => ((woggleref02_Unit.f k (wrap64 ((Int.tmod (wrap64 (a0_1)) 4) + 1))).bind fun t596 => ((track_Least.f k bt589.1 bt589.2 t596 t593).bind fun bt599 => (if 0 ≤ (wrap64 ((Int.tmod (wrap64 (a0_1)) 4) + 1)) then (if (wrap64 ((Int.tmod (wrap64 (a0_1)) 4) + 1) : Int).toNat ≤ 35184372088832 then (wogglelaw02_TrackBounds.l0 k bt589.1 (wrap64 ((Int.tmod (wrap64 (a0_1)) 4) + 1)) t593 bt599.1 bt599.2 (List.replicate (wrap64 ((Int.tmod (wrap64 (a0_1)) 4) + 1) : Int).toNat 0) 0 0 0) else (none)) else (none)))))
theorem wogglelaw02_TrackBounds.mono_l : ∀ k, (∀ y0 y1 y2 y3 y4 y5 y6 y7 y8, LeO (wogglelaw02_TrackBounds.l0 k y0 y1 y2 y3 y4 y5 y6 y7 y8) (wogglelaw02_TrackBounds.l0 (k + 1) y0 y1 y2 y3 y4 y5 y6 y7 y8)) ∧ (∀ y0 y1 y2 y3 y4 y5 y6 y7, LeO (wogglelaw02_TrackBounds.l1 k y0 y1 y2 y3 y4 y5 y6 y7) (wogglelaw02_TrackBounds.l1 (k + 1) y0 y1 y2 y3 y4 y5 y6 y7))
  | 0 => ⟨fun _ _ _ _ _ _ _ _ _ r h => by simp [wogglelaw02_TrackBounds.l0] at h, fun _ _ _ _ _ _ _ _ r h => by simp [wogglelaw02_TrackBounds.l1] at h⟩
  | k + 1 => by
    obtain ⟨ih0, ih1⟩ := wogglelaw02_TrackBounds.mono_l k
    refine ⟨?_, ?_⟩
    · intro y0 y1 y2 y3 y4 y5 y6 y7 y8
      unfold wogglelaw02_TrackBounds.l0
      repeat' first
      | (with_reducible exact ih0 _ _ _ _ _ _ _ _ _)
      | (with_reducible exact ih1 _ _ _ _ _ _ _ _)
      | (with_reducible exact track_Least.mono _ _ _ _ _)
      | (with_reducible exact wogglelaw02_lives.mono _)
      | (with_reducible exact wogglelaw02_made.mono _ _ _)
      | (with_reducible exact wogglelaw02_states.mono _ _ _ _)
      | (with_reducible exact woggleref02_Unit.mono _ _)
      | (with_reducible exact LeO.refl _)
      | (with_reducible exact LeO.none _)
      | (with_reducible refine LeO.ite ?_ ?_)
      | (with_reducible refine LeO.bind ?_ (fun _ => ?_))
      | exact ih0 _ _ _ _ _ _ _ _ _
      | exact ih1 _ _ _ _ _ _ _ _
      | exact track_Least.mono _ _ _ _ _
      | exact wogglelaw02_lives.mono _
      | exact wogglelaw02_made.mono _ _ _
      | exact wogglelaw02_states.mono _ _ _ _
      | exact woggleref02_Unit.mono _ _
      | exact LeO.none _
      | refine LeO.ite ?_ ?_
      | refine LeO.bind ?_ (fun _ => ?_)
    · intro y0 y1 y2 y3 y4 y5 y6 y7
      unfold wogglelaw02_TrackBounds.l1
      repeat' first
      | (with_reducible exact ih0 _ _ _ _ _ _ _ _ _)
      | (with_reducible exact ih1 _ _ _ _ _ _ _ _)
      | (with_reducible exact track_Least.mono _ _ _ _ _)
      | (with_reducible exact wogglelaw02_lives.mono _)
      | (with_reducible exact wogglelaw02_made.mono _ _ _)
      | (with_reducible exact wogglelaw02_states.mono _ _ _ _)
      | (with_reducible exact woggleref02_Unit.mono _ _)
      | (with_reducible exact LeO.refl _)
      | (with_reducible exact LeO.none _)
      | (with_reducible refine LeO.ite ?_ ?_)
      | (with_reducible refine LeO.bind ?_ (fun _ => ?_))
      | exact ih0 _ _ _ _ _ _ _ _ _
      | exact ih1 _ _ _ _ _ _ _ _
      | exact track_Least.mono _ _ _ _ _
      | exact wogglelaw02_lives.mono _
      | exact wogglelaw02_made.mono _ _ _
      | exact wogglelaw02_states.mono _ _ _ _
      | exact woggleref02_Unit.mono _ _
      | exact LeO.none _
      | refine LeO.ite ?_ ?_
      | refine LeO.bind ?_ (fun _ => ?_)
theorem wogglelaw02_TrackBounds.mono : ∀ a0 a1 a2 a3 a4 k, LeO (wogglelaw02_TrackBounds.f k a0 a1 a2 a3 a4) (wogglelaw02_TrackBounds.f (k + 1) a0 a1 a2 a3 a4) := by
  intro a0 a1 a2 a3 a4 k
  obtain ⟨ih0, ih1⟩ := wogglelaw02_TrackBounds.mono_l k
  unfold wogglelaw02_TrackBounds.f
  repeat' first
      | (with_reducible exact ih0 _ _ _ _ _ _ _ _ _)
      | (with_reducible exact ih1 _ _ _ _ _ _ _ _)
      | (with_reducible exact track_Least.mono _ _ _ _ _)
      | (with_reducible exact wogglelaw02_lives.mono _)
      | (with_reducible exact wogglelaw02_made.mono _ _ _)
      | (with_reducible exact wogglelaw02_states.mono _ _ _ _)
      | (with_reducible exact woggleref02_Unit.mono _ _)
      | (with_reducible exact LeO.refl _)
      | (with_reducible exact LeO.none _)
      | (with_reducible refine LeO.ite ?_ ?_)
      | (with_reducible refine LeO.bind ?_ (fun _ => ?_))
      | exact ih0 _ _ _ _ _ _ _ _ _
      | exact ih1 _ _ _ _ _ _ _ _
      | exact track_Least.mono _ _ _ _ _
      | exact wogglelaw02_lives.mono _
      | exact wogglelaw02_made.mono _ _ _
      | exact wogglelaw02_states.mono _ _ _ _
      | exact woggleref02_Unit.mono _ _
      | exact LeO.none _
      | refine LeO.ite ?_ ?_
      | refine LeO.bind ?_ (fun _ => ?_)
set_option maxHeartbeats 8000000 in
set_option maxRecDepth 100000 in
theorem wogglelaw02_TrackBounds.calls (k : Nat) (a0_0 : Int) (a0_1 : Int) (A0_2 : Option Addr) (c0_2 : Nat) (l0_2 : List Int) (A0_3 : Option Addr) (c0_3 : Nat) (l0_3 : List Int) (A0_4 : Option Addr) (c0_4 : Nat) (l0_4 : List Int) (r : Bool) (w : World) (hr0_2 : Kd.C (Kd.int .u8) w A0_2 l0_2.length l0_2) (hc0_2 : l0_2.length ≤ c0_2) (hr0_3 : Kd.C (Kd.int .u8) w A0_3 l0_3.length l0_3) (hc0_3 : l0_3.length ≤ c0_3) (hr0_4 : Kd.C (Kd.int .u8) w A0_4 l0_4.length l0_4) (hc0_4 : l0_4.length ≤ c0_4) (h : wogglelaw02_TrackBounds.f k a0_0 a0_1 l0_2 l0_3 l0_4 = some r) :
    Calls Try.prog 9 #[.agg #[.int .u8 a0_0, .int .u8 a0_1, .slice A0_2 l0_2.length c0_2, .slice A0_3 l0_3.length c0_3, .slice A0_4 l0_4.length c0_4]] w fun e w' => e = .returned (.bool r) ∧ Below w.heap.size w w' := by
  have hu56 := Try.underlying56
  have HR0_2 := Aside0.mk hr0_2
  have HC0_2 := Aside0.mk hc0_2
  clear hr0_2 hc0_2
  have HR0_3 := Aside0.mk hr0_3
  have HC0_3 := Aside0.mk hc0_3
  clear hr0_3 hc0_3
  have HR0_4 := Aside0.mk hr0_4
  have HC0_4 := Aside0.mk hc0_4
  clear hr0_4 hc0_4
  have HB := Aside0.mk (Below.refl w.heap.size w)
  have H : ((wogglelaw02_made.f k a0_0 l0_2).bind fun bt589 => ((wogglelaw02_states.f k bt589.1 (wrap64 ((Int.tmod (wrap64 (a0_1)) 4) + 1)) l0_4).bind fun t593 => ((woggleref02_Unit.f k (wrap64 ((Int.tmod (wrap64 (a0_1)) 4) + 1))).bind fun t596 => ((track_Least.f k bt589.1 bt589.2 t596 t593).bind fun bt599 => (if 0 ≤ (wrap64 ((Int.tmod (wrap64 (a0_1)) 4) + 1)) then (if (wrap64 ((Int.tmod (wrap64 (a0_1)) 4) + 1) : Int).toNat ≤ 35184372088832 then (wogglelaw02_TrackBounds.l0 k bt589.1 (wrap64 ((Int.tmod (wrap64 (a0_1)) 4) + 1)) t593 bt599.1 bt599.2 (List.replicate (wrap64 ((Int.tmod (wrap64 (a0_1)) 4) + 1) : Int).toNat 0) 0 0 0) else (none)) else (none)))))) = some r := h
  clear h
  replace H := Option.bind_eq_some_iff.mp H
  obtain ⟨⟨t589, t590⟩, A20, H⟩ := H
  replace H : ((wogglelaw02_states.f k t589 (wrap64 ((Int.tmod (wrap64 (a0_1)) 4) + 1)) l0_4).bind fun t593 => ((woggleref02_Unit.f k (wrap64 ((Int.tmod (wrap64 (a0_1)) 4) + 1))).bind fun t596 => ((track_Least.f k t589 t590 t596 t593).bind fun bt599 => (if 0 ≤ (wrap64 ((Int.tmod (wrap64 (a0_1)) 4) + 1)) then (if (wrap64 ((Int.tmod (wrap64 (a0_1)) 4) + 1) : Int).toNat ≤ 35184372088832 then (wogglelaw02_TrackBounds.l0 k t589 (wrap64 ((Int.tmod (wrap64 (a0_1)) 4) + 1)) t593 bt599.1 bt599.2 (List.replicate (wrap64 ((Int.tmod (wrap64 (a0_1)) 4) + 1) : Int).toNat 0) 0 0 0) else (none)) else (none))))) = some r := H
  have A2 := Aside0.mk A20
  clear A20
  replace H := Option.bind_eq_some_iff.mp H
  obtain ⟨t593, A30, H⟩ := H
  replace H : ((woggleref02_Unit.f k (wrap64 ((Int.tmod (wrap64 (a0_1)) 4) + 1))).bind fun t596 => ((track_Least.f k t589 t590 t596 t593).bind fun bt599 => (if 0 ≤ (wrap64 ((Int.tmod (wrap64 (a0_1)) 4) + 1)) then (if (wrap64 ((Int.tmod (wrap64 (a0_1)) 4) + 1) : Int).toNat ≤ 35184372088832 then (wogglelaw02_TrackBounds.l0 k t589 (wrap64 ((Int.tmod (wrap64 (a0_1)) 4) + 1)) t593 bt599.1 bt599.2 (List.replicate (wrap64 ((Int.tmod (wrap64 (a0_1)) 4) + 1) : Int).toNat 0) 0 0 0) else (none)) else (none)))) = some r := H
  have A3 := Aside0.mk A30
  clear A30
  replace H := Option.bind_eq_some_iff.mp H
  obtain ⟨t596, A40, H⟩ := H
  replace H : ((track_Least.f k t589 t590 t596 t593).bind fun bt599 => (if 0 ≤ (wrap64 ((Int.tmod (wrap64 (a0_1)) 4) + 1)) then (if (wrap64 ((Int.tmod (wrap64 (a0_1)) 4) + 1) : Int).toNat ≤ 35184372088832 then (wogglelaw02_TrackBounds.l0 k t589 (wrap64 ((Int.tmod (wrap64 (a0_1)) 4) + 1)) t593 bt599.1 bt599.2 (List.replicate (wrap64 ((Int.tmod (wrap64 (a0_1)) 4) + 1) : Int).toNat 0) 0 0 0) else (none)) else (none))) = some r := H
  have A4 := Aside0.mk A40
  clear A40
  replace H := Option.bind_eq_some_iff.mp H
  obtain ⟨⟨t599, t600⟩, A50, H⟩ := H
  replace H : (if 0 ≤ (wrap64 ((Int.tmod (wrap64 (a0_1)) 4) + 1)) then (if (wrap64 ((Int.tmod (wrap64 (a0_1)) 4) + 1) : Int).toNat ≤ 35184372088832 then (wogglelaw02_TrackBounds.l0 k t589 (wrap64 ((Int.tmod (wrap64 (a0_1)) 4) + 1)) t593 t599 t600 (List.replicate (wrap64 ((Int.tmod (wrap64 (a0_1)) 4) + 1) : Int).toNat 0) 0 0 0) else (none)) else (none)) = some r := H
  have A5 := Aside0.mk A50
  clear A50
  obtain ⟨ji6, hji6⟩ : ∃ j_ : Int, (wrap64 ((Int.tmod (wrap64 (a0_1)) 4) + 1)) = j_ := ⟨_, rfl⟩
  replace H : (if 0 ≤ (ji6) then (if (ji6 : Int).toNat ≤ 35184372088832 then (wogglelaw02_TrackBounds.l0 k t589 ji6 t593 t599 t600 (List.replicate (ji6 : Int).toNat 0) 0 0 0) else (none)) else (none)) = some r := by first | (rw [hji6] at H; exact H) | (simp only [hji6] at H ⊢; exact H)
  (try rw [hji6] at A2)
  (try rw [hji6] at A3)
  (try rw [hji6] at A4)
  (try rw [hji6] at A5)
  have hji6w : (IntKind.i64.wrap ((Int.tmod (wrap64 (a0_1)) 4) + 1)) = ji6 := (i64_w _).trans hji6
  by_cases c7 : 0 ≤ (ji6)
  · rw [if_pos c7] at H
    have c7b0 := eq_true c7
    have c7b1 : decide (0 ≤ (ji6)) = true := decide_eq_true c7
    clear c7
    by_cases c8 : (ji6 : Int).toNat ≤ 35184372088832
    · rw [if_pos c8] at H
      have c8b0 := eq_true c8
      have c8b1 : decide ((ji6 : Int).toNat ≤ 35184372088832) = true := decide_eq_true c8
      clear c8
      obtain ⟨y601, hy601⟩ : ∃ y_ : List Int, y_ = (List.replicate (ji6 : Int).toNat 0) := ⟨_, rfl⟩
      replace H : (wogglelaw02_TrackBounds.l0 k t589 ji6 t593 t599 t600 y601 0 0 0) = some r := by first | (rw [hy601]; with_reducible exact H) | (have H2_ := (Option.bind_some _ _).symm.trans H; rw [hy601]; with_reducible exact H2_) | (have H2_ := (Option.bind_some _ _).symm.trans H; with_reducible exact H2_) | with_reducible exact H | (rw [hy601]; exact H) | exact H
      have Ny601 := Aside0.mk hy601
      clear hy601
      have H' := Aside0.mk H
      clear H
      go_enter Try.func9, Try.ntmps9
      go_wp2_with (first | ((with_reducible refine gate_dst (N := 1) rfl ?_); refine box_event ?hg (N := 1) ?hd (cs := #[.int .u8 a0_0, .int .u8 a0_1, .slice A0_2 l0_2.length c0_2, .slice A0_3 l0_3.length c0_3, .slice A0_4 l0_4.length c0_4]) (t := 56) ?hr ?_; (case hd => rfl); (case hg => rfl); (case hr => first | (go_simp; done) | (go_simp; rfl)); intro gb588 hg w9 hbox hb; have n0_ := Aside0.mk (below_step (by repeat (first | (with_reducible first | exact HB.out | apply below_alloc | apply pw_below_drewN | apply below_drew1) | exact HB.out)) hb); have n1_ := Aside0.mk (hbox); have n2_ := Aside0.mk ((by rw [hg]; exact (below_size (by repeat (first | (with_reducible first | exact HB.out | apply below_alloc | apply pw_below_drewN | apply below_drew1) | exact HB.out))) : w.heap.size ≤ gb588)); have n3_ := Aside0.mk ((by rw [hg]; exact (below_size (by repeat (first | (with_reducible first | exact HB.out | apply below_alloc | apply pw_below_drewN | apply below_drew1) | exact HB.out))) : w.heap.size ≤ gb588)); clear HB; have HB := n0_; have BK588 := n1_; have GW588 := n2_; have GE588 := n3_; clear n0_ n1_ n2_ n3_; clear hb hbox hg; have hcz10_0 : w9.cell? ⟨gb588, 0, none⟩ = some (.int .u8 a0_0) := (blk_cell BK588.out 0).trans rfl; have hcz10_1 : w9.cell? ⟨gb588, 1, none⟩ = some (.int .u8 a0_1) := (blk_cell BK588.out 1).trans rfl; have hcz10_2 : w9.cell? ⟨gb588, 2, none⟩ = some (.slice A0_2 l0_2.length c0_2) := (blk_cell BK588.out 2).trans rfl; have hcz10_3 : w9.cell? ⟨gb588, 3, none⟩ = some (.slice A0_3 l0_3.length c0_3) := (blk_cell BK588.out 3).trans rfl; have hcz10_4 : w9.cell? ⟨gb588, 4, none⟩ = some (.slice A0_4 l0_4.length c0_4) := (blk_cell BK588.out 4).trans rfl; have hfz10_0 := blk_frozen BK588.out 0; have hfz10_1 := blk_frozen BK588.out 1; have hfz10_2 := blk_frozen BK588.out 2; have hfz10_3 := blk_frozen BK588.out 3; have hfz10_4 := blk_frozen BK588.out 4) | ((with_reducible refine gate_callee (f := 35) rfl ?_); refine goesL_ (some 19) rfl rfl Try.func35 (by kernel_rfl) rfl #[.int .u8 a0_0, .slice A0_2 l0_2.length c0_2] rfl (by (try simp only [List.map_toArray, List.map_cons, List.map_nil]); first | done | rfl | (simp only [List.length_drop, List.length_take]; rfl)) ?_; (with_reducible refine (wogglelaw02_made.calls k a0_0 _ _ l0_2 t589 t590 _ ?side1 ?side2 A2.out).mono ?_); (case side1 => repeat (first | exact (Kd.C_below HR0_2.out HB.out) | (with_reducible refine Kd.C_alloc ?_ _) | (with_reducible refine Kd.C_drewN ?_ _) | (with_reducible refine Kd.C_drew ?_))); (case side2 => exact HC0_2.out); rintro e w11 ⟨v591, rfl, ho0, hb⟩; refine ⟨_, rfl, ?_⟩; have n0_ := Aside0.mk (Kd.R_lower ho0 (below_size (by repeat (first | (with_reducible first | exact HB.out | apply below_alloc | apply pw_below_drewN | apply below_drew1 | refine below_set ?_ GE588.out) | exact HB.out)))); have n1_ := Aside0.mk (blk_below (g := gb588) (o := .cells #[.int .u8 a0_0, .int .u8 a0_1, .slice A0_2 l0_2.length c0_2, .slice A0_3 l0_3.length c0_3, .slice A0_4 l0_4.length c0_4] 56 (0, 0)) (by (with_reducible repeat (first | refine blk_drewN ?_ _ | refine blk_drew ?_ | refine blk_alloc ?_ _)); exact BK588.out) hb); have n2_ := Aside0.mk (below_step (by repeat (first | (with_reducible first | exact HB.out | apply below_alloc | apply pw_below_drewN | apply below_drew1 | refine below_set ?_ GE588.out) | exact HB.out)) hb); clear BK588; clear HB; have HO592 := n0_; have BK588 := n1_; have HB := n2_; clear n0_ n1_ n2_; (try clear hb); (try clear hb2); (try clear hk); (try clear hi); (try clear ho0); have hcz12_0 : w11.cell? ⟨gb588, 0, none⟩ = some (.int .u8 a0_0) := (blk_cell BK588.out 0).trans rfl; have hcz12_1 : w11.cell? ⟨gb588, 1, none⟩ = some (.int .u8 a0_1) := (blk_cell BK588.out 1).trans rfl; have hcz12_2 : w11.cell? ⟨gb588, 2, none⟩ = some (.slice A0_2 l0_2.length c0_2) := (blk_cell BK588.out 2).trans rfl; have hcz12_3 : w11.cell? ⟨gb588, 3, none⟩ = some (.slice A0_3 l0_3.length c0_3) := (blk_cell BK588.out 3).trans rfl; have hcz12_4 : w11.cell? ⟨gb588, 4, none⟩ = some (.slice A0_4 l0_4.length c0_4) := (blk_cell BK588.out 4).trans rfl; have hfz12_0 := blk_frozen BK588.out 0; have hfz12_1 := blk_frozen BK588.out 1; have hfz12_2 := blk_frozen BK588.out 2; have hfz12_3 := blk_frozen BK588.out 3; have hfz12_4 := blk_frozen BK588.out 4) | ((with_reducible refine gate_callee (f := 36) rfl ?_); refine goesL_ (some 31) rfl rfl Try.func36 (by kernel_rfl) rfl #[.int .i64 t589, .int .i64 ji6, .slice A0_4 l0_4.length c0_4] rfl (by (try simp only [List.map_toArray, List.map_cons, List.map_nil]); first | done | (simp only [hji6]; rfl) | rfl | (simp only [List.length_drop, List.length_take]; rfl)) ?_; (with_reducible refine (wogglelaw02_states.calls k t589 ji6 _ _ l0_4 t593 _ ?side1 ?side2 A3.out).mono ?_); (case side1 => repeat (first | exact (Kd.C_below HR0_4.out HB.out) | (with_reducible refine Kd.C_alloc ?_ _) | (with_reducible refine Kd.C_drewN ?_ _) | (with_reducible refine Kd.C_drew ?_))); (case side2 => exact HC0_4.out); rintro e w13 ⟨v594, rfl, ho0, hb⟩; refine ⟨_, rfl, ?_⟩; have n0_ := Aside0.mk (Kd.R_below (by (with_reducible repeat (first | apply Kd.R_alloc | apply Kd.R_drewN | apply Kd.R_drew)); exact HO592.out) hb); have n1_ := Aside0.mk (Kd.R_lower ho0 (below_size (by repeat (first | (with_reducible first | exact HB.out | apply below_alloc | apply pw_below_drewN | apply below_drew1 | refine below_set ?_ GE588.out) | exact HB.out)))); have n2_ := Aside0.mk (blk_below (g := gb588) (o := .cells #[.int .u8 a0_0, .int .u8 a0_1, .slice A0_2 l0_2.length c0_2, .slice A0_3 l0_3.length c0_3, .slice A0_4 l0_4.length c0_4] 56 (0, 0)) (by (with_reducible repeat (first | refine blk_drewN ?_ _ | refine blk_drew ?_ | refine blk_alloc ?_ _)); exact BK588.out) hb); have n3_ := Aside0.mk (below_step (by repeat (first | (with_reducible first | exact HB.out | apply below_alloc | apply pw_below_drewN | apply below_drew1 | refine below_set ?_ GE588.out) | exact HB.out)) hb); clear HO592; clear BK588; clear HB; have HO592 := n0_; have HO595 := n1_; have BK588 := n2_; have HB := n3_; clear n0_ n1_ n2_ n3_; (try clear hb); (try clear hb2); (try clear hk); (try clear hi); (try clear ho0)) | ((with_reducible refine gate_callee (f := 37) rfl ?_); refine goesL_ (some 36) rfl rfl Try.func37 (by kernel_rfl) rfl #[.int .i64 ji6] rfl (by (try simp only [List.map_toArray, List.map_cons, List.map_nil]); first | done | (simp only [hji6]; rfl) | rfl | (simp only [List.length_drop, List.length_take]; rfl)) ?_; (with_reducible refine (woggleref02_Unit.calls k ji6 t596 _ A4.out).mono ?_); rintro e w14 ⟨v597, rfl, ho0, hb⟩; refine ⟨_, rfl, ?_⟩; have n0_ := Aside0.mk (Kd.R_below (by (with_reducible repeat (first | apply Kd.R_alloc | apply Kd.R_drewN | apply Kd.R_drew)); exact HO592.out) hb); have n1_ := Aside0.mk (Kd.R_below (by (with_reducible repeat (first | apply Kd.R_alloc | apply Kd.R_drewN | apply Kd.R_drew)); exact HO595.out) hb); have n2_ := Aside0.mk (Kd.S_lower (Kd.S_new' ho0 (Kd.R_lt (by (with_reducible repeat (first | apply Kd.R_alloc | apply Kd.R_drewN | apply Kd.R_drew)); exact HO595.out))) (below_size (by repeat (first | (with_reducible first | exact HB.out | apply below_alloc | apply pw_below_drewN | apply below_drew1 | refine below_set ?_ GE588.out) | exact HB.out)))); have n3_ := Aside0.mk (blk_below (g := gb588) (o := .cells #[.int .u8 a0_0, .int .u8 a0_1, .slice A0_2 l0_2.length c0_2, .slice A0_3 l0_3.length c0_3, .slice A0_4 l0_4.length c0_4] 56 (0, 0)) (by (with_reducible repeat (first | refine blk_drewN ?_ _ | refine blk_drew ?_ | refine blk_alloc ?_ _)); exact BK588.out) hb); have n4_ := Aside0.mk (below_step (by repeat (first | (with_reducible first | exact HB.out | apply below_alloc | apply pw_below_drewN | apply below_drew1 | refine below_set ?_ GE588.out) | exact HB.out)) hb); clear HO592; clear HO595; clear BK588; clear HB; have HO592 := n0_; have HO595 := n1_; have HO598 := n2_; have BK588 := n3_; have HB := n4_; clear n0_ n1_ n2_ n3_ n4_; (try clear hb); (try clear hb2); (try clear hk); (try clear hi); (try clear ho0); obtain ⟨Ao15, co15, eo15⟩ := Kd.R_slice HO592.out; subst eo15; obtain ⟨Ao16, co16, eo16⟩ := Kd.S_slice HO598.out; subst eo16; obtain ⟨Ao17, co17, eo17⟩ := Kd.R_slice HO595.out; subst eo17) | ((with_reducible refine gate_callee (f := 32) rfl ?_); refine goesL_ (some 38) rfl rfl Try.func32 (by kernel_rfl) rfl #[.int .i64 t589, .slice Ao15 t590.length co15, .slice Ao16 t596.length co16, .slice Ao17 t593.length co17] rfl (by (try simp only [List.map_toArray, List.map_cons, List.map_nil]); first | done | rfl | (simp only [List.length_drop, List.length_take]; rfl)) ?_; (with_reducible refine (track_Least.calls k t589 _ _ t590 _ _ t596 _ _ t593 t599 t600 _ ?side1 ?side2 ?side3 ?side4 ?side5 ?side6 A5.out).mono ?_); (case side1 => repeat (first | exact (Kd.R_reads' HO592.out).2.2 | (with_reducible refine Kd.C_alloc ?_ _) | (with_reducible refine Kd.C_drewN ?_ _) | (with_reducible refine Kd.C_drew ?_))); (case side2 => exact (Kd.R_reads' HO592.out).2.1); (case side3 => repeat (first | exact (Kd.S_reads' HO598.out).2.2 | (with_reducible refine Kd.C_alloc ?_ _) | (with_reducible refine Kd.C_drewN ?_ _) | (with_reducible refine Kd.C_drew ?_))); (case side4 => exact (Kd.S_reads' HO598.out).2.1); (case side5 => repeat (first | exact (Kd.R_reads' HO595.out).2.2 | (with_reducible refine Kd.C_alloc ?_ _) | (with_reducible refine Kd.C_drewN ?_ _) | (with_reducible refine Kd.C_drew ?_))); (case side6 => exact (Kd.R_reads' HO595.out).2.1); rintro e w18 ⟨rfl, hb⟩; refine ⟨_, rfl, ?_⟩; have n0_ := Aside0.mk (Kd.R_below (by (with_reducible repeat (first | apply Kd.R_alloc | apply Kd.R_drewN | apply Kd.R_drew)); exact HO592.out) hb); have n1_ := Aside0.mk (Kd.R_below (by (with_reducible repeat (first | apply Kd.R_alloc | apply Kd.R_drewN | apply Kd.R_drew)); exact HO595.out) hb); have n2_ := Aside0.mk (Kd.S_below (by (with_reducible repeat (first | apply Kd.S_alloc | apply Kd.S_drewN | apply Kd.S_drew)); exact HO598.out) hb); have n3_ := Aside0.mk (blk_below (g := gb588) (o := .cells #[.int .u8 a0_0, .int .u8 a0_1, .slice A0_2 l0_2.length c0_2, .slice A0_3 l0_3.length c0_3, .slice A0_4 l0_4.length c0_4] 56 (0, 0)) (by (with_reducible repeat (first | refine blk_drewN ?_ _ | refine blk_drew ?_ | refine blk_alloc ?_ _)); exact BK588.out) hb); have n4_ := Aside0.mk (below_step (by repeat (first | (with_reducible first | exact HB.out | apply below_alloc | apply pw_below_drewN | apply below_drew1 | refine below_set ?_ GE588.out) | exact HB.out)) hb); clear HO592; clear HO595; clear HO598; clear BK588; clear HB; have HO592 := n0_; have HO595 := n1_; have HO598 := n2_; have BK588 := n3_; have HB := n4_; clear n0_ n1_ n2_ n3_ n4_; (try clear hb); (try clear hb2); (try clear hk); (try clear hi)) | ((with_reducible refine gate_dst (N := 42) rfl ?_); refine Kd.R_make (Kd.int .i64) _ 3 rfl (N := 42) rfl 25 _ _ rfl ji6 rfl rfl Try.underlying25 (.int .i64 0) 8 info3 rfl (by decide) (by omega) 0 (ok := fun _ => True) (okp := fun _ => True) rfl (fun _ hk => hk) trivial (of_decide_eq_true (by first | (with_reducible assumption) | assumption)) (Nat.le_trans (Nat.mul_le_mul_right _ (of_decide_eq_true (by first | (with_reducible assumption) | assumption) : ji6.toNat ≤ 35184372088832)) (by omega)) (Below.refl _ _) (Nat.le_refl _) ?_; intro v602 w19 ho20 hb hg_ hnew_; clear hg_ hnew_; (first | rw [← Ny601.out] at ho20 | (simp only [Int.reduceToNat] at ho20; rw [← Ny601.out] at ho20)); have n0_ := Aside0.mk (Kd.R_below (by (with_reducible repeat (first | apply Kd.R_alloc | apply Kd.R_drewN | apply Kd.R_drew)); exact HO592.out) hb); have n1_ := Aside0.mk (Kd.R_elder' (by (with_reducible repeat (first | apply Kd.R_alloc | apply Kd.R_drewN | apply Kd.R_drew)); exact HO595.out) (Kd.R_base ho20) hb); have n2_ := Aside0.mk (Kd.S_elder' (by (with_reducible repeat (first | apply Kd.S_alloc | apply Kd.S_drewN | apply Kd.S_drew)); exact HO598.out) (Kd.R_base ho20) hb); have n3_ := Aside0.mk (Kd.R_lower (Kd.R_new' ho20 (Kd.R_lt (by (with_reducible repeat (first | apply Kd.R_alloc | apply Kd.R_drewN | apply Kd.R_drew)); exact HO595.out))) (below_size (by repeat (first | (with_reducible first | exact HB.out | apply below_alloc | apply pw_below_drewN | apply below_drew1 | refine below_set ?_ GE588.out) | exact HB.out)))); have n4_ := Aside0.mk (blk_below (g := gb588) (o := .cells #[.int .u8 a0_0, .int .u8 a0_1, .slice A0_2 l0_2.length c0_2, .slice A0_3 l0_3.length c0_3, .slice A0_4 l0_4.length c0_4] 56 (0, 0)) (by (with_reducible repeat (first | refine blk_drewN ?_ _ | refine blk_drew ?_ | refine blk_alloc ?_ _)); exact BK588.out) hb); have n5_ := Aside0.mk (below_step (by repeat (first | (with_reducible first | exact HB.out | apply below_alloc | apply pw_below_drewN | apply below_drew1 | refine below_set ?_ GE588.out) | exact HB.out)) hb); clear HO592; clear HO595; clear HO598; clear BK588; clear HB; have HO592 := n0_; have HO595 := n1_; have HO598 := n2_; have HO603 := n3_; have BK588 := n4_; have HB := n5_; clear n0_ n1_ n2_ n3_ n4_ n5_; clear hb ho20))
      go_loopg [12] k (fun kq v12 w' => ∃ (x9_1 : List Int) (x12_1 : Int), v12 = .int .i64 x12_1 ∧ Aside0 (wogglelaw02_TrackBounds.l0 kq t589 ji6 t593 t599 t600 x9_1 0 0 x12_1 = some r) ∧ Aside0 (kq ≤ k) ∧ Aside0 (Kd.R (Kd.int .i64) 3 w' w.heap.size (fun k_ => some k_ ≠ (v602 : Value).ownBlock) (.slice Ao17 t593.length co17) t593) ∧ Aside0 (Kd.R (Kd.int .i64) 3 w' w.heap.size (fun k_ => some k_ ≠ ((.slice Ao17 t593.length co17) : Value).ownBlock) v602 x9_1) ∧ Aside0 (w'.heap[gb588]? = some (.cells #[.int .u8 a0_0, .int .u8 a0_1, (.slice A0_2 l0_2.length c0_2), (.slice A0_3 l0_3.length c0_3), (.slice A0_4 l0_4.length c0_4)] 56 (0, 0))) ∧ Aside0 (Below w.heap.size w w'))
      case atStart => exact ⟨(y601), (0), (by first | rfl | (simp; done) | (simp [*]; done)), H', ⟨Nat.le_refl _⟩, ⟨by (with_reducible repeat (first | apply Kd.R_alloc | apply Kd.R_drewN | apply Kd.R_drew)); exact Kd.R_mono HO595.out (fun _ hk => hk.2)⟩, ⟨by (with_reducible repeat (first | apply Kd.R_alloc | apply Kd.R_drewN | apply Kd.R_drew)); exact Kd.R_mono HO603.out (fun _ hk => hk.2)⟩, ⟨by (with_reducible repeat (first | refine blk_drewN ?_ _ | refine blk_drew ?_ | refine blk_alloc ?_ _)); exact BK588.out⟩, ⟨by repeat (first | (with_reducible first | exact HB.out | apply below_alloc | apply pw_below_drewN | apply below_drew1 | refine below_set ?_ GE588.out) | exact HB.out)⟩⟩
      case round =>
        clear H'
        try clear p2
        try clear c3
        try clear p6
        try clear c7
        try clear c7b0
        try clear c7b1
        try clear c8
        try clear c8b0
        try clear c8b1
        try clear c9
        try clear hcz10_0
        try clear hcz10_1
        try clear hcz10_2
        try clear hcz10_3
        try clear hcz10_4
        try clear hcz12_0
        try clear hcz12_1
        try clear hcz12_2
        try clear hcz12_3
        try clear hcz12_4
        try clear hfz10_0
        try clear hfz10_1
        try clear hfz10_2
        try clear hfz10_3
        try clear hfz10_4
        try clear hfz12_0
        try clear hfz12_1
        try clear hfz12_2
        try clear hfz12_3
        try clear hfz12_4
        obtain ⟨x9_1, x12_1, rfl, HA, HK1, HO_6, HO_9, BK588, HB⟩ := hrel
        cases gk with
        | zero => exact absurd HA.out (by simp [wogglelaw02_TrackBounds.l0])
        | succ k1 =>
          have H := HA.out
          clear HA
          simp only [wogglelaw02_TrackBounds.l0] at H
          by_cases c21 : x12_1 < t589
          · rw [if_pos c21] at H
            have c21b0 : decide (x12_1 < t589) = true := decide_eq_true c21
            clear c21
            by_cases c22 : 0 ≤ x12_1
            · rw [if_pos c22] at H
              have c22b0 : decide (0 ≤ x12_1) = true := decide_eq_true c22
              clear c22
              by_cases c23 : x12_1 < (t593.length : Int)
              · rw [if_pos c23] at H
                have c23b0 : decide (x12_1 < (t593.length : Int)) = true := decide_eq_true c23
                clear c23
                by_cases c24 : 0 ≤ (rd t593 x12_1)
                · rw [if_pos c24] at H
                  have c24b0 : decide (0 ≤ (rd t593 x12_1)) = true := decide_eq_true c24
                  clear c24
                  by_cases c25 : (rd t593 x12_1) < (x9_1.length : Int)
                  · rw [if_pos c25] at H
                    have c25b0 : decide ((rd t593 x12_1) < (x9_1.length : Int)) = true := decide_eq_true c25
                    clear c25
                    obtain ⟨y606, hy606⟩ : ∃ y_ : List Int, y_ = (x9_1.set ((rd t593 x12_1) : Int).toNat (wrap64 ((rd x9_1 (rd t593 x12_1)) + 1))) := ⟨_, rfl⟩
                    replace H : (wogglelaw02_TrackBounds.l0 k1 t589 ji6 t593 t599 t600 y606 0 0 (wrap64 (x12_1 + 1))) = some r := by first | (rw [hy606]; with_reducible exact H) | (have H2_ := (Option.bind_some _ _).symm.trans H; rw [hy606]; with_reducible exact H2_) | (have H2_ := (Option.bind_some _ _).symm.trans H; with_reducible exact H2_) | with_reducible exact H | (rw [hy606]; exact H) | exact H
                    have Ny606 := Aside0.mk hy606
                    clear hy606
                    have H' := Aside0.mk H
                    clear H
                    have p604 : 0 ≤ (x12_1 : Int) := of_decide_eq_true (by first | (with_reducible assumption) | assumption)
                    have q604 : x12_1 < (t593.length : Int) := of_decide_eq_true (by first | (with_reducible assumption) | assumption)
                    obtain ⟨ad604, e604, hx604_0⟩ := Kd.at_int (Kd.R_reads' HO_6.out).2.2 x12_1 p604 q604
                    cases e604
                    replace p604 := eq_true p604
                    replace q604 := eq_true q604
                    obtain ⟨Ao27, co27, eo27⟩ := Kd.R_slice HO_9.out
                    subst eo27
                    have p605 : 0 ≤ ((rd t593 x12_1) : Int) := of_decide_eq_true (by first | (with_reducible assumption) | assumption)
                    have q605 : (rd t593 x12_1) < (x9_1.length : Int) := of_decide_eq_true (by first | (with_reducible assumption) | assumption)
                    obtain ⟨ad605, e605, hx605_0⟩ := Kd.at_int (Kd.R_reads' HO_9.out).2.2 (rd t593 x12_1) p605 q605
                    cases e605
                    replace p605 := eq_true p605
                    replace q605 := eq_true q605
                    have p26 : 0 ≤ ((rd t593 x12_1) : Int) := of_decide_eq_true (by first | (with_reducible assumption) | assumption)
                    have q26 : ((rd t593 x12_1) : Int) < ((x9_1.length : Int) : Int) := of_decide_eq_true (by first | (with_reducible assumption) | assumption)
                    obtain ⟨go26, co26, eo26, gb26, gl26, cl26, HG26⟩ := Kd.R_form HO_9.out (by omega)
                    (first | cases eo26 | (injection eo26 with ea_ en_ ec_; (first | subst ea_ | (injection ea_ with ea_; subst ea_)); subst ec_; clear en_))
                    have GB26 := Aside0.mk gb26
                    have GG26 := Aside0.mk HG26
                    clear gb26 gl26 HG26
                    (first | simp only [add_plain] at hx605_0 | skip)
                    obtain ⟨hx26_0, hf26_0⟩ := Kd.R_celln 0 HO_9.out ((rd t593 x12_1) : Int) p26 q26
                    replace p26 := eq_true p26
                    replace q26 := eq_true q26
                    have HP28 := Kd.R_putg HO_9.out ((rd t593 x12_1) : Int) (wrap64 ((rd x9_1 (rd t593 x12_1)) + 1))
                    go_wp2_with (first | ((with_reducible refine gate_store (t := 3) (p := 56) rfl ?_); refine store_event (t := 3) (p := 56) (v := ?vo_w29) (w1 := (wr.setCell ⟨go26, ((rd t593 x12_1) : Int).toNat, none⟩ (.int .i64 (wrap64 ((rd x9_1 (rd t593 x12_1)) + 1))))) ?hg ?ho ?hn ?hr ?_; (case ho => rfl); (case hg => rfl); (case hn => rfl); (case hr => first | (go_simp; done) | (go_simp; rfl)); intro w29 hw; have hg : wr.grownBy w29 (some go26) := (by rw [hw]; exact HP28.2); have hp_ : Kd.R (Kd.int .i64) 3 w29 w.heap.size (fun k_ => some k_ ≠ (.slice (some ad604) t593.length co17 : Value).ownBlock) (.slice (some ⟨go26, 0, none⟩) x9_1.length co27) y606 := (by rw [hw, Ny606.out]; exact HP28.1); clear HP28; have n0_ := Aside0.mk (Kd.R_after (v := (.slice (some ⟨go26, 0, none⟩) x9_1.length co27)) (v1 := (.slice (some ⟨go26, 0, none⟩) x9_1.length co27)) (ok := (fun _ => True)) (by (with_reducible repeat (first | apply Kd.R_alloc | apply Kd.R_drewN | apply Kd.R_drew)); exact Kd.R_mono HO_6.out (fun _ hk => ⟨trivial, hk⟩)) hg (.inl rfl)); have n1_ := Aside0.mk (hp_); have n2_ := Aside0.mk (blk_grown (g := gb588) (o := .cells #[.int .u8 a0_0, .int .u8 a0_1, .slice A0_2 l0_2.length c0_2, .slice A0_3 l0_3.length c0_3, .slice A0_4 l0_4.length c0_4] 56 (0, 0)) (by (with_reducible repeat (first | refine blk_drewN ?_ _ | refine blk_drew ?_ | refine blk_alloc ?_ _)); exact BK588.out) hg (Kd.R_ne HO_9.out BK588.out (by decide))); have n3_ := Aside0.mk ((by rw [hw]; exact below_set (HB.out) GB26.out : Below w.heap.size w w29)); clear HO_6; clear HO_9; clear BK588; clear HB; have HO_6 := n0_; have HO_9 := n1_; have BK588 := n2_; have HB := n3_; clear n0_ n1_ n2_ n3_; clear hg hw hp_))
                    go_roundg k1
                    case measure => have := HK1.out; omega
                    case rel => exact ⟨(y606), (wrap64 (x12_1 + 1)), (by first | rfl | (simp; done) | (simp [*]; done)), H', ⟨by have := HK1.out; omega⟩, ⟨by (with_reducible repeat (first | apply Kd.R_alloc | apply Kd.R_drewN | apply Kd.R_drew)); exact Kd.R_mono HO_6.out (fun _ hk => hk.2)⟩, ⟨by (with_reducible repeat (first | apply Kd.R_alloc | apply Kd.R_drewN | apply Kd.R_drew)); exact HO_9.out⟩, ⟨by (with_reducible repeat (first | refine blk_drewN ?_ _ | refine blk_drew ?_ | refine blk_alloc ?_ _)); exact BK588.out⟩, ⟨by repeat (first | (with_reducible first | exact HB.out | apply below_alloc | apply pw_below_drewN | apply below_drew1 | refine below_set ?_ GE588.out) | exact HB.out)⟩⟩
                  · rw [if_neg c25] at H
                    exact absurd H (by simp)
                · rw [if_neg c24] at H
                  exact absurd H (by simp)
              · rw [if_neg c23] at H
                exact absurd H (by simp)
            · rw [if_neg c22] at H
              exact absurd H (by simp)
          · rw [if_neg c21] at H
            have c21b0 : decide (x12_1 < t589) = false := decide_eq_false c21
            clear c21
            have H' := Aside0.mk H
            clear H
            go_wp2
            go_loopg [10, 11, 13] k1 (fun kq v10 v11 v13 w' => ∃ (x10_2 : Int) (x11_2 : Int) (x13_2 : Int), v10 = .int .i64 x10_2 ∧ v11 = .int .i64 x11_2 ∧ v13 = .int .i64 x13_2 ∧ Aside0 (wogglelaw02_TrackBounds.l1 kq t589 ji6 t599 t600 x9_1 x10_2 x11_2 x13_2 = some r) ∧ Aside0 (kq ≤ k1) ∧ Aside0 (Kd.R (Kd.int .i64) 3 w' w.heap.size (fun _ => True) v602 x9_1) ∧ Aside0 (w'.heap[gb588]? = some (.cells #[.int .u8 a0_0, .int .u8 a0_1, (.slice A0_2 l0_2.length c0_2), (.slice A0_3 l0_3.length c0_3), (.slice A0_4 l0_4.length c0_4)] 56 (0, 0))) ∧ Aside0 (Below w.heap.size w w'))
            case atStart => exact ⟨(0), (0), (0), (by first | rfl | (simp; done) | (simp [*]; done)), (by first | rfl | (simp; done) | (simp [*]; done)), (by first | rfl | (simp; done) | (simp [*]; done)), H', ⟨Nat.le_refl _⟩, ⟨by (with_reducible repeat (first | apply Kd.R_alloc | apply Kd.R_drewN | apply Kd.R_drew)); exact Kd.R_mono HO_9.out (fun _ hk => trivial)⟩, ⟨by (with_reducible repeat (first | refine blk_drewN ?_ _ | refine blk_drew ?_ | refine blk_alloc ?_ _)); exact BK588.out⟩, ⟨by repeat (first | (with_reducible first | exact HB.out | apply below_alloc | apply pw_below_drewN | apply below_drew1 | refine below_set ?_ GE588.out) | exact HB.out)⟩⟩
            case round =>
              clear H'
              try clear c2
              try clear p2
              try clear q2
              try clear hx2
              try clear hf2
              try clear c3
              try clear p6
              try clear q6
              try clear hx6
              try clear c7
              try clear c7b0
              try clear c7b1
              try clear c8
              try clear c8b0
              try clear c8b1
              try clear c9
              try clear c21
              try clear c21b0
              try clear c22
              try clear c22b0
              try clear c23
              try clear c23b0
              try clear c24
              try clear c24b0
              try clear c25
              try clear c25b0
              try clear p26
              try clear q26
              try clear hx26
              try clear hf26
              try clear hcz10_0
              try clear hcz10_1
              try clear hcz10_2
              try clear hcz10_3
              try clear hcz10_4
              try clear hcz12_0
              try clear hcz12_1
              try clear hcz12_2
              try clear hcz12_3
              try clear hcz12_4
              try clear hfz10_0
              try clear hfz10_1
              try clear hfz10_2
              try clear hfz10_3
              try clear hfz10_4
              try clear hfz12_0
              try clear hfz12_1
              try clear hfz12_2
              try clear hfz12_3
              try clear hfz12_4
              try clear hx26_0
              try clear hx604_0
              try clear hx605_0
              try clear p2
              try clear p26
              try clear p6
              try clear p604
              try clear p605
              try clear q26
              try clear q604
              try clear q605
              obtain ⟨x10_2, x11_2, x13_2, rfl, rfl, rfl, HA, HK2, HO_9, BK588, HB⟩ := hrel
              cases gk with
              | zero => exact absurd HA.out (by simp [wogglelaw02_TrackBounds.l1])
              | succ k2 =>
                have H := HA.out
                clear HA
                simp only [wogglelaw02_TrackBounds.l1] at H
                by_cases c30 : x13_2 < ji6
                · rw [if_pos c30] at H
                  have c30b0 : decide (x13_2 < ji6) = true := decide_eq_true c30
                  clear c30
                  by_cases c31 : 0 ≤ x13_2
                  · rw [if_pos c31] at H
                    have c31b0 : decide (0 ≤ x13_2) = true := decide_eq_true c31
                    clear c31
                    by_cases c32 : x13_2 < (x9_1.length : Int)
                    · rw [if_pos c32] at H
                      have c32b0 : decide (x13_2 < (x9_1.length : Int)) = true := decide_eq_true c32
                      clear c32
                      by_cases c33 : (rd x9_1 x13_2) > 0
                      · rw [if_pos c33] at H
                        have c33b0 : decide (0 < (rd x9_1 x13_2)) = true := decide_eq_true c33
                        clear c33
                        obtain ⟨ji34, hji34⟩ : ∃ j_ : Int, (mx x11_2 (rd x9_1 x13_2)) = j_ := ⟨_, rfl⟩
                        replace H : (wogglelaw02_TrackBounds.l1 k2 t589 ji6 t599 t600 x9_1 (wrap64 (x10_2 + 1)) ji34 (wrap64 (x13_2 + 1))) = some r := by first | (rw [hji34] at H; exact H) | (simp only [hji34] at H ⊢; exact H)
                        have hji34_ : (if x11_2 < (rd x9_1 x13_2) then (rd x9_1 x13_2) else x11_2) = ji34 := hji34
                        have H' := Aside0.mk H
                        clear H
                        obtain ⟨Ao35, co35, eo35⟩ := Kd.R_slice HO_9.out
                        subst eo35
                        have p607 : 0 ≤ (x13_2 : Int) := of_decide_eq_true (by first | (with_reducible assumption) | assumption)
                        have q607 : x13_2 < (x9_1.length : Int) := of_decide_eq_true (by first | (with_reducible assumption) | assumption)
                        obtain ⟨ad607, e607, hx607_0⟩ := Kd.at_int (Kd.R_reads' HO_9.out).2.2 x13_2 p607 q607
                        cases e607
                        replace p607 := eq_true p607
                        replace q607 := eq_true q607
                        have p608 : 0 ≤ (x13_2 : Int) := of_decide_eq_true (by first | (with_reducible assumption) | assumption)
                        have q608 : x13_2 < (x9_1.length : Int) := of_decide_eq_true (by first | (with_reducible assumption) | assumption)
                        obtain ⟨ad608, e608, hx608_0⟩ := Kd.at_int (Kd.R_reads' HO_9.out).2.2 x13_2 p608 q608
                        obtain rfl : ad607 = ad608 := (by injection e608)
                        replace p608 := eq_true p608
                        replace q608 := eq_true q608
                        go_wp2
                        go_roundg k2
                        case measure => have := HK1.out; have := HK2.out; omega
                        case rel => exact ⟨(wrap64 (x10_2 + 1)), (ji34), (wrap64 (x13_2 + 1)), (by first | rfl | (simp; done) | (simp [*]; done)), (by first | rfl | (simp; done) | (simp only [← hji34] <;> (first | rfl | simp)) | (simp [*]; done)), (by first | rfl | (simp; done) | (simp [*]; done)), H', ⟨by have := HK1.out; have := HK2.out; omega⟩, ⟨by (with_reducible repeat (first | apply Kd.R_alloc | apply Kd.R_drewN | apply Kd.R_drew)); exact HO_9.out⟩, ⟨by (with_reducible repeat (first | refine blk_drewN ?_ _ | refine blk_drew ?_ | refine blk_alloc ?_ _)); exact BK588.out⟩, ⟨by repeat (first | (with_reducible first | exact HB.out | apply below_alloc | apply pw_below_drewN | apply below_drew1 | refine below_set ?_ GE588.out) | exact HB.out)⟩⟩
                      · rw [if_neg c33] at H
                        have c33b0 : decide (0 < (rd x9_1 x13_2)) = false := decide_eq_false c33
                        clear c33
                        obtain ⟨ji36, hji36⟩ : ∃ j_ : Int, (mx x11_2 (rd x9_1 x13_2)) = j_ := ⟨_, rfl⟩
                        replace H : (wogglelaw02_TrackBounds.l1 k2 t589 ji6 t599 t600 x9_1 x10_2 ji36 (wrap64 (x13_2 + 1))) = some r := by first | (rw [hji36] at H; exact H) | (simp only [hji36] at H ⊢; exact H)
                        have hji36_ : (if x11_2 < (rd x9_1 x13_2) then (rd x9_1 x13_2) else x11_2) = ji36 := hji36
                        have H' := Aside0.mk H
                        clear H
                        obtain ⟨Ao37, co37, eo37⟩ := Kd.R_slice HO_9.out
                        subst eo37
                        have p607 : 0 ≤ (x13_2 : Int) := of_decide_eq_true (by first | (with_reducible assumption) | assumption)
                        have q607 : x13_2 < (x9_1.length : Int) := of_decide_eq_true (by first | (with_reducible assumption) | assumption)
                        obtain ⟨ad607, e607, hx607_0⟩ := Kd.at_int (Kd.R_reads' HO_9.out).2.2 x13_2 p607 q607
                        cases e607
                        replace p607 := eq_true p607
                        replace q607 := eq_true q607
                        have p609 : 0 ≤ (x13_2 : Int) := of_decide_eq_true (by first | (with_reducible assumption) | assumption)
                        have q609 : x13_2 < (x9_1.length : Int) := of_decide_eq_true (by first | (with_reducible assumption) | assumption)
                        obtain ⟨ad609, e609, hx609_0⟩ := Kd.at_int (Kd.R_reads' HO_9.out).2.2 x13_2 p609 q609
                        obtain rfl : ad607 = ad609 := (by injection e609)
                        replace p609 := eq_true p609
                        replace q609 := eq_true q609
                        go_wp2
                        go_roundg k2
                        case measure => have := HK1.out; have := HK2.out; omega
                        case rel => exact ⟨(x10_2), (ji36), (wrap64 (x13_2 + 1)), (by first | rfl | (simp; done) | (simp [*]; done)), (by first | rfl | (simp; done) | (simp only [← hji36] <;> (first | rfl | simp)) | (simp [*]; done)), (by first | rfl | (simp; done) | (simp [*]; done)), H', ⟨by have := HK1.out; have := HK2.out; omega⟩, ⟨by (with_reducible repeat (first | apply Kd.R_alloc | apply Kd.R_drewN | apply Kd.R_drew)); exact HO_9.out⟩, ⟨by (with_reducible repeat (first | refine blk_drewN ?_ _ | refine blk_drew ?_ | refine blk_alloc ?_ _)); exact BK588.out⟩, ⟨by repeat (first | (with_reducible first | exact HB.out | apply below_alloc | apply pw_below_drewN | apply below_drew1 | refine below_set ?_ GE588.out) | exact HB.out)⟩⟩
                    · rw [if_neg c32] at H
                      exact absurd H (by simp)
                  · rw [if_neg c31] at H
                    exact absurd H (by simp)
                · rw [if_neg c30] at H
                  have c30b0 : decide (x13_2 < ji6) = false := decide_eq_false c30
                  clear c30
                  by_cases c38 : t600 = 0
                  · rw [if_pos c38] at H
                    have c38b0 : (t600 == 0) = true := beq_iff_eq.mpr c38
                    have c38b1 : (t600 != 0) = false := bne_eq_false_iff_eq.mpr c38
                    clear c38
                    by_cases c39 : t599 ≥ (wrap64 (x10_2 - 1))
                    · rw [if_pos c39] at H
                      have c39b0 : decide ((wrap64 (x10_2 - 1)) ≤ t599) = true := decide_eq_true c39
                      clear c39
                      by_cases c40 : t599 ≤ (wrap64 (t589 - x11_2))
                      · rw [if_pos c40] at H
                        have c40b0 : decide (t599 ≤ (wrap64 (t589 - x11_2))) = true := decide_eq_true c40
                        clear c40
                        replace H := Option.bind_eq_some_iff.mp H
                        obtain ⟨t610, A410, H⟩ := H
                        replace H : (some t610) = some r := H
                        have A41 := Aside0.mk A410
                        clear A410
                        obtain rfl := Option.some.inj H
                        go_wp2_with (first | (go_at_call 22; (with_reducible refine (wogglelaw02_lives.calls k2  t610 _ A41.out).mono ?_); rintro e w42 ⟨rfl, hb⟩; have n0_ := Aside0.mk (Kd.R_below (by (with_reducible repeat (first | apply Kd.R_alloc | apply Kd.R_drewN | apply Kd.R_drew)); exact HO_9.out) hb); have n1_ := Aside0.mk (blk_below (g := gb588) (o := .cells #[.int .u8 a0_0, .int .u8 a0_1, .slice A0_2 l0_2.length c0_2, .slice A0_3 l0_3.length c0_3, .slice A0_4 l0_4.length c0_4] 56 (0, 0)) (by (with_reducible repeat (first | refine blk_drewN ?_ _ | refine blk_drew ?_ | refine blk_alloc ?_ _)); exact BK588.out) hb); have n2_ := Aside0.mk (below_step (by repeat (first | (with_reducible first | exact HB.out | apply below_alloc | apply pw_below_drewN | apply below_drew1 | refine below_set ?_ GE588.out) | exact HB.out)) hb); clear HO_9; clear BK588; clear HB; have HO_9 := n0_; have BK588 := n1_; have HB := n2_; clear n0_ n1_ n2_; (try clear hb); (try clear hb2); (try clear hk); (try clear hi)))
                        go_ret
                        exact ⟨by first | rfl | (simp [errW_none, errW_some] <;> rfl) | (simp only [← hji6]; first | rfl | (simp [errW_none, errW_some] <;> rfl)) | (simp [*, errW_none, errW_some] <;> rfl), by repeat (first | (with_reducible first | exact HB.out | apply below_alloc | apply pw_below_drewN | apply below_drew1 | refine below_set ?_ GE588.out) | exact HB.out)⟩
                      · rw [if_neg c40] at H
                        have c40b0 : decide (t599 ≤ (wrap64 (t589 - x11_2))) = false := decide_eq_false c40
                        clear c40
                        obtain rfl := Option.some.inj H
                        go_wp2
                        go_ret
                        exact ⟨by first | rfl | (simp [errW_none, errW_some] <;> rfl) | (simp only [← hji6]; first | rfl | (simp [errW_none, errW_some] <;> rfl)) | (simp [*, errW_none, errW_some] <;> rfl), by repeat (first | (with_reducible first | exact HB.out | apply below_alloc | apply pw_below_drewN | apply below_drew1 | refine below_set ?_ GE588.out) | exact HB.out)⟩
                    · rw [if_neg c39] at H
                      have c39b0 : decide ((wrap64 (x10_2 - 1)) ≤ t599) = false := decide_eq_false c39
                      clear c39
                      obtain rfl := Option.some.inj H
                      go_wp2
                      go_ret
                      exact ⟨by first | rfl | (simp [errW_none, errW_some] <;> rfl) | (simp only [← hji6]; first | rfl | (simp [errW_none, errW_some] <;> rfl)) | (simp [*, errW_none, errW_some] <;> rfl), by repeat (first | (with_reducible first | exact HB.out | apply below_alloc | apply pw_below_drewN | apply below_drew1 | refine below_set ?_ GE588.out) | exact HB.out)⟩
                  · rw [if_neg c38] at H
                    have c38b0 : (t600 == 0) = false := beq_eq_false_iff_ne.mpr c38
                    have c38b1 : (t600 != 0) = true := bne_iff_ne.mpr c38
                    obtain rfl := Option.some.inj H
                    go_wp2
                    go_ret
                    exact ⟨by first | rfl | (simp [errW_none, errW_some] <;> rfl) | (simp only [← hji6]; first | rfl | (simp [errW_none, errW_some] <;> rfl)) | (simp [*, errW_none, errW_some] <;> rfl), by repeat (first | (with_reducible first | exact HB.out | apply below_alloc | apply pw_below_drewN | apply below_drew1 | refine below_set ?_ GE588.out) | exact HB.out)⟩
    · rw [if_neg c8] at H
      exact absurd H (by simp)
  · rw [if_neg c7] at H
    exact absurd H (by simp)

/-- THE ONE PURE STATEMENT of wogglelaw02_TrackBounds: yours. -/
def wogglelaw02_TrackBounds.Pure : Prop := ∀ (a0_0 : Int) (a0_1 : Int) (l0_2 : List Int) (l0_3 : List Int) (l0_4 : List Int), (Lit.int .u8 a0_0).wf = true → (Lit.int .u8 a0_1).wf = true → (l0_2.length ≤ maxLen ∧ ∀ x0_ ∈ l0_2, (Lit.int .u8 x0_).wf = true) → (l0_3.length ≤ maxLen ∧ ∀ x0_ ∈ l0_3, (Lit.int .u8 x0_).wf = true) → (l0_4.length ≤ maxLen ∧ ∀ x0_ ∈ l0_4, (Lit.int .u8 x0_).wf = true) → ∃ k, wogglelaw02_TrackBounds.f k a0_0 a0_1 l0_2 l0_3 l0_4 = some true

end Go.Proofs.Ytcphmeeighhdjaa.P
