-- written by a program of this session
import Derived.Test.YtcphmeeighhdjaaPK
import Derived.Test.YtcphmeeighhdjaaPF20
import Derived.Test.YtcphmeeighhdjaaPF22
import Derived.Test.YtcphmeeighhdjaaPF22d
import Derived.Test.YtcphmeeighhdjaaPF26
import Derived.Test.YtcphmeeighhdjaaPF44
import Derived.Test.YtcphmeeighhdjaaPF45
import Derived.Test.YtcphmeeighhdjaaPF47
import Derived.Test.YtcphmeeighhdjaaPF48
import Derived.Test.YtcphmeeighhdjaaPF49
import Derived.Test.YtcphmeeighhdjaaPF50
namespace Go.Proofs.Ytcphmeeighhdjaa.P
open Go.RowKit Go.Proofs.YtcphmeeighhdjaaW.PrintWords Go.Proofs.YtcphmeeighhdjaaW.PrintLast Go.Proofs.YtcphmeeighhdjaaW.PrintMore
attribute [local go_sem] max2_int min2_int max_two min_two max_three min_three max_four min_four   -- for this text's walks alone
set_option linter.unusedVariables false
set_option linter.unusedSimpArgs false

/-! ### wogglelaw02_TrackBests: function 15 -/
def wogglelaw02_TrackBests.f (k : Nat) (l0 : List (List Int)) : Option (Bool) := (wogglelaw02_rows.f k l0).bind fun t835 => ((track_Best.f k t835).bind fun bt838 => ((track_Tree.f k t835).bind fun bt840 => ((woggleref02_Table.f k t835).bind fun t844 => (if t844 = true then ((woggleref02_Roots.f k (t835.length : Int)).bind fun t846 => ((woggleref02_Shortest.f k (t835.length : Int) t846 ([] : List (S67)) t835).bind fun t849 => (if bt838.1 = t849 then (if bt838.2 = 0 then ((woggleref02_Tree.f k (t835.length : Int) bt840.1).bind fun t850 => (if t850 = true then ((woggleref02_Length.f k (t835.length : Int) bt840.1 t835).bind fun t851 => (if t851 = bt838.1 then (if bt840.2 = 0 then ((wogglelaw02_lives.f k).bind fun t852 => (some t852)) else (some false)) else (some false))) else (some false))) else (some false)) else (some false)))) else (if bt838.1 = 0 then (if (bt840.1.length : Int) = 0 then (if bt838.2 = 2 then (if bt840.2 = 2 then ((wogglelaw02_lives.f k).bind fun t845 => (some t845)) else (some false)) else (some false)) else (some false)) else (some false))))))
theorem wogglelaw02_TrackBests.mono : ∀ a0 k, LeO (wogglelaw02_TrackBests.f k a0) (wogglelaw02_TrackBests.f (k + 1) a0) := by
  intro a0 k
  unfold wogglelaw02_TrackBests.f
  repeat' first
      | (with_reducible exact track_Best.mono _ _)
      | (with_reducible exact track_Tree.mono _ _)
      | (with_reducible exact wogglelaw02_lives.mono _)
      | (with_reducible exact wogglelaw02_rows.mono _ _)
      | (with_reducible exact woggleref02_Length.mono _ _ _ _)
      | (with_reducible exact woggleref02_Roots.mono _ _)
      | (with_reducible exact woggleref02_Shortest.mono _ _ _ _ _)
      | (with_reducible exact woggleref02_Table.mono _ _)
      | (with_reducible exact woggleref02_Tree.mono _ _ _)
      | (with_reducible exact LeO.refl _)
      | (with_reducible exact LeO.none _)
      | (with_reducible refine LeO.ite ?_ ?_)
      | (with_reducible refine LeO.bind ?_ (fun _ => ?_))
      | exact track_Best.mono _ _
      | exact track_Tree.mono _ _
      | exact wogglelaw02_lives.mono _
      | exact wogglelaw02_rows.mono _ _
      | exact woggleref02_Length.mono _ _ _ _
      | exact woggleref02_Roots.mono _ _
      | exact woggleref02_Shortest.mono _ _ _ _ _
      | exact woggleref02_Table.mono _ _
      | exact woggleref02_Tree.mono _ _ _
      | exact LeO.none _
      | refine LeO.ite ?_ ?_
      | refine LeO.bind ?_ (fun _ => ?_)
theorem no_true_ {r : Bool} (h : some false = some r) (hr : r = true) : False := by subst hr; cases h
set_option maxHeartbeats 8000000 in
set_option maxRecDepth 100000 in
theorem wogglelaw02_TrackBests.calls (k : Nat) (A0 : Option Addr) (c0 : Nat) (l0 : List (List Int)) (r : Bool) (w : World) (hr0 : Kd.C (Kd.slice 3 (Kd.int .i64)) w A0 l0.length l0) (hc0 : l0.length ≤ c0) (h : wogglelaw02_TrackBests.f k l0 = some r) (hrr : r = true) :
    Calls Try.prog 15 #[.slice A0 l0.length c0] w fun e w' => e = .returned (.bool r) ∧ Below w.heap.size w w' := by
  have HRR := Aside0.mk hrr
  clear hrr
  have HR0 := Aside0.mk hr0
  have HC0 := Aside0.mk hc0
  clear hr0 hc0
  have HB := Aside0.mk (Below.refl w.heap.size w)
  have H : ((wogglelaw02_rows.f k l0).bind fun t835 => ((track_Best.f k t835).bind fun bt838 => ((track_Tree.f k t835).bind fun bt840 => ((woggleref02_Table.f k t835).bind fun t844 => (if t844 = true then ((woggleref02_Roots.f k (t835.length : Int)).bind fun t846 => ((woggleref02_Shortest.f k (t835.length : Int) t846 ([] : List (S67)) t835).bind fun t849 => (if bt838.1 = t849 then (if bt838.2 = 0 then ((woggleref02_Tree.f k (t835.length : Int) bt840.1).bind fun t850 => (if t850 = true then ((woggleref02_Length.f k (t835.length : Int) bt840.1 t835).bind fun t851 => (if t851 = bt838.1 then (if bt840.2 = 0 then ((wogglelaw02_lives.f k).bind fun t852 => (some t852)) else (some false)) else (some false))) else (some false))) else (some false)) else (some false)))) else (if bt838.1 = 0 then (if (bt840.1.length : Int) = 0 then (if bt838.2 = 2 then (if bt840.2 = 2 then ((wogglelaw02_lives.f k).bind fun t845 => (some t845)) else (some false)) else (some false)) else (some false)) else (some false))))))) = some r := h
  clear h
  replace H := Option.bind_eq_some_iff.mp H
  obtain ⟨t835, A20, H⟩ := H
  replace H : ((track_Best.f k t835).bind fun bt838 => ((track_Tree.f k t835).bind fun bt840 => ((woggleref02_Table.f k t835).bind fun t844 => (if t844 = true then ((woggleref02_Roots.f k (t835.length : Int)).bind fun t846 => ((woggleref02_Shortest.f k (t835.length : Int) t846 ([] : List (S67)) t835).bind fun t849 => (if bt838.1 = t849 then (if bt838.2 = 0 then ((woggleref02_Tree.f k (t835.length : Int) bt840.1).bind fun t850 => (if t850 = true then ((woggleref02_Length.f k (t835.length : Int) bt840.1 t835).bind fun t851 => (if t851 = bt838.1 then (if bt840.2 = 0 then ((wogglelaw02_lives.f k).bind fun t852 => (some t852)) else (some false)) else (some false))) else (some false))) else (some false)) else (some false)))) else (if bt838.1 = 0 then (if (bt840.1.length : Int) = 0 then (if bt838.2 = 2 then (if bt840.2 = 2 then ((wogglelaw02_lives.f k).bind fun t845 => (some t845)) else (some false)) else (some false)) else (some false)) else (some false)))))) = some r := H
  have A2 := Aside0.mk A20
  clear A20
  replace H := Option.bind_eq_some_iff.mp H
  obtain ⟨⟨t838, t839⟩, A30, H⟩ := H
  replace H : ((track_Tree.f k t835).bind fun bt840 => ((woggleref02_Table.f k t835).bind fun t844 => (if t844 = true then ((woggleref02_Roots.f k (t835.length : Int)).bind fun t846 => ((woggleref02_Shortest.f k (t835.length : Int) t846 ([] : List (S67)) t835).bind fun t849 => (if t838 = t849 then (if t839 = 0 then ((woggleref02_Tree.f k (t835.length : Int) bt840.1).bind fun t850 => (if t850 = true then ((woggleref02_Length.f k (t835.length : Int) bt840.1 t835).bind fun t851 => (if t851 = t838 then (if bt840.2 = 0 then ((wogglelaw02_lives.f k).bind fun t852 => (some t852)) else (some false)) else (some false))) else (some false))) else (some false)) else (some false)))) else (if t838 = 0 then (if (bt840.1.length : Int) = 0 then (if t839 = 2 then (if bt840.2 = 2 then ((wogglelaw02_lives.f k).bind fun t845 => (some t845)) else (some false)) else (some false)) else (some false)) else (some false))))) = some r := H
  have A3 := Aside0.mk A30
  clear A30
  replace H := Option.bind_eq_some_iff.mp H
  obtain ⟨⟨t840, t841⟩, A40, H⟩ := H
  replace H : ((woggleref02_Table.f k t835).bind fun t844 => (if t844 = true then ((woggleref02_Roots.f k (t835.length : Int)).bind fun t846 => ((woggleref02_Shortest.f k (t835.length : Int) t846 ([] : List (S67)) t835).bind fun t849 => (if t838 = t849 then (if t839 = 0 then ((woggleref02_Tree.f k (t835.length : Int) t840).bind fun t850 => (if t850 = true then ((woggleref02_Length.f k (t835.length : Int) t840 t835).bind fun t851 => (if t851 = t838 then (if t841 = 0 then ((wogglelaw02_lives.f k).bind fun t852 => (some t852)) else (some false)) else (some false))) else (some false))) else (some false)) else (some false)))) else (if t838 = 0 then (if (t840.length : Int) = 0 then (if t839 = 2 then (if t841 = 2 then ((wogglelaw02_lives.f k).bind fun t845 => (some t845)) else (some false)) else (some false)) else (some false)) else (some false)))) = some r := H
  have A4 := Aside0.mk A40
  clear A40
  replace H := Option.bind_eq_some_iff.mp H
  obtain ⟨t844, A50, H⟩ := H
  replace H : (if t844 = true then ((woggleref02_Roots.f k (t835.length : Int)).bind fun t846 => ((woggleref02_Shortest.f k (t835.length : Int) t846 ([] : List (S67)) t835).bind fun t849 => (if t838 = t849 then (if t839 = 0 then ((woggleref02_Tree.f k (t835.length : Int) t840).bind fun t850 => (if t850 = true then ((woggleref02_Length.f k (t835.length : Int) t840 t835).bind fun t851 => (if t851 = t838 then (if t841 = 0 then ((wogglelaw02_lives.f k).bind fun t852 => (some t852)) else (some false)) else (some false))) else (some false))) else (some false)) else (some false)))) else (if t838 = 0 then (if (t840.length : Int) = 0 then (if t839 = 2 then (if t841 = 2 then ((wogglelaw02_lives.f k).bind fun t845 => (some t845)) else (some false)) else (some false)) else (some false)) else (some false))) = some r := H
  have A5 := Aside0.mk A50
  clear A50
  by_cases c6 : t844 = true
  · subst c6
    have H1 : ((woggleref02_Roots.f k (t835.length : Int)).bind fun t846 => ((woggleref02_Shortest.f k (t835.length : Int) t846 ([] : List (S67)) t835).bind fun t849 => (if t838 = t849 then (if t839 = 0 then ((woggleref02_Tree.f k (t835.length : Int) t840).bind fun t850 => (if t850 = true then ((woggleref02_Length.f k (t835.length : Int) t840 t835).bind fun t851 => (if t851 = t838 then (if t841 = 0 then ((wogglelaw02_lives.f k).bind fun t852 => (some t852)) else (some false)) else (some false))) else (some false))) else (some false)) else (some false)))) = some r := by rw [if_pos rfl] at H; exact H
    clear H
    have H := H1
    clear H1
    replace H := Option.bind_eq_some_iff.mp H
    obtain ⟨t846, A70, H⟩ := H
    replace H : ((woggleref02_Shortest.f k (t835.length : Int) t846 ([] : List (S67)) t835).bind fun t849 => (if t838 = t849 then (if t839 = 0 then ((woggleref02_Tree.f k (t835.length : Int) t840).bind fun t850 => (if t850 = true then ((woggleref02_Length.f k (t835.length : Int) t840 t835).bind fun t851 => (if t851 = t838 then (if t841 = 0 then ((wogglelaw02_lives.f k).bind fun t852 => (some t852)) else (some false)) else (some false))) else (some false))) else (some false)) else (some false))) = some r := H
    have A7 := Aside0.mk A70
    clear A70
    replace H := Option.bind_eq_some_iff.mp H
    obtain ⟨t849, A80, H⟩ := H
    replace H : (if t838 = t849 then (if t839 = 0 then ((woggleref02_Tree.f k (t835.length : Int) t840).bind fun t850 => (if t850 = true then ((woggleref02_Length.f k (t835.length : Int) t840 t835).bind fun t851 => (if t851 = t838 then (if t841 = 0 then ((wogglelaw02_lives.f k).bind fun t852 => (some t852)) else (some false)) else (some false))) else (some false))) else (some false)) else (some false)) = some r := H
    have A8 := Aside0.mk A80
    clear A80
    by_cases c9 : t838 = t849
    · rw [if_pos c9] at H
      have c9b0 : (t838 == t849) = true := beq_iff_eq.mpr c9
      have c9b1 : (t838 != t849) = false := bne_eq_false_iff_eq.mpr c9
      clear c9
      by_cases c10 : t839 = 0
      · rw [if_pos c10] at H
        have c10b0 : (t839 == 0) = true := beq_iff_eq.mpr c10
        have c10b1 : (t839 != 0) = false := bne_eq_false_iff_eq.mpr c10
        clear c10
        replace H := Option.bind_eq_some_iff.mp H
        obtain ⟨t850, A110, H⟩ := H
        replace H : (if t850 = true then ((woggleref02_Length.f k (t835.length : Int) t840 t835).bind fun t851 => (if t851 = t838 then (if t841 = 0 then ((wogglelaw02_lives.f k).bind fun t852 => (some t852)) else (some false)) else (some false))) else (some false)) = some r := H
        have A11 := Aside0.mk A110
        clear A110
        by_cases c12 : t850 = true
        · subst c12
          have H1 : ((woggleref02_Length.f k (t835.length : Int) t840 t835).bind fun t851 => (if t851 = t838 then (if t841 = 0 then ((wogglelaw02_lives.f k).bind fun t852 => (some t852)) else (some false)) else (some false))) = some r := by rw [if_pos rfl] at H; exact H
          clear H
          have H := H1
          clear H1
          replace H := Option.bind_eq_some_iff.mp H
          obtain ⟨t851, A130, H⟩ := H
          replace H : (if t851 = t838 then (if t841 = 0 then ((wogglelaw02_lives.f k).bind fun t852 => (some t852)) else (some false)) else (some false)) = some r := H
          have A13 := Aside0.mk A130
          clear A130
          by_cases c14 : t851 = t838
          · rw [if_pos c14] at H
            have c14b0 : (t851 == t838) = true := beq_iff_eq.mpr c14
            have c14b1 : (t851 != t838) = false := bne_eq_false_iff_eq.mpr c14
            clear c14
            by_cases c15 : t841 = 0
            · rw [if_pos c15] at H
              have c15b0 : (t841 == 0) = true := beq_iff_eq.mpr c15
              have c15b1 : (t841 != 0) = false := bne_eq_false_iff_eq.mpr c15
              clear c15
              replace H := Option.bind_eq_some_iff.mp H
              obtain ⟨t852, A160, H⟩ := H
              replace H : (some t852) = some r := H
              have A16 := Aside0.mk A160
              clear A160
              obtain rfl := Option.some.inj H
              go_enter Try.func15, Try.ntmps15
              go_wp2_with (first | ((with_reducible refine gate_callee (f := 26) rfl ?_); refine goesL_ (some 10) rfl rfl Try.func26 (by kernel_rfl) rfl #[.slice A0 l0.length c0] rfl (by (try simp only [List.map_toArray, List.map_cons, List.map_nil]); first | done | rfl | (simp only [List.length_drop, List.length_take]; rfl)) ?_; (with_reducible refine (wogglelaw02_rows.calls k _ _ l0 t835 _ ?side1 ?side2 A2.out).mono ?_); (case side1 => repeat (first | exact HR0.out | (with_reducible refine Kd.C_alloc ?_ _) | (with_reducible refine Kd.C_drewN ?_ _) | (with_reducible refine Kd.C_drew ?_))); (case side2 => exact HC0.out); rintro e w17 ⟨v836, rfl, ho0, hb⟩; refine ⟨_, rfl, ?_⟩; have n0_ := Aside0.mk (Kd.S_lower ho0 (below_size (by repeat (first | (with_reducible first | exact HB.out | apply below_alloc | apply pw_below_drewN | apply below_drew1) | exact HB.out)))); have n1_ := Aside0.mk (below_step (by repeat (first | (with_reducible first | exact HB.out | apply below_alloc | apply pw_below_drewN | apply below_drew1) | exact HB.out)) hb); clear HB; have HO837 := n0_; have HB := n1_; clear n0_ n1_; (try clear hb); (try clear hb2); (try clear hk); (try clear hi); (try clear ho0); obtain ⟨Ao18, co18, eo18⟩ := Kd.S_slice HO837.out; subst eo18) | ((with_reducible refine gate_callee (f := 47) rfl ?_); refine goesL_ (some 13) rfl rfl Try.func47 (by kernel_rfl) rfl #[.slice Ao18 t835.length co18] rfl (by (try simp only [List.map_toArray, List.map_cons, List.map_nil]); first | done | rfl | (simp only [List.length_drop, List.length_take]; rfl)) ?_; (with_reducible refine (track_Best.calls k _ _ t835 t838 t839 _ ?side1 ?side2 A3.out).mono ?_); (case side1 => repeat (first | exact (Kd.S_reads' HO837.out).2.2 | (with_reducible refine Kd.C_alloc ?_ _) | (with_reducible refine Kd.C_drewN ?_ _) | (with_reducible refine Kd.C_drew ?_))); (case side2 => exact (Kd.S_reads' HO837.out).2.1); rintro e w19 ⟨rfl, hb⟩; refine ⟨_, rfl, ?_⟩; have n0_ := Aside0.mk (Kd.S_below (by (with_reducible repeat (first | apply Kd.S_alloc | apply Kd.S_drewN | apply Kd.S_drew)); exact HO837.out) hb); have n1_ := Aside0.mk (below_step (by repeat (first | (with_reducible first | exact HB.out | apply below_alloc | apply pw_below_drewN | apply below_drew1) | exact HB.out)) hb); clear HO837; clear HB; have HO837 := n0_; have HB := n1_; clear n0_ n1_; (try clear hb); (try clear hb2); (try clear hk); (try clear hi)) | ((with_reducible refine gate_callee (f := 48) rfl ?_); refine goesL_ (some 18) rfl rfl Try.func48 (by kernel_rfl) rfl #[.slice Ao18 t835.length co18] rfl (by (try simp only [List.map_toArray, List.map_cons, List.map_nil]); first | done | rfl | (simp only [List.length_drop, List.length_take]; rfl)) ?_; (with_reducible refine (track_Tree.calls k _ _ t835 t840 t841 _ ?side1 ?side2 A4.out).mono ?_); (case side1 => repeat (first | exact (Kd.S_reads' HO837.out).2.2 | (with_reducible refine Kd.C_alloc ?_ _) | (with_reducible refine Kd.C_drewN ?_ _) | (with_reducible refine Kd.C_drew ?_))); (case side2 => exact (Kd.S_reads' HO837.out).2.1); rintro e w20 ⟨v842, rfl, ho0, hb⟩; refine ⟨_, rfl, ?_⟩; have n0_ := Aside0.mk (Kd.S_below (by (with_reducible repeat (first | apply Kd.S_alloc | apply Kd.S_drewN | apply Kd.S_drew)); exact HO837.out) hb); have n1_ := Aside0.mk (Kd.R_lower ho0 (below_size (by repeat (first | (with_reducible first | exact HB.out | apply below_alloc | apply pw_below_drewN | apply below_drew1) | exact HB.out)))); have n2_ := Aside0.mk (below_step (by repeat (first | (with_reducible first | exact HB.out | apply below_alloc | apply pw_below_drewN | apply below_drew1) | exact HB.out)) hb); clear HO837; clear HB; have HO837 := n0_; have HO843 := n1_; have HB := n2_; clear n0_ n1_ n2_; (try clear hb); (try clear hb2); (try clear hk); (try clear hi); (try clear ho0)) | ((with_reducible refine gate_callee (f := 44) rfl ?_); refine goesL_ (some 22) rfl rfl Try.func44 (by kernel_rfl) rfl #[.slice Ao18 t835.length co18] rfl (by (try simp only [List.map_toArray, List.map_cons, List.map_nil]); first | done | rfl | (simp only [List.length_drop, List.length_take]; rfl)) ?_; (with_reducible refine (woggleref02_Table.calls k _ _ t835 true _ ?side1 ?side2 A5.out).mono ?_); (case side1 => repeat (first | exact (Kd.S_reads' HO837.out).2.2 | (with_reducible refine Kd.C_alloc ?_ _) | (with_reducible refine Kd.C_drewN ?_ _) | (with_reducible refine Kd.C_drew ?_))); (case side2 => exact (Kd.S_reads' HO837.out).2.1); rintro e w' ⟨rfl, ⟨nd, rfl⟩⟩; refine ⟨_, rfl, ?_⟩) | ((with_reducible refine gate_callee (f := 50) rfl ?_); refine goesL_ (some 47) rfl rfl Try.func50 (by kernel_rfl) rfl #[.int .i64 (t835.length : Int)] rfl (by (try simp only [List.map_toArray, List.map_cons, List.map_nil]); first | done | rfl | (simp only [List.length_drop, List.length_take]; rfl)) ?_; (with_reducible refine (woggleref02_Roots.calls k (t835.length : Int) t846 _ A7.out).mono ?_); rintro e w21 ⟨v847, rfl, ho0, hb⟩; refine ⟨_, rfl, ?_⟩; have n0_ := Aside0.mk (Kd.S_elder' (by (with_reducible repeat (first | apply Kd.S_alloc | apply Kd.S_drewN | apply Kd.S_drew)); exact HO837.out) (Kd.R_base ho0) hb); have n1_ := Aside0.mk (Kd.R_below (by (with_reducible repeat (first | apply Kd.R_alloc | apply Kd.R_drewN | apply Kd.R_drew)); exact HO843.out) hb); have n2_ := Aside0.mk (Kd.R_lower ho0 (below_size (by repeat (first | (with_reducible first | exact HB.out | apply below_alloc | apply pw_below_drewN | apply below_drew1) | exact HB.out)))); have n3_ := Aside0.mk (below_step (by repeat (first | (with_reducible first | exact HB.out | apply below_alloc | apply pw_below_drewN | apply below_drew1) | exact HB.out)) hb); clear HO837; clear HO843; clear HB; have HO837 := n0_; have HO843 := n1_; have HO848 := n2_; have HB := n3_; clear n0_ n1_ n2_ n3_; (try clear hb); (try clear hb2); (try clear hk); (try clear hi); (try clear ho0); obtain ⟨Ao22, co22, eo22⟩ := Kd.R_slice HO848.out; subst eo22) | ((with_reducible refine gate_callee (f := 49) rfl ?_); refine goesL_ (some 49) rfl rfl Try.func49 (by kernel_rfl) rfl #[.int .i64 (t835.length : Int), .slice Ao22 t846.length co22, .slice none 0 0, .slice Ao18 t835.length co18] rfl (by (try simp only [List.map_toArray, List.map_cons, List.map_nil]); first | done | rfl | (simp only [List.length_drop, List.length_take]; rfl)) ?_; (refine (woggleref02_Shortest.calls k (t835.length : Int) _ _ t846 _ _ ([] : List (S67)) _ _ t835 t849 _ ?side1 ?side2 ?side3 ?side4 ?side5 ?side6 A8.out).mono ?_); (case side1 => repeat (first | exact (Kd.R_reads' HO848.out).2.2 | (with_reducible refine Kd.C_alloc ?_ _) | (with_reducible refine Kd.C_drewN ?_ _) | (with_reducible refine Kd.C_drew ?_))); (case side2 => exact (Kd.R_reads' HO848.out).2.1); (case side3 => exact Kd.C_nil _ _); (case side4 => exact Nat.le_refl _); (case side5 => repeat (first | exact (Kd.S_reads' HO837.out).2.2 | (with_reducible refine Kd.C_alloc ?_ _) | (with_reducible refine Kd.C_drewN ?_ _) | (with_reducible refine Kd.C_drew ?_))); (case side6 => exact (Kd.S_reads' HO837.out).2.1); rintro e w23 ⟨rfl, hb⟩; refine ⟨_, rfl, ?_⟩; have n0_ := Aside0.mk (Kd.S_below (by (with_reducible repeat (first | apply Kd.S_alloc | apply Kd.S_drewN | apply Kd.S_drew)); exact HO837.out) hb); have n1_ := Aside0.mk (Kd.R_below (by (with_reducible repeat (first | apply Kd.R_alloc | apply Kd.R_drewN | apply Kd.R_drew)); exact HO843.out) hb); have n2_ := Aside0.mk (Kd.R_below (by (with_reducible repeat (first | apply Kd.R_alloc | apply Kd.R_drewN | apply Kd.R_drew)); exact HO848.out) hb); have n3_ := Aside0.mk (below_step (by repeat (first | (with_reducible first | exact HB.out | apply below_alloc | apply pw_below_drewN | apply below_drew1) | exact HB.out)) hb); clear HO837; clear HO843; clear HO848; clear HB; have HO837 := n0_; have HO843 := n1_; have HO848 := n2_; have HB := n3_; clear n0_ n1_ n2_ n3_; (try clear hb); (try clear hb2); (try clear hk); (try clear hi); obtain ⟨Ao24, co24, eo24⟩ := Kd.R_slice HO843.out; subst eo24) | (go_at_call 20; (with_reducible refine (woggleref02_Tree.calls k (t835.length : Int) _ _ t840 true _ ?side1 ?side2 A11.out).mono ?_); (case side1 => repeat (first | exact (Kd.R_reads' HO843.out).2.2 | (with_reducible refine Kd.C_alloc ?_ _) | (with_reducible refine Kd.C_drewN ?_ _) | (with_reducible refine Kd.C_drew ?_))); (case side2 => exact (Kd.R_reads' HO843.out).2.1); rintro e w25 ⟨rfl, hb⟩; have n0_ := Aside0.mk (Kd.S_below (by (with_reducible repeat (first | apply Kd.S_alloc | apply Kd.S_drewN | apply Kd.S_drew)); exact HO837.out) hb); have n1_ := Aside0.mk (Kd.R_below (by (with_reducible repeat (first | apply Kd.R_alloc | apply Kd.R_drewN | apply Kd.R_drew)); exact HO843.out) hb); have n2_ := Aside0.mk (Kd.R_below (by (with_reducible repeat (first | apply Kd.R_alloc | apply Kd.R_drewN | apply Kd.R_drew)); exact HO848.out) hb); have n3_ := Aside0.mk (below_step (by repeat (first | (with_reducible first | exact HB.out | apply below_alloc | apply pw_below_drewN | apply below_drew1) | exact HB.out)) hb); clear HO837; clear HO843; clear HO848; clear HB; have HO837 := n0_; have HO843 := n1_; have HO848 := n2_; have HB := n3_; clear n0_ n1_ n2_ n3_; (try clear hb); (try clear hb2); (try clear hk); (try clear hi)) | (go_at_call 45; (with_reducible refine (woggleref02_Length.calls k (t835.length : Int) _ _ t840 _ _ t835 t851 _ ?side1 ?side2 ?side3 ?side4 A13.out).mono ?_); (case side1 => repeat (first | exact (Kd.R_reads' HO843.out).2.2 | (with_reducible refine Kd.C_alloc ?_ _) | (with_reducible refine Kd.C_drewN ?_ _) | (with_reducible refine Kd.C_drew ?_))); (case side2 => exact (Kd.R_reads' HO843.out).2.1); (case side3 => repeat (first | exact (Kd.S_reads' HO837.out).2.2 | (with_reducible refine Kd.C_alloc ?_ _) | (with_reducible refine Kd.C_drewN ?_ _) | (with_reducible refine Kd.C_drew ?_))); (case side4 => exact (Kd.S_reads' HO837.out).2.1); rintro e w26 ⟨rfl, hb⟩; have n0_ := Aside0.mk (Kd.S_below (by (with_reducible repeat (first | apply Kd.S_alloc | apply Kd.S_drewN | apply Kd.S_drew)); exact HO837.out) hb); have n1_ := Aside0.mk (Kd.R_below (by (with_reducible repeat (first | apply Kd.R_alloc | apply Kd.R_drewN | apply Kd.R_drew)); exact HO843.out) hb); have n2_ := Aside0.mk (Kd.R_below (by (with_reducible repeat (first | apply Kd.R_alloc | apply Kd.R_drewN | apply Kd.R_drew)); exact HO848.out) hb); have n3_ := Aside0.mk (below_step (by repeat (first | (with_reducible first | exact HB.out | apply below_alloc | apply pw_below_drewN | apply below_drew1) | exact HB.out)) hb); clear HO837; clear HO843; clear HO848; clear HB; have HO837 := n0_; have HO843 := n1_; have HO848 := n2_; have HB := n3_; clear n0_ n1_ n2_ n3_; (try clear hb); (try clear hb2); (try clear hk); (try clear hi)) | (go_at_call 22; (with_reducible refine (wogglelaw02_lives.calls k  t852 _ A16.out).mono ?_); rintro e w27 ⟨rfl, hb⟩; have n0_ := Aside0.mk (Kd.S_below (by (with_reducible repeat (first | apply Kd.S_alloc | apply Kd.S_drewN | apply Kd.S_drew)); exact HO837.out) hb); have n1_ := Aside0.mk (Kd.R_below (by (with_reducible repeat (first | apply Kd.R_alloc | apply Kd.R_drewN | apply Kd.R_drew)); exact HO843.out) hb); have n2_ := Aside0.mk (Kd.R_below (by (with_reducible repeat (first | apply Kd.R_alloc | apply Kd.R_drewN | apply Kd.R_drew)); exact HO848.out) hb); have n3_ := Aside0.mk (below_step (by repeat (first | (with_reducible first | exact HB.out | apply below_alloc | apply pw_below_drewN | apply below_drew1) | exact HB.out)) hb); clear HO837; clear HO843; clear HO848; clear HB; have HO837 := n0_; have HO843 := n1_; have HO848 := n2_; have HB := n3_; clear n0_ n1_ n2_ n3_; (try clear hb); (try clear hb2); (try clear hk); (try clear hi)))
              go_ret
              exact ⟨by first | rfl | (simp [errW_none, errW_some] <;> rfl) | (simp [*, errW_none, errW_some] <;> rfl), by repeat (first | (with_reducible first | exact HB.out | apply below_alloc | apply pw_below_drewN | apply below_drew1) | exact HB.out)⟩
            · rw [if_neg c15] at H
              exact (no_true_ H HRR.out).elim
          · rw [if_neg c14] at H
            exact (no_true_ H HRR.out).elim
        · replace c12 := Bool.eq_false_iff.mpr c12
          subst c12
          have H1 : (some false) = some r := by rw [if_neg (show ¬ (false = true) by decide)] at H; exact H
          clear H
          have H := H1
          clear H1
          exact (no_true_ H HRR.out).elim
      · rw [if_neg c10] at H
        exact (no_true_ H HRR.out).elim
    · rw [if_neg c9] at H
      exact (no_true_ H HRR.out).elim
  · replace c6 := Bool.eq_false_iff.mpr c6
    subst c6
    have H1 : (if t838 = 0 then (if (t840.length : Int) = 0 then (if t839 = 2 then (if t841 = 2 then ((wogglelaw02_lives.f k).bind fun t845 => (some t845)) else (some false)) else (some false)) else (some false)) else (some false)) = some r := by rw [if_neg (show ¬ (false = true) by decide)] at H; exact H
    clear H
    have H := H1
    clear H1
    by_cases c71 : t838 = 0
    · rw [if_pos c71] at H
      have c71b0 : (t838 == 0) = true := beq_iff_eq.mpr c71
      have c71b1 : (t838 != 0) = false := bne_eq_false_iff_eq.mpr c71
      clear c71
      by_cases c72 : (t840.length : Int) = 0
      · rw [if_pos c72] at H
        have c72b0 : ((t840.length : Int) == 0) = true := beq_iff_eq.mpr c72
        have c72b1 : ((t840.length : Int) != 0) = false := bne_eq_false_iff_eq.mpr c72
        clear c72
        by_cases c73 : t839 = 2
        · rw [if_pos c73] at H
          have c73b0 : (t839 == 2) = true := beq_iff_eq.mpr c73
          have c73b1 : (t839 != 2) = false := bne_eq_false_iff_eq.mpr c73
          clear c73
          by_cases c74 : t841 = 2
          · rw [if_pos c74] at H
            have c74b0 : (t841 == 2) = true := beq_iff_eq.mpr c74
            have c74b1 : (t841 != 2) = false := bne_eq_false_iff_eq.mpr c74
            clear c74
            replace H := Option.bind_eq_some_iff.mp H
            obtain ⟨t845, A750, H⟩ := H
            replace H : (some t845) = some r := H
            have A75 := Aside0.mk A750
            clear A750
            obtain rfl := Option.some.inj H
            go_enter Try.func15, Try.ntmps15
            go_wp2_with (first | ((with_reducible refine gate_callee (f := 26) rfl ?_); refine goesL_ (some 10) rfl rfl Try.func26 (by kernel_rfl) rfl #[.slice A0 l0.length c0] rfl (by (try simp only [List.map_toArray, List.map_cons, List.map_nil]); first | done | rfl | (simp only [List.length_drop, List.length_take]; rfl)) ?_; (with_reducible refine (wogglelaw02_rows.calls k _ _ l0 t835 _ ?side1 ?side2 A2.out).mono ?_); (case side1 => repeat (first | exact HR0.out | (with_reducible refine Kd.C_alloc ?_ _) | (with_reducible refine Kd.C_drewN ?_ _) | (with_reducible refine Kd.C_drew ?_))); (case side2 => exact HC0.out); rintro e w76 ⟨v836, rfl, ho0, hb⟩; refine ⟨_, rfl, ?_⟩; have n0_ := Aside0.mk (Kd.S_lower ho0 (below_size (by repeat (first | (with_reducible first | exact HB.out | apply below_alloc | apply pw_below_drewN | apply below_drew1) | exact HB.out)))); have n1_ := Aside0.mk (below_step (by repeat (first | (with_reducible first | exact HB.out | apply below_alloc | apply pw_below_drewN | apply below_drew1) | exact HB.out)) hb); clear HB; have HO837 := n0_; have HB := n1_; clear n0_ n1_; (try clear hb); (try clear hb2); (try clear hk); (try clear hi); (try clear ho0); obtain ⟨Ao77, co77, eo77⟩ := Kd.S_slice HO837.out; subst eo77) | ((with_reducible refine gate_callee (f := 47) rfl ?_); refine goesL_ (some 13) rfl rfl Try.func47 (by kernel_rfl) rfl #[.slice Ao77 t835.length co77] rfl (by (try simp only [List.map_toArray, List.map_cons, List.map_nil]); first | done | rfl | (simp only [List.length_drop, List.length_take]; rfl)) ?_; (with_reducible refine (track_Best.calls k _ _ t835 t838 t839 _ ?side1 ?side2 A3.out).mono ?_); (case side1 => repeat (first | exact (Kd.S_reads' HO837.out).2.2 | (with_reducible refine Kd.C_alloc ?_ _) | (with_reducible refine Kd.C_drewN ?_ _) | (with_reducible refine Kd.C_drew ?_))); (case side2 => exact (Kd.S_reads' HO837.out).2.1); rintro e w78 ⟨rfl, hb⟩; refine ⟨_, rfl, ?_⟩; have n0_ := Aside0.mk (Kd.S_below (by (with_reducible repeat (first | apply Kd.S_alloc | apply Kd.S_drewN | apply Kd.S_drew)); exact HO837.out) hb); have n1_ := Aside0.mk (below_step (by repeat (first | (with_reducible first | exact HB.out | apply below_alloc | apply pw_below_drewN | apply below_drew1) | exact HB.out)) hb); clear HO837; clear HB; have HO837 := n0_; have HB := n1_; clear n0_ n1_; (try clear hb); (try clear hb2); (try clear hk); (try clear hi)) | ((with_reducible refine gate_callee (f := 48) rfl ?_); refine goesL_ (some 18) rfl rfl Try.func48 (by kernel_rfl) rfl #[.slice Ao77 t835.length co77] rfl (by (try simp only [List.map_toArray, List.map_cons, List.map_nil]); first | done | rfl | (simp only [List.length_drop, List.length_take]; rfl)) ?_; (with_reducible refine (track_Tree.calls k _ _ t835 t840 t841 _ ?side1 ?side2 A4.out).mono ?_); (case side1 => repeat (first | exact (Kd.S_reads' HO837.out).2.2 | (with_reducible refine Kd.C_alloc ?_ _) | (with_reducible refine Kd.C_drewN ?_ _) | (with_reducible refine Kd.C_drew ?_))); (case side2 => exact (Kd.S_reads' HO837.out).2.1); rintro e w79 ⟨v842, rfl, ho0, hb⟩; refine ⟨_, rfl, ?_⟩; have n0_ := Aside0.mk (Kd.S_below (by (with_reducible repeat (first | apply Kd.S_alloc | apply Kd.S_drewN | apply Kd.S_drew)); exact HO837.out) hb); have n1_ := Aside0.mk (Kd.R_lower ho0 (below_size (by repeat (first | (with_reducible first | exact HB.out | apply below_alloc | apply pw_below_drewN | apply below_drew1) | exact HB.out)))); have n2_ := Aside0.mk (below_step (by repeat (first | (with_reducible first | exact HB.out | apply below_alloc | apply pw_below_drewN | apply below_drew1) | exact HB.out)) hb); clear HO837; clear HB; have HO837 := n0_; have HO843 := n1_; have HB := n2_; clear n0_ n1_ n2_; (try clear hb); (try clear hb2); (try clear hk); (try clear hi); (try clear ho0)) | ((with_reducible refine gate_callee (f := 44) rfl ?_); refine goesL_ (some 22) rfl rfl Try.func44 (by kernel_rfl) rfl #[.slice Ao77 t835.length co77] rfl (by (try simp only [List.map_toArray, List.map_cons, List.map_nil]); first | done | rfl | (simp only [List.length_drop, List.length_take]; rfl)) ?_; (with_reducible refine (woggleref02_Table.calls k _ _ t835 false _ ?side1 ?side2 A5.out).mono ?_); (case side1 => repeat (first | exact (Kd.S_reads' HO837.out).2.2 | (with_reducible refine Kd.C_alloc ?_ _) | (with_reducible refine Kd.C_drewN ?_ _) | (with_reducible refine Kd.C_drew ?_))); (case side2 => exact (Kd.S_reads' HO837.out).2.1); rintro e w' ⟨rfl, ⟨nd, rfl⟩⟩; refine ⟨_, rfl, ?_⟩; obtain ⟨Ao80, co80, eo80⟩ := Kd.R_slice HO843.out; subst eo80) | (go_at_call 22; (with_reducible refine (wogglelaw02_lives.calls k  t845 _ A75.out).mono ?_); rintro e w81 ⟨rfl, hb⟩; have n0_ := Aside0.mk (Kd.S_below (by (with_reducible repeat (first | apply Kd.S_alloc | apply Kd.S_drewN | apply Kd.S_drew)); exact HO837.out) hb); have n1_ := Aside0.mk (Kd.R_below (by (with_reducible repeat (first | apply Kd.R_alloc | apply Kd.R_drewN | apply Kd.R_drew)); exact HO843.out) hb); have n2_ := Aside0.mk (below_step (by repeat (first | (with_reducible first | exact HB.out | apply below_alloc | apply pw_below_drewN | apply below_drew1) | exact HB.out)) hb); clear HO837; clear HO843; clear HB; have HO837 := n0_; have HO843 := n1_; have HB := n2_; clear n0_ n1_ n2_; (try clear hb); (try clear hb2); (try clear hk); (try clear hi)))
            go_ret
            exact ⟨by first | rfl | (simp [errW_none, errW_some] <;> rfl) | (simp [*, errW_none, errW_some] <;> rfl), by repeat (first | (with_reducible first | exact HB.out | apply below_alloc | apply pw_below_drewN | apply below_drew1) | exact HB.out)⟩
          · rw [if_neg c74] at H
            exact (no_true_ H HRR.out).elim
        · rw [if_neg c73] at H
          exact (no_true_ H HRR.out).elim
      · rw [if_neg c72] at H
        exact (no_true_ H HRR.out).elim
    · rw [if_neg c71] at H
      exact (no_true_ H HRR.out).elim
/-- THE ONE PURE STATEMENT of wogglelaw02_TrackBests: yours. -/
def wogglelaw02_TrackBests.Pure : Prop := ∀ (l0 : List (List Int)), (l0.length ≤ maxLen ∧ ∀ x0_ ∈ l0, (x0_.length ≤ maxLen ∧ ∀ x1_ ∈ x0_, (Lit.int .i64 x1_).wf = true)) → ∃ k, wogglelaw02_TrackBests.f k l0 = some true

end Go.Proofs.Ytcphmeeighhdjaa.P
