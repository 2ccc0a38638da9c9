-- written by a program of this session
import Derived.Test.YtcphmeeighhdjaaPF8d
import Derived.StillTailTactics
namespace Go.Proofs.Ytcphmeeighhdjaa.P
open Go.RowKit Go.Proofs.YtcphmeeighhdjaaW.PrintWords Go.Proofs.YtcphmeeighhdjaaW.PrintLast Go.Proofs.YtcphmeeighhdjaaW.PrintMore
attribute [local go_sem] max2_int min2_int max_two min_two max_three min_three max_four min_four   -- for this text's walks alone
set_option linter.unusedVariables false
set_option linter.unusedSimpArgs false

theorem name_calls (v inner : Int) (g : Nat) (w : World) (hc : w.cell? ⟨g, 0, none⟩ = some (.int .i64 inner)) (h0 : -1000 ≤ v) (h1 : v ≤ 1000) :
    Calls Try.prog 40 #[.int .i64 v, .pointer (some ⟨g, 0, none⟩)] w fun e w' => e = .returned (.int .i64 (name8 inner v)) ∧ w' = w := by
  unfold name8
  by_cases h : v > inner
  · have hb : decide (inner < v) = true := decide_eq_true h
    have hw : IntKind.i64.wrap (v - 1) = v - 1 := by rw [IntKind.wrap_i64]; omega
    rw [if_pos h]
    go_enter Try.func40, Try.ntmps40
    go_wp2
    go_ret
    exact ⟨by first | rfl | rw [hw], rfl⟩
  · have hb : decide (inner < v) = false := decide_eq_false h
    rw [if_neg h]
    go_enter Try.func40, Try.ntmps40
    go_wp2
    go_ret
    exact ⟨rfl, rfl⟩
theorem pair_reads (W : World) (a b c d : Int) : ReadsRow (fun (x : S67) cs => cs = [.int .i64 x.f0, .int .i64 x.f1]) 2 (W.alloc (.cells #[.int .i64 a, .int .i64 b, .int .i64 c, .int .i64 d] 67)) (some ⟨W.heap.size, 0, none⟩) 2 [(⟨a, b⟩ : S67), ⟨c, d⟩] := by
  have hb := blk_new W (.cells #[.int .i64 a, .int .i64 b, .int .i64 c, .int .i64 d] 67)
  refine ⟨rfl, by decide, fun _ => ⟨_, rfl, fun j p hj => ?_⟩⟩
  match j, hj with
  | 0, hj =>
    obtain rfl := Option.some.inj hj
    refine ⟨_, rfl, rfl, fun i u hu => ?_⟩
    match i, hu with
    | 0, hu => exact (blk_cell hb 0).trans hu
    | 1, hu => exact (blk_cell hb 1).trans hu
    | i + 2, hu => simp at hu
  | 1, hj =>
    obtain rfl := Option.some.inj hj
    refine ⟨_, rfl, rfl, fun i u hu => ?_⟩
    match i, hu with
    | 0, hu => exact (blk_cell hb 2).trans hu
    | 1, hu => exact (blk_cell hb 3).trans hu
    | i + 2, hu => simp at hu
  | j + 2, hj => simp at hj
def wogglelaw02_TrackRoot.T3 : Bool × List (List Nat × List Nat) := (true, [([], []), ([], []), ([1], [1]), ([0, 2], [0, 2]), ([], []), ([], []), ([], []), ([6], [6]), ([4, 5, 7, 3], [4, 5, 7]), ([3, 8, 0, 1, 2, 3], [3]), ([8, 9, 0, 1, 2, 3, 4, 5, 6, 7, 8, 9], [8])])
def wogglelaw02_TrackRoot.B3 : List Nat := [0, 0, 2, 7, 0, 0, 0, 64, 255, 511, 1023]
theorem wogglelaw02_TrackRoot.tab3 : rtab .any (opsOf Try.f8 3) = wogglelaw02_TrackRoot.T3 := by kernel_rfl
theorem wogglelaw02_TrackRoot.bits3 : waitsOk wogglelaw02_TrackRoot.T3.2 wogglelaw02_TrackRoot.B3 = true := by kernel_rfl
set_option maxHeartbeats 8000000 in
set_option maxRecDepth 100000 in
theorem wogglelaw02_TrackRoot.calls (k : Nat) (a0_0 : Int) (a0_1 : Int) (A0_2 : Option Addr) (c0_2 : Nat) (l0_2 : List Int) (A0_3 : Option Addr) (c0_3 : Nat) (l0_3 : List Int) (A0_4 : Option Addr) (c0_4 : Nat) (l0_4 : List Int) (r : Bool) (w : World) (hr0_2 : Kd.C (Kd.int .u8) w A0_2 l0_2.length l0_2) (hc0_2 : l0_2.length ≤ c0_2) (hr0_3 : Kd.C (Kd.int .u8) w A0_3 l0_3.length l0_3) (hc0_3 : l0_3.length ≤ c0_3) (hr0_4 : Kd.C (Kd.int .u8) w A0_4 l0_4.length l0_4) (hc0_4 : l0_4.length ≤ c0_4) (h : wogglelaw02_TrackRoot.f k a0_0 a0_1 l0_2 l0_3 l0_4 = some r) (hrr : r = true) :
    Calls Try.prog 8 #[.agg #[.int .u8 a0_0, .int .u8 a0_1, .slice A0_2 l0_2.length c0_2, .slice A0_3 l0_3.length c0_3, .slice A0_4 l0_4.length c0_4]] w fun e w' => e = .returned (.bool r) ∧ Below w.heap.size w w' := by
  have HRR := Aside0.mk hrr
  clear hrr
  have hu56 := Try.underlying56
  have HR0_2 := Aside0.mk hr0_2
  have HC0_2 := Aside0.mk hc0_2
  clear hr0_2 hc0_2
  have HR0_3 := Aside0.mk hr0_3
  have HC0_3 := Aside0.mk hc0_3
  clear hr0_3 hc0_3
  have HR0_4 := Aside0.mk hr0_4
  have HC0_4 := Aside0.mk hc0_4
  clear hr0_4 hc0_4
  have HB := Aside0.mk (Below.refl w.heap.size w)
  have H : ((wogglelaw02_made.f k a0_0 l0_2).bind fun bt296 => ((wogglelaw02_costs.f k (wrap64 ((Int.tmod (wrap64 (a0_1)) 4) + 1)) l0_3 true).bind fun t300 => ((wogglelaw02_states.f k bt296.1 (wrap64 ((Int.tmod (wrap64 (a0_1)) 4) + 1)) l0_4).bind fun t303 => (mid8 k bt296.1 bt296.2 t300 t303)))) = some r := h
  clear h
  replace H := Option.bind_eq_some_iff.mp H
  obtain ⟨⟨t296, t297⟩, A20, H⟩ := H
  (try dsimp only at H)
  have A2 := Aside0.mk A20
  clear A20
  replace H := Option.bind_eq_some_iff.mp H
  obtain ⟨t300, A30, H⟩ := H
  (try dsimp only at H)
  have A3 := Aside0.mk A30
  clear A30
  replace H := Option.bind_eq_some_iff.mp H
  obtain ⟨t303, A40, H⟩ := H
  (try dsimp only at H)
  have A4 := Aside0.mk A40
  clear A40
  have HTL := Aside0.mk (show mid8 k t296 t297 t300 t303 = some r from H)
  clear H
  go_enter Try.func8, Try.ntmps8
  try go_wp2_with (first | ((with_reducible refine gate_dst (N := 1) rfl ?_); refine box_event ?hg (N := 1) ?hd (cs := #[.int .u8 a0_0, .int .u8 a0_1, .slice A0_2 l0_2.length c0_2, .slice A0_3 l0_3.length c0_3, .slice A0_4 l0_4.length c0_4]) (t := 56) ?hr ?_; (case hd => rfl); (case hg => rfl); (case hr => first | (go_simp; done) | (go_simp; rfl)); intro gb295 hg w5 hbox hb; have n0_ := Aside0.mk (below_step (by repeat (first | (with_reducible first | exact HB.out | apply below_alloc | apply pw_below_drewN | apply below_drew1) | exact HB.out)) hb); have n1_ := Aside0.mk (hbox); have n2_ := Aside0.mk ((by rw [hg]; exact (below_size (by repeat (first | (with_reducible first | exact HB.out | apply below_alloc | apply pw_below_drewN | apply below_drew1) | exact HB.out))) : w.heap.size ≤ gb295)); have n3_ := Aside0.mk ((by rw [hg]; exact (below_size (by repeat (first | (with_reducible first | exact HB.out | apply below_alloc | apply pw_below_drewN | apply below_drew1) | exact HB.out))) : w.heap.size ≤ gb295)); clear HB; have HB := n0_; have BK295 := n1_; have GW295 := n2_; have GE295 := n3_; clear n0_ n1_ n2_ n3_; clear hb hbox hg; have hcz6_0 : w5.cell? ⟨gb295, 0, none⟩ = some (.int .u8 a0_0) := (blk_cell BK295.out 0).trans rfl; have hcz6_1 : w5.cell? ⟨gb295, 1, none⟩ = some (.int .u8 a0_1) := (blk_cell BK295.out 1).trans rfl; have hcz6_2 : w5.cell? ⟨gb295, 2, none⟩ = some (.slice A0_2 l0_2.length c0_2) := (blk_cell BK295.out 2).trans rfl; have hcz6_3 : w5.cell? ⟨gb295, 3, none⟩ = some (.slice A0_3 l0_3.length c0_3) := (blk_cell BK295.out 3).trans rfl; have hcz6_4 : w5.cell? ⟨gb295, 4, none⟩ = some (.slice A0_4 l0_4.length c0_4) := (blk_cell BK295.out 4).trans rfl; have hfz6_0 := blk_frozen BK295.out 0; have hfz6_1 := blk_frozen BK295.out 1; have hfz6_2 := blk_frozen BK295.out 2; have hfz6_3 := blk_frozen BK295.out 3; have hfz6_4 := blk_frozen BK295.out 4) | ((with_reducible refine gate_callee (f := 35) rfl ?_); refine goesL_ (some 25) rfl rfl Try.func35 (by kernel_rfl) rfl #[.int .u8 a0_0, .slice A0_2 l0_2.length c0_2] rfl (by (try simp only [List.map_toArray, List.map_cons, List.map_nil]); first | done | rfl | (simp only [List.length_drop, List.length_take]; rfl)) ?_; (with_reducible refine (wogglelaw02_made.calls k a0_0 _ _ l0_2 t296 t297 _ ?side1 ?side2 A2.out).mono ?_); (case side1 => repeat (first | exact (Kd.C_below HR0_2.out HB.out) | (with_reducible refine Kd.C_alloc ?_ _) | (with_reducible refine Kd.C_drewN ?_ _) | (with_reducible refine Kd.C_drew ?_))); (case side2 => exact HC0_2.out); rintro e w7 ⟨v298, rfl, ho0, hb⟩; refine ⟨_, rfl, ?_⟩; have n0_ := Aside0.mk (Kd.R_lower ho0 (below_size (by repeat (first | (with_reducible first | exact HB.out | apply below_alloc | apply pw_below_drewN | apply below_drew1 | refine below_set ?_ GE295.out) | exact HB.out)))); have n1_ := Aside0.mk (blk_below (g := gb295) (o := .cells #[.int .u8 a0_0, .int .u8 a0_1, .slice A0_2 l0_2.length c0_2, .slice A0_3 l0_3.length c0_3, .slice A0_4 l0_4.length c0_4] 56 (0, 0)) (by (with_reducible repeat (first | refine blk_drewN ?_ _ | refine blk_drew ?_ | refine blk_alloc ?_ _)); exact BK295.out) hb); have n2_ := Aside0.mk (below_step (by repeat (first | (with_reducible first | exact HB.out | apply below_alloc | apply pw_below_drewN | apply below_drew1 | refine below_set ?_ GE295.out) | exact HB.out)) hb); clear BK295; clear HB; have HO299 := n0_; have BK295 := n1_; have HB := n2_; clear n0_ n1_ n2_; (try clear hb); (try clear hb2); (try clear hk); (try clear hi); (try clear ho0); have hcz8_0 : w7.cell? ⟨gb295, 0, none⟩ = some (.int .u8 a0_0) := (blk_cell BK295.out 0).trans rfl; have hcz8_1 : w7.cell? ⟨gb295, 1, none⟩ = some (.int .u8 a0_1) := (blk_cell BK295.out 1).trans rfl; have hcz8_2 : w7.cell? ⟨gb295, 2, none⟩ = some (.slice A0_2 l0_2.length c0_2) := (blk_cell BK295.out 2).trans rfl; have hcz8_3 : w7.cell? ⟨gb295, 3, none⟩ = some (.slice A0_3 l0_3.length c0_3) := (blk_cell BK295.out 3).trans rfl; have hcz8_4 : w7.cell? ⟨gb295, 4, none⟩ = some (.slice A0_4 l0_4.length c0_4) := (blk_cell BK295.out 4).trans rfl; have hfz8_0 := blk_frozen BK295.out 0; have hfz8_1 := blk_frozen BK295.out 1; have hfz8_2 := blk_frozen BK295.out 2; have hfz8_3 := blk_frozen BK295.out 3; have hfz8_4 := blk_frozen BK295.out 4))
  have n0_ := Aside0.mk (Kd.R_drew HO299.out)
  have n1_ := Aside0.mk (blk_drew BK295.out)
  have n2_ := Aside0.mk (below_drew1 HB.out)
  clear HO299
  clear BK295
  clear HB
  have HO299 := n0_
  have BK295 := n1_
  have HB := n2_
  clear n0_ n1_ n2_
  refine start_ (n := 11) (S := fun w' => w'.cell? ⟨gb295, 0, none⟩ = some (.int .u8 a0_0) ∧ w'.cell? ⟨gb295, 1, none⟩ = some (.int .u8 a0_1) ∧ w'.cell? ⟨gb295, 2, none⟩ = some (.slice A0_2 l0_2.length c0_2) ∧ w'.cell? ⟨gb295, 3, none⟩ = some (.slice A0_3 l0_3.length c0_3) ∧ w'.cell? ⟨gb295, 4, none⟩ = some (.slice A0_4 l0_4.length c0_4)) (ds := []) #[false, false, false, false, false, false, false, false, false, false, false] (by kernel_rfl) rfl rfl ⟨(blk_cell BK295.out 0).trans rfl, (blk_cell BK295.out 1).trans rfl, (blk_cell BK295.out 2).trans rfl, (blk_cell BK295.out 3).trans rfl, (blk_cell BK295.out 4).trans rfl⟩ (fun hHeld => ?_); refine with_tabW wogglelaw02_TrackRoot.tab3 wogglelaw02_TrackRoot.bits3 (fun HT_ HW_ => ?_)
  generalize w7.drew = w9 at HO299 BK295 HB hHeld ⊢
  refine pure_ (i := 0) (N := some 33) (v := ?_) (a' := ?_) #[true, false, false, false, false, false, false, false, false, false, false] rfl rfl (any_of HT_.out (by kernel_rfl)) (fun _ _ _ h => h) (Or.inl ⟨by rfl, ?_⟩) ?_ ?_
  rotate_left
  · intro w'
    go_simp
    with_reducible rfl
  rotate_left
  · simp only [Act.put, List.setIfInBounds_toArray, List.set_cons_zero, List.set_cons_succ, i64_w, i32_w]
    rfl
  refine pure_ (i := 1) (N := some 34) (v := ?_) (a' := ?_) #[true, true, false, false, false, false, false, false, false, false, false] rfl rfl (any_of HT_.out (by kernel_rfl)) (fun _ _ _ h => h) (Or.inl ⟨by rfl, ?_⟩) ?_ ?_
  rotate_left
  · intro w'
    go_simp
    with_reducible rfl
  rotate_left
  · simp only [Act.put, List.setIfInBounds_toArray, List.set_cons_zero, List.set_cons_succ, i64_w, i32_w]
    rfl
  refine pure_ (i := 4) (N := some 37) (v := ?_) (a' := ?_) #[true, true, false, false, true, false, false, false, false, false, false] rfl rfl (any_of HT_.out (by kernel_rfl)) (fun _ _ _ h => h) (Or.inl ⟨by rfl, ?_⟩) ?_ ?_
  rotate_left
  · intro w'
    go_simp
    with_reducible rfl
  rotate_left
  · simp only [Act.put, List.setIfInBounds_toArray, List.set_cons_zero, List.set_cons_succ, i64_w, i32_w]
    rfl
  refine pure_ (i := 5) (N := some 38) (v := ?_) (a' := ?_) #[true, true, false, false, true, true, false, false, false, false, false] rfl rfl (any_of HT_.out (by kernel_rfl)) (fun _ _ _ h => h) (Or.inl ⟨by rfl, ?_⟩) ?_ ?_
  rotate_left
  · intro w'
    go_simp
    with_reducible rfl
  rotate_left
  · simp only [Act.put, List.setIfInBounds_toArray, List.set_cons_zero, List.set_cons_succ, i64_w, i32_w]
    rfl
  refine pure_ (i := 6) (N := some 39) (v := ?_) (a' := ?_) #[true, true, false, false, true, true, true, false, false, false, false] rfl rfl (any_of HT_.out (by kernel_rfl)) (fun _ _ _ h => h) (Or.inl ⟨by rfl, ?_⟩) ?_ ?_
  rotate_left
  · intro w'
    go_simp
    with_reducible rfl
  rotate_left
  · simp only [Act.put, List.setIfInBounds_toArray, List.set_cons_zero, List.set_cons_succ, i64_w, i32_w]
    rfl
  refine take_ (i := 2) (N := some 35) (v := ?_) (a' := ?_) #[true, true, true, false, true, true, true, false, false, false, false] rfl rfl (take_ofW HT_.out HW_.out (by kernel_rfl)) (fun _ _ _ h => h) (Or.inl ⟨by rfl, ?_⟩) hHeld ?_ ?_
  rotate_left
  · rintro w' ⟨s0, s1, s2, s3, s4⟩
    go_simp
    with_reducible rfl
  rotate_left
  · simp only [Act.put, List.setIfInBounds_toArray, List.set_cons_zero, List.set_cons_succ, i64_w, i32_w]
    rfl
  refine take_ (i := 7) (N := some 40) (v := ?_) (a' := ?_) #[true, true, true, false, true, true, true, true, false, false, false] rfl rfl (take_ofW HT_.out HW_.out (by kernel_rfl)) (fun _ _ _ h => h) (Or.inl ⟨by rfl, ?_⟩) hHeld ?_ ?_
  rotate_left
  · rintro w' ⟨s0, s1, s2, s3, s4⟩
    go_simp
    with_reducible rfl
  rotate_left
  · simp only [Act.put, List.setIfInBounds_toArray, List.set_cons_zero, List.set_cons_succ, i64_w, i32_w]
    rfl
  refine one_ (i := 3) (N := some 36) #[true, true, true, true, true, true, true, true, false, false, false] rfl rfl (one_of HT_.out (by kernel_rfl)) (by decide) (fun K hK => ?_)
  refine goes_ Try.func39 (by kernel_rfl) rfl #[.int .i64 (wrap64 ((Int.tmod (wrap64 (a0_1)) 4) + 1)), .slice A0_3 l0_3.length c0_3, .bool true] (by rfl) rfl rfl (by (try simp only [List.map_toArray, List.map_cons, List.map_nil]); first | done | rfl | (simp only [List.length_drop, List.length_take]; rfl)) ?_
  with_reducible refine (wogglelaw02_costs.calls k (wrap64 ((Int.tmod (wrap64 (a0_1)) 4) + 1)) _ _ l0_3 true t300 _ ?side1 ?side2 A3.out).mono ?_
  (case side1 => repeat (first | exact (Kd.C_below HR0_3.out HB.out) | (with_reducible refine Kd.C_alloc ?_ _) | (with_reducible refine Kd.C_drewN ?_ _) | (with_reducible refine Kd.C_drew ?_)))
  (case side2 => exact HC0_3.out)
  rintro e w10 ⟨v301, rfl, ho0, hb⟩
  refine ⟨_, rfl, ?_⟩
  have n0_ := Aside0.mk (Kd.R_below (by (with_reducible repeat (first | apply Kd.R_alloc | apply Kd.R_drewN | apply Kd.R_drew)); exact HO299.out) hb)
  have n1_ := Aside0.mk (Kd.S_lower ho0 (below_size (by repeat (first | (with_reducible first | exact HB.out | apply below_alloc | apply pw_below_drewN | apply below_drew1 | refine below_set ?_ GE295.out) | exact HB.out))))
  have n2_ := Aside0.mk (blk_below (g := gb295) (o := .cells #[.int .u8 a0_0, .int .u8 a0_1, .slice A0_2 l0_2.length c0_2, .slice A0_3 l0_3.length c0_3, .slice A0_4 l0_4.length c0_4] 56 (0, 0)) (by (with_reducible repeat (first | refine blk_drewN ?_ _ | refine blk_drew ?_ | refine blk_alloc ?_ _)); exact BK295.out) hb)
  have n3_ := Aside0.mk (below_step (by repeat (first | (with_reducible first | exact HB.out | apply below_alloc | apply pw_below_drewN | apply below_drew1 | refine below_set ?_ GE295.out) | exact HB.out)) hb)
  clear HO299
  clear BK295
  clear HB
  have HO299 := n0_
  have HO302 := n1_
  have BK295 := n2_
  have HB := n3_
  clear n0_ n1_ n2_ n3_
  (try clear hb)
  (try clear hb2)
  (try clear hk)
  (try clear hi)
  (try clear ho0)
  refine hK.out _ _ ⟨(blk_cell BK295.out 0).trans rfl, (blk_cell BK295.out 1).trans rfl, (blk_cell BK295.out 2).trans rfl, (blk_cell BK295.out 3).trans rfl, (blk_cell BK295.out 4).trans rfl⟩ (fun hHeld => ?_)
  clear hK K
  refine norm_ (a' := ?_) ?_ ?_
  rotate_left
  · show Act.put _ (some 36) _ = _
    simp only [Act.put, List.setIfInBounds_toArray, List.set_cons_zero, List.set_cons_succ, i64_w, i32_w]
    rfl
  refine one_ (i := 8) (N := some 41) #[true, true, true, true, true, true, true, true, true, false, false] rfl rfl (one_of HT_.out (by kernel_rfl)) (by decide) (fun K hK => ?_)
  refine goes_ Try.func36 (by kernel_rfl) rfl #[.int .i64 t296, .int .i64 (wrap64 ((Int.tmod (wrap64 (a0_1)) 4) + 1)), .slice A0_4 l0_4.length c0_4] (by rfl) rfl rfl (by (try simp only [List.map_toArray, List.map_cons, List.map_nil]); first | done | rfl | (simp only [List.length_drop, List.length_take]; rfl)) ?_
  with_reducible refine (wogglelaw02_states.calls k t296 (wrap64 ((Int.tmod (wrap64 (a0_1)) 4) + 1)) _ _ l0_4 t303 _ ?side1 ?side2 A4.out).mono ?_
  (case side1 => repeat (first | exact (Kd.C_below HR0_4.out HB.out) | (with_reducible refine Kd.C_alloc ?_ _) | (with_reducible refine Kd.C_drewN ?_ _) | (with_reducible refine Kd.C_drew ?_)))
  (case side2 => exact HC0_4.out)
  rintro e w11 ⟨v304, rfl, ho0, hb⟩
  refine ⟨_, rfl, ?_⟩
  have n0_ := Aside0.mk (Kd.R_below (by (with_reducible repeat (first | apply Kd.R_alloc | apply Kd.R_drewN | apply Kd.R_drew)); exact HO299.out) hb)
  have n1_ := Aside0.mk (Kd.S_elder' (by (with_reducible repeat (first | apply Kd.S_alloc | apply Kd.S_drewN | apply Kd.S_drew)); exact HO302.out) (Kd.R_base ho0) hb)
  have n2_ := Aside0.mk (Kd.R_lower ho0 (below_size (by repeat (first | (with_reducible first | exact HB.out | apply below_alloc | apply pw_below_drewN | apply below_drew1 | refine below_set ?_ GE295.out) | exact HB.out))))
  have n3_ := Aside0.mk (blk_below (g := gb295) (o := .cells #[.int .u8 a0_0, .int .u8 a0_1, .slice A0_2 l0_2.length c0_2, .slice A0_3 l0_3.length c0_3, .slice A0_4 l0_4.length c0_4] 56 (0, 0)) (by (with_reducible repeat (first | refine blk_drewN ?_ _ | refine blk_drew ?_ | refine blk_alloc ?_ _)); exact BK295.out) hb)
  have n4_ := Aside0.mk (below_step (by repeat (first | (with_reducible first | exact HB.out | apply below_alloc | apply pw_below_drewN | apply below_drew1 | refine below_set ?_ GE295.out) | exact HB.out)) hb)
  clear HO299
  clear HO302
  clear BK295
  clear HB
  have HO299 := n0_
  have HO302 := n1_
  have HO305 := n2_
  have BK295 := n3_
  have HB := n4_
  clear n0_ n1_ n2_ n3_ n4_
  (try clear hb)
  (try clear hb2)
  (try clear hk)
  (try clear hi)
  (try clear ho0)
  refine hK.out _ _ ⟨(blk_cell BK295.out 0).trans rfl, (blk_cell BK295.out 1).trans rfl, (blk_cell BK295.out 2).trans rfl, (blk_cell BK295.out 3).trans rfl, (blk_cell BK295.out 4).trans rfl⟩ (fun hHeld => ?_)
  clear hK K
  refine norm_ (a' := ?_) ?_ ?_
  rotate_left
  · show Act.put _ (some 41) _ = _
    simp only [Act.put, List.setIfInBounds_toArray, List.set_cons_zero, List.set_cons_succ, i64_w, i32_w]
    rfl
  refine pure_ (i := 9) (N := some 6) (v := ?_) (a' := ?_) #[true, true, true, true, true, true, true, true, true, true, false] rfl rfl (any_of HT_.out (by kernel_rfl)) (fun _ _ _ h => h) (Or.inl ⟨by rfl, ?_⟩) ?_ ?_
  rotate_left
  · intro w'
    go_simp
    with_reducible rfl
  rotate_left
  · simp only [Act.put, List.setIfInBounds_toArray, List.set_cons_zero, List.set_cons_succ, i64_w, i32_w]
    rfl
  refine pure_ (i := 10) (N := some 7) (v := ?_) (a' := ?_) #[true, true, true, true, true, true, true, true, true, true, true] rfl rfl (any_of HT_.out (by kernel_rfl)) (fun _ _ _ h => h) (Or.inl ⟨by rfl, ?_⟩) ?_ ?_
  rotate_left
  · intro w'
    go_simp
    with_reducible rfl
  rotate_left
  · simp only [Act.put, List.setIfInBounds_toArray, List.set_cons_zero, List.set_cons_succ, i64_w, i32_w]
    rfl
  refine done_ (done_of HT_.out (by kernel_rfl)) ?_
  obtain ⟨AJ, cJ, e4⟩ := Kd.R_slice HO299.out
  subst e4
  obtain ⟨AC, cC, e6⟩ := Kd.S_slice HO302.out
  subst e6
  obtain ⟨AL, cL, e7⟩ := Kd.R_slice HO305.out
  subst e7
  have HT0 := HTL.out
  clear HTL
  unfold mid8 at HT0
  split at HT0
  case isFalse => cases HT0
  rename_i ht
  have hn2 := ht.1
  have hn8 := ht.2.1
  have hJ := ht.2.2.1
  obtain ⟨m, hm⟩ : ∃ m, t297.length = m + 1 := ⟨t297.length - 1, by omega⟩
  have e1 : t297.length - 1 = m := by omega
  rw [e1] at HT0
  have hw8 : wrap64 ((t297.length : Int) - 1) = (m : Int) := by rw [Pure.w64 _ (by omega) (by omega)]; omega
  go_upto_region 4 with (fail)
  go_cut [8] (fun v8 wc => v8 = .int .i64 (m : Int) ∧ Aside0 (Kd.C k67 wc AJ t297.length t297) ∧ Aside0 (t297.length ≤ cJ) ∧ Aside0 (Kd.C (Kd.slice 3 (Kd.int .i64)) wc AC t300.length t300) ∧ Aside0 (t300.length ≤ cC) ∧ Aside0 (Kd.C (Kd.int .i64) wc AL t303.length t303) ∧ Aside0 (t303.length ≤ cL) ∧ Aside0 (Below w.heap.size w wc))
  case first =>
    go_wp2
    go_meet
    case rel => exact ⟨by first | rfl | (rw [← hw8]; done) | (simp [hw8]; done), ⟨(Kd.R_reads' HO299.out).2.2⟩, ⟨(Kd.R_reads' HO299.out).2.1⟩, ⟨(Kd.S_reads' HO302.out).2.2⟩, ⟨(Kd.S_reads' HO302.out).2.1⟩, ⟨(Kd.R_reads' HO305.out).2.2⟩, ⟨(Kd.R_reads' HO305.out).2.1⟩, HB⟩
  case rest =>
    obtain ⟨rfl, HR4, HC4, HR6, HC6, HR7, HC7, HBW⟩ := hcut
    rename World => w4
    clear HO299 HO302 HO305 BK295 HB A2 A3 A4 hw8
    have HB := Aside0.mk (Below.refl w4.heap.size w4)
    obtain ⟨q0, q1, q2, q3⟩ : 0 ≤ (rd_T67 t297 (m : Int)).f0 ∧ (rd_T67 t297 (m : Int)).f0 < t296 + m ∧ 0 ≤ (rd_T67 t297 (m : Int)).f1 ∧ (rd_T67 t297 (m : Int)).f1 < t296 + m := by
      obtain ⟨⟨a1, a2, _⟩, ⟨b1, b2, _⟩⟩ := ht.2.2.2 m (by omega)
      exact ⟨a1, a2, b1, b2⟩
    obtain ⟨ad4, e4, hx0, hx1⟩ := at_T67 HR4.out (m : Int) (by omega) (by omega)
    cases e4
    rw [Int.toNat_natCast] at hx0 hx1
    have p0 : (0 ≤ (m : Int)) = True := eq_true (by omega)
    have p1 : ((m : Int) < (t297.length : Int)) = True := eq_true (by omega)
    obtain ⟨rA, hrA⟩ : ∃ z, (rd_T67 t297 (m : Int)).f0 = z := ⟨_, rfl⟩
    obtain ⟨rB, hrB⟩ : ∃ z, (rd_T67 t297 (m : Int)).f1 = z := ⟨_, rfl⟩
    rw [hrA] at HT0 q0 q1 hx0
    rw [hrB] at HT0 q2 q3 hx1
    clear hHeld HT_ HW_ hcz6_0 hcz6_1 hcz6_2 hcz6_3 hcz6_4 hfz6_0 hfz6_1 hfz6_2 hfz6_3 hfz6_4 hcz8_0 hcz8_1 hcz8_2 hcz8_3 hcz8_4 hfz8_0 hfz8_1 hfz8_2 hfz8_3 hfz8_4
    have HM := Aside0.mk hm
    have HRA := Aside0.mk hrA
    have HRB := Aside0.mk hrB
    have HJL := Aside0.mk hJ
    clear hm e1 hrA hrB hJ
    obtain ⟨bb, hbb⟩ : ∃ b, decide (rA < t296 ∧ rB < t296) = b := ⟨_, rfl⟩
    have HBB := Aside0.mk hbb
    clear hbb
    go_upto_region 6 with (fail)
    go_cut [58] (fun v58 wx => v58 = .bool bb ∧ wx = w4.alloc (.cells #[.int .i64 rA, .int .i64 rB] 67))
    case first =>
      by_cases hA : rA < t296
      · have dA : decide (rA < t296) = true := decide_eq_true hA
        by_cases hB : rB < t296
        · have dB : decide (rB < t296) = true := decide_eq_true hB
          go_wp2
          go_meet
          case rel => exact ⟨by rw [← HBB.out, decide_eq_true (show rA < t296 ∧ rB < t296 by omega)], rfl⟩
        · have dB : decide (rB < t296) = false := decide_eq_false hB
          go_wp2
          go_meet
          case rel => exact ⟨by rw [← HBB.out, decide_eq_false (show ¬ (rA < t296 ∧ rB < t296) by omega)], rfl⟩
      · have dA : decide (rA < t296) = false := decide_eq_false hA
        go_wp2
        go_meet
        case rel => exact ⟨by rw [← HBB.out, decide_eq_false (show ¬ (rA < t296 ∧ rB < t296) by omega)], rfl⟩
    case rest =>
    obtain ⟨rfl, rfl⟩ := hcut
    go_upto_if 58 with (fail)
    go_cut [9] (fun v9 wx => v9 = .pointer (some ⟨w4.heap.size, 0, none⟩) ∧ ¬ (rA < t296 ∧ rB < t296) ∧ wx = w4.alloc (.cells #[.int .i64 rA, .int .i64 rB] 67))
    case first =>
      cases bb with
      | true =>
        have hAB := of_decide_eq_true HBB.out
        rw [if_pos hAB.1, if_pos hAB.2] at HT0
        have HLV := Aside0.mk HT0
        clear HT0 hAB
        go_wp2_with (first | (go_at_call 22; (with_reducible refine (wogglelaw02_lives.calls k r _ HLV.out).mono ?_); rintro e w5 ⟨rfl, hb⟩; have HB5 := Aside0.mk (show Below w4.heap.size w4 w5 from below_step (by repeat (first | (with_reducible first | exact HB.out | apply below_alloc | apply pw_below_drewN | apply below_drew1) | exact HB.out)) hb); clear hb))
        go_ret
        exact ⟨rfl, HBW.out.trans (Below.mono HB5.out HBW.out.size)⟩
      | false =>
        go_wp2
        go_meet
        case rel => exact ⟨rfl, of_decide_eq_false HBB.out, rfl⟩
    case rest =>
      obtain ⟨rfl, hLL, rfl⟩ := hcut
      have hr0 : (w4.alloc (.cells #[.int .i64 rA, .int .i64 rB] 67)).cell? ⟨w4.heap.size, 0, none⟩ = some (.int .i64 rA) := (blk_cell (blk_new w4 _) 0).trans rfl
      have hr1 : (w4.alloc (.cells #[.int .i64 rA, .int .i64 rB] 67)).cell? ⟨w4.heap.size, 1, none⟩ = some (.int .i64 rB) := (blk_cell (blk_new w4 _) 1).trans rfl
      obtain ⟨inn, hinn⟩ : ∃ z, (if rA < t296 then rB else rA) = z := ⟨_, rfl⟩
      obtain ⟨oth, hoth⟩ : ∃ z, (if rA < t296 then rA else rB) = z := ⟨_, rfl⟩
      have HTL : Aside0 (wogglelaw02_TrackRoot_t.f k 0 0 0 t296 t297 0 t300 t303 0 0 0 0 0 (moved8 t296 inn oth t297) = some r) := by
        refine ⟨?_⟩
        by_cases hA : rA < t296
        · have hB : ¬ rB < t296 := fun h => hLL ⟨hA, h⟩
          rw [if_pos hA, if_neg hB] at HT0
          rw [← hinn, ← hoth, if_pos hA, if_pos hA]
          exact HT0
        · rw [if_neg hA] at HT0
          rw [← hinn, ← hoth, if_neg hA, if_neg hA]
          exact HT0
      have hi : t296 ≤ inn ∧ inn < t296 + m ∧ 0 ≤ oth ∧ oth < t296 + m := by
        rw [← hinn, ← hoth]
        split <;> omega
      have HINN := Aside0.mk hinn
      have HOTH := Aside0.mk hoth
      clear HT0 hinn hoth
      go_upto_region 8 with (fail)
      go_cut [10, 11] (fun v10 v11 wx => ∃ gi, v10 = .pointer (some ⟨gi, 0, none⟩) ∧ v11 = .int .i64 rB ∧ Aside0 (Blk wx w4.heap.size gi (ints [rA])) ∧ Aside0 (Below w4.heap.size w4 wx))
      case first =>
        go_region_held3 (fun w' => w'.cell? ⟨w4.heap.size, 0, none⟩ = some (.int .i64 rA) ∧ w'.cell? ⟨w4.heap.size, 1, none⟩ = some (.int .i64 rB)) (go_keep) (fail)
        all_goals
          go_wp2
          go_meet
          exact ⟨w4.heap.size + 1, rfl, rfl, ⟨⟨by
            have e_ : (w4.alloc (.cells #[.int .i64 rA, .int .i64 rB] 67)).heap.size = w4.heap.size + 1 := by simp
            have h_ := blk_new (w4.alloc (.cells #[.int .i64 rA, .int .i64 rB] 67)) (.cells #[.int .i64 rA] 3)
            rw [e_] at h_
            exact h_, by omega⟩⟩, ⟨by repeat (first | apply below_drew1 | apply below_alloc | exact Below.refl _ _)⟩⟩
      case rest =>
        obtain ⟨gi, rfl, rfl, HGI, HB⟩ := hcut
        rename World => w5
        have E1 := Aside0.mk (fun h : rA < t296 => (show inn = rB ∧ oth = rA from ⟨by rw [← HINN.out, if_pos h], by rw [← HOTH.out, if_pos h]⟩))
        have E2 := Aside0.mk (fun h : ¬ rA < t296 => (show inn = rA ∧ oth = rB from ⟨by rw [← HINN.out, if_neg h], by rw [← HOTH.out, if_neg h]⟩))
        have hgi : w5.cell? ⟨gi, 0, none⟩ = some (.int .i64 rA) := (HGI.out.at 0 (by simp)).trans rfl
        clear hr0 hr1 hx0 hx1 hLL
        obtain ⟨bq, hbq⟩ : ∃ b, decide (rA < t296) = b := ⟨_, rfl⟩
        go_upto_if 66 with (fail)
        have HBQ := Aside0.mk hbq
        clear hbq
        go_cut [11] (fun v11 wx => v11 = .int .i64 oth ∧ Aside0 (Blk wx w4.heap.size gi (ints [inn])) ∧ Aside0 (Below w4.heap.size w4 wx))
        case first =>
          cases bq with
          | true =>
            have HE := Aside0.mk (E1.out (of_decide_eq_true HBQ.out))
            have hfz := HGI.out.frozen 0
            go_wp2
            go_meet
            case rel => exact ⟨by rw [HE.out.2], ⟨by rw [HE.out.1]; exact HGI.out.put 0 rB⟩, ⟨below_set HB.out HGI.out.2⟩⟩
          | false =>
            have HE := Aside0.mk (E2.out (of_decide_eq_false HBQ.out))
            go_wp2
            go_meet
            case rel => exact ⟨by rw [HE.out.2], ⟨by rw [HE.out.1]; exact HGI.out⟩, HB⟩
        case rest =>
          obtain ⟨rfl, HGI, HB⟩ := hcut
          rename World => w6
          clear hgi E1 E2
          have hM_ := HM.out
          have hJ_ := HJL.out
          obtain ⟨ai, hai⟩ : ∃ ai : Int, inn - t296 = ai := ⟨_, rfl⟩
          have ha0 : 0 ≤ ai := by omega
          have ham : ai < m := by omega
          have hlen : (t297.length : Int) = m + 1 := by have := HM.out; omega
          obtain ⟨ad5, e5, hy0, hy1⟩ := at_T67 (Kd.C_below HR4.out HB.out) ai ha0 (by omega)
          cases e5
          obtain ⟨pA, hpA⟩ : ∃ z, (rd_T67 t297 ai).f0 = z := ⟨_, rfl⟩
          obtain ⟨pB, hpB⟩ : ∃ z, (rd_T67 t297 ai).f1 = z := ⟨_, rfl⟩
          rw [hpA] at hy0
          rw [hpB] at hy1
          have hpb : (0 ≤ pA ∧ pA ≤ 100) ∧ (0 ≤ pB ∧ pB ≤ 100) := by
            obtain ⟨⟨a1, a2, _⟩, ⟨b1, b2, _⟩⟩ := ht.2.2.2 ai.toNat (by omega)
            rw [Int.toNat_of_nonneg ha0] at a1 a2 b1 b2
            omega
          have HPA := Aside0.mk (And.intro hpA hpB)
          have hgi : w6.cell? ⟨gi, 0, none⟩ = some (.int .i64 inn) := (HGI.out.at 0 (by simp)).trans rfl
          have hmb : (m : Int) ≤ 8 := by omega
          have HAI := Aside0.mk (show inn = t296 + ai by omega)
          have hio : (0 ≤ oth ∧ oth ≤ 100) ∧ inn ≤ 100 ∧ 0 ≤ inn := by omega
          have hwai : IntKind.i64.wrap (inn - t296) = ai := by rw [hai, IntKind.wrap_i64]; omega
          have hq0 : (0 ≤ ai) = True := eq_true ha0
          have hq1 : (ai < (t297.length : Int)) = True := eq_true (by omega)
          clear hai hpA hpB hlen hM_ hJ_
          go_upto_region 12 with (first | ((with_reducible refine gate_dst (N := 75) rfl ?_); refine Kd.R_lit k67 _ 67 ?hg (N := 75) ?hd (xs := ([] : List S67)) (inner := []) (ok := fun _ => True) (okp := fun _ => True) ?hr ?hp (fun _ hk => hk) trivial (Below.refl _ _) (Nat.le_refl _) (by simp) ?_; (case hd => rfl); (case hg => rfl); (case hr => first | (go_simp; done) | (go_simp; rfl)); (case hp => exact (Reps.none _ _)); intro v13 w7 ho hb hg_ hnew_; clear hg_ hnew_))
          have HOK := Aside0.mk (Kd.R_lower (Kd.R_mono (Kd.R_bound ho) (ok' := fun k => k ≠ w7.heap.size ∧ k ≠ gi) (fun k hk => ⟨by have := hk.2.2.1; omega, by have := hk.2.1; have := HGI.out.lt; omega⟩)) (base' := w4.heap.size) HB.out.size)
          have HB7 := Aside0.mk (HB.out.trans (hb.mono HB.out.size))
          have HG7 := Aside0.mk (HGI.out.below hb)
          have hgi7 : w7.cell? ⟨gi, 0, none⟩ = some (.int .i64 inn) := (HG7.out.at 0 (by simp)).trans rfl
          clear ho hb hy0 hy1 hgi HGI HB
          go_cut [12, 13, 14] (fun v12 v13' v14 wx => v12 = .pointer (some ⟨w7.heap.size, 0, none⟩) ∧ v13' = v13 ∧ v14 = .func (.func 40) #[] #[.pointer (some ⟨gi, 0, none⟩)] ∧ wx = w7.alloc (.cells #[.int .i64 pA, .int .i64 pB] 67))
          case first =>
            go_wp2
            go_meet
            case rel => exact ⟨rfl, rfl, rfl, rfl⟩
          case rest =>
            obtain ⟨rfl, rfl, rfl, rfl⟩ := hcut
            have HP8 := Aside0.mk (blk_new w7 (.cells #[.int .i64 pA, .int .i64 pB] 67))
            have HG8 := Aside0.mk (HG7.out.alloc (.cells #[.int .i64 pA, .int .i64 pB] 67))
            have HO8 := Aside0.mk (Kd.R_alloc HOK.out (.cells #[.int .i64 pA, .int .i64 pB] 67))
            have HB8 := Aside0.mk (below_alloc HB7.out (.cells #[.int .i64 pA, .int .i64 pB] 67))
            have HLP := Aside0.mk (show ∃ gp, gp = w7.heap.size from ⟨_, rfl⟩)
            obtain ⟨gp, hgp⟩ := HLP.out
            rw [← hgp] at HP8 HO8 ⊢
            generalize w7.alloc (.cells #[.int .i64 pA, .int .i64 pB] 67) = w8 at HP8 HG8 HO8 HB8 ⊢
            clear hgp hgi7 HG7 HB7 HOK HLP
            go_wp2_with (fail)
            go_loopg [13, 15] m (fun gg v13 v15 w' => ∃ i : Nat, i ≤ m ∧ m - i ≤ gg ∧ v15 = .int .i64 i ∧ Aside0 (w'.heap[gp]? = some (.cells #[.int .i64 pA, .int .i64 pB] 67)) ∧ Aside0 (Blk w' w4.heap.size gi (ints [inn])) ∧ Aside0 (Kd.R k67 67 w' w4.heap.size (fun k => k ≠ gp ∧ k ≠ gi) v13 (mv8 inn ai t297 i)) ∧ Aside0 (Below w4.heap.size w4 w'))
            case atStart => exact ⟨0, Nat.zero_le _, by omega, rfl, HP8, HG8, HO8, HB8⟩
            case round =>
              clear HP8 HG8 HO8 HB8
              obtain ⟨i, him, hgg, rfl, HP9, HG9, HO9, HB9⟩ := hrel
              rename World => w9
              have hgi : w9.cell? ⟨gi, 0, none⟩ = some (.int .i64 inn) := (HG9.out.at 0 (by simp)).trans rfl
              by_cases hlt : i < m
              · have hltb : decide ((i : Int) < (m : Int)) = true := decide_eq_true (by omega)
                have hltc : decide (i < m) = true := decide_eq_true hlt
                have HLT := Aside0.mk (And.intro hlt hgg)
                have hM_ := HM.out
                by_cases hia : (i : Int) = ai
                · have hne : ((i : Int) != ai) = false := bne_eq_false_iff_eq.2 hia
                  have HMV := Aside0.mk (show mv8 inn ai t297 (i + 1) = mv8 inn ai t297 i by unfold mv8; rw [if_pos hia]; cases i <;> rfl)
                  clear hia hM_ him hgg hlt
                  go_wp2_with (fail)
                  go_roundg (m - (i + 1))
                  case measure => have := HLT.out; omega
                  case rel => exact ⟨i + 1, HLT.out.1, Nat.le_refl _, by rw [w64_succ i (by have := HLT.out; omega)], HP9, HG9, ⟨by rw [HMV.out]; exact HO9.out⟩, HB9⟩
                · have hne : ((i : Int) != ai) = true := bne_iff_ne.2 hia
                  obtain ⟨ad6, e6, hz0, hz1⟩ := at_T67 HR4.out (i : Int) (by omega) (by omega)
                  cases e6
                  obtain ⟨jA, hjA⟩ : ∃ z, (rd_T67 t297 (i : Int)).f0 = z := ⟨_, rfl⟩
                  obtain ⟨jB, hjB⟩ : ∃ z, (rd_T67 t297 (i : Int)).f1 = z := ⟨_, rfl⟩
                  rw [hjA, Int.toNat_natCast] at hz0
                  rw [hjB, Int.toNat_natCast] at hz1
                  have hjb : (0 ≤ jA ∧ jA ≤ 100) ∧ (0 ≤ jB ∧ jB ≤ 100) := by
                    obtain ⟨⟨a1, a2, _⟩, ⟨b1, b2, _⟩⟩ := ht.2.2.2 i (by omega)
                    rw [hjA] at a1 a2
                    rw [hjB] at b1 b2
                    omega
                  have HZ := Aside0.mk (fun (W : World) (h : Below w4.heap.size w4 W) => And.intro ((h.cell (World.block_lt_of_cell? _ _ hz0)).trans hz0) ((h.cell (World.block_lt_of_cell? _ _ hz1)).trans hz1))
                  replace hz0 := (HZ.out _ HB9.out).1
                  replace hz1 := (HZ.out _ HB9.out).2
                  have HMV := Aside0.mk (show mv8 inn ai t297 (i + 1) = mv8 inn ai t297 i ++ [⟨name8 inn jA, name8 inn jB⟩] by rw [← hjA, ← hjB]; exact if_neg hia)
                  have HML := Aside0.mk (show (mv8 inn ai t297 i).length ≤ 100 by
                    have h_ : ∀ q, (mv8 inn ai t297 q).length ≤ q := fun q => by
                      induction q with
                      | zero => exact Nat.le_refl _
                      | succ q ih => unfold mv8; split; (· omega); (· simp only [List.length_append, List.length_cons, List.length_nil]; omega)
                    have := h_ i
                    omega)
                  have z0 : (0 ≤ (i : Int)) = True := eq_true (by omega)
                  have z1 : ((i : Int) < (t297.length : Int)) = True := eq_true (by omega)
                  have z2 : decide (i < t297.length) = true := decide_eq_true (by omega)
                  clear hia hM_ him hgg hlt hjA hjB
                  go_wp2_with (fail)
                  go_region_held3 (fun w' => w'.cell? (ad4.add (i * 2)) = some (.int .i64 jA) ∧ w'.cell? ⟨(ad4.add (i * 2)).block, (ad4.add (i * 2)).off + 1, none⟩ = some (.int .i64 jB)) (first | go_keep | exact HZ.out _ hb)
                    (first
                    | (go_simp; go_at_call 40; (with_reducible refine (name_calls _ inn gi _ ?_ ?_ ?_).mono ?_); (exact hgi); (omega); (omega); rintro e w' ⟨rfl, rfl⟩)
                    | (refine Kd.R_append_step k67 (w0 := w4) (W := w9.drew) w4.heap.size (by rfl) (.tmp 87) (.tmp 103) 22 67 (.agg #[(.int .i64 0), (.int .i64 0)]) 16 (by rfl) Try.underlying22 info67 (by rfl) (by decide) (by omega) u13 (mv8 inn ai t297 i) (⟨name8 inn jA, name8 inn jB⟩ : S67) [.int .i64 (name8 inn jA), .int .i64 (name8 inn jB)] (fun k => k ≠ gp ∧ k ≠ gi) (fun _ => False) (by rfl) (by rfl) (k67_mkM _ _ _ (⟨name8 inn jA, name8 inn jB⟩ : S67)) (fun _ hk => hk.elim) (fun k_ hk_ => ⟨by have := blk_lt HP9.out; have h_ := hk_; simp at h_; omega, by have := HG9.out.lt; have h_ := hk_; simp at h_; omega⟩) (by (with_reducible repeat (first | apply Kd.R_alloc | apply Kd.R_drewN | apply Kd.R_drew)); exact HO9.out) (by repeat (first | (with_reducible first | exact HB9.out | apply below_alloc | apply pw_below_drewN | apply below_drew1) | exact HB9.out)) (below_size (by repeat (first | (with_reducible first | exact HB9.out | apply below_alloc | apply pw_below_drewN | apply below_drew1) | exact HB9.out))) (by have := HML.out; omega) ?_; intro v104 w10 ho hb hg hat))
                  have HP10 := Aside0.mk (blk_grown (w := w9.drew) HP9.out hg (fun e_ => (HO9.out.1 gp e_.symm).1 rfl))
                  have HG10 := Aside0.mk (show Blk w10 w4.heap.size gi (ints [inn]) from ⟨blk_grown (w := w9.drew) HG9.out.1 hg (fun e_ => (HO9.out.1 gi e_.symm).2 rfl), HG9.out.2⟩)
                  have HO10 := Aside0.mk ho
                  have HB10 := Aside0.mk hb
                  clear ho hb hg hat
                  go_wp2_with (fail)
                  go_roundg (m - (i + 1))
                  case measure => have := HLT.out; omega
                  case rel => exact ⟨i + 1, HLT.out.1, Nat.le_refl _, by rw [w64_succ i (by have := HLT.out; omega)], HP10, HG10, ⟨by rw [HMV.out]; exact HO10.out⟩, HB10⟩
              · have hltb : decide ((i : Int) < (m : Int)) = false := decide_eq_false (by omega)
                have hltc : decide (i < m) = false := decide_eq_false hlt
                obtain rfl : i = m := by omega
                have hp0 : w9.cell? ⟨gp, 0, none⟩ = some (.int .i64 pA) := (blk_cell HP9.out 0).trans rfl
                have hp1 : w9.cell? ⟨gp, 1, none⟩ = some (.int .i64 pB) := (blk_cell HP9.out 1).trans rfl
                have hM_ := HM.out
                have hJ_ := HJL.out
                have hs1 : IntKind.i64.wrap (t296 + (i : Int)) = t296 + i := by rw [IntKind.wrap_i64]; omega
                have hs2 : IntKind.i64.wrap (t296 + (i : Int) - 1) = t296 + i - 1 := by rw [IntKind.wrap_i64]; omega
                have HMV := Aside0.mk (show mv8 inn ai t297 i ++ [⟨name8 inn pB, name8 inn oth⟩, ⟨name8 inn pA, t296 + i - 1⟩] = moved8 t296 inn oth t297 by
                  unfold moved8
                  rw [show inn - t296 = ai by have := HAI.out; omega, HPA.out.1, HPA.out.2, show t297.length - 1 = i by omega, show t296 + (t297.length : Int) - 2 = t296 + i - 1 by omega])
                have HML := Aside0.mk (show (mv8 inn ai t297 i).length ≤ 100 by
                  have h_ : ∀ q, (mv8 inn ai t297 q).length ≤ q := fun q => by
                    induction q with
                    | zero => exact Nat.le_refl _
                    | succ q ih => unfold mv8; split; (· omega); (· simp only [List.length_append, List.length_cons, List.length_nil]; omega)
                  have := h_ i
                  omega)
                clear hM_ hJ_ him hgg hlt
                go_wp2_with (fail)
                go_region_held3 (fun w' => w'.cell? ⟨gp, 0, none⟩ = some (.int .i64 pA) ∧ w'.cell? ⟨gp, 1, none⟩ = some (.int .i64 pB)) (first | go_keep | exact ⟨(blk_cell (blk_grown (w := w9.drew) HP9.out hg (fun e_ => (HO9.out.1 gp e_.symm).1 rfl)) 0).trans rfl, (blk_cell (blk_grown (w := w9.drew) HP9.out hg (fun e_ => (HO9.out.1 gp e_.symm).1 rfl)) 1).trans rfl⟩)
                  (first
                  | (go_simp; go_at_call 40; (with_reducible refine (name_calls _ inn gi _ ?_ ?_ ?_).mono ?_); (exact hgi); (omega); (omega); rintro e w' ⟨rfl, rfl⟩)
                  | (refine Kd.R_append_rows_step k67 (w0 := w4) (W := w9.drew.alloc (.cells #[.int .i64 (name8 inn pB), .int .i64 (name8 inn oth), .int .i64 (name8 inn pA), .int .i64 (t296 + i - 1)] 67)) w4.heap.size (by rfl) (.tmp 105) (.tmp 123) 22 67 (.agg #[(.int .i64 0), (.int .i64 0)]) 16 (by rfl) Try.underlying22 info67 (by rfl) (by decide) (by omega) u13 (mv8 inn ai t297 i) [(⟨name8 inn pB, name8 inn oth⟩ : S67), ⟨name8 inn pA, t296 + i - 1⟩] (some ⟨w9.drew.heap.size, 0, none⟩) 2 2 (fun k => k ≠ gp ∧ k ≠ gi) (fun _ => False) (by rfl) (by rfl) (Kd.R_alloc (Kd.R_drew HO9.out) _) (pair_reads w9.drew _ _ _ _) (fun x cs h => h ▸ k67_mkM _ _ _ x) (fun _ hk => hk.elim) (fun k_ hk_ => ⟨by have := blk_lt HP9.out; have h_ := hk_; simp at h_; omega, by have := HG9.out.lt; have h_ := hk_; simp at h_; omega⟩) (by repeat (first | (with_reducible first | exact HB9.out | apply below_alloc | apply pw_below_drewN | apply below_drew1) | exact HB9.out)) (below_size (by repeat (first | (with_reducible first | exact HB9.out | apply below_alloc | apply pw_below_drewN | apply below_drew1) | exact HB9.out))) (by have := HML.out; omega) ?_; intro v124 wz ho hb hg0 hat; have hg := World.grownBy.trans (World.grownBy_alloc w9.drew _ _) hg0))
                rw [HMV.out] at ho
                obtain ⟨A13, c13, e13⟩ := Kd.R_slice ho
                subst e13
                have HR13 := Aside0.mk (Kd.R_reads' ho).2.2
                have HC13 := Aside0.mk (Kd.R_reads' ho).2.1
                replace HR4 := Aside0.mk (Kd.C_below HR4.out hb)
                replace HR6 := Aside0.mk (Kd.C_below HR6.out hb)
                replace HR7 := Aside0.mk (Kd.C_below HR7.out hb)
                replace HBW := Aside0.mk (HBW.out.trans (hb.mono HBW.out.size))
                have HB := Aside0.mk (Below.refl wz.heap.size wz)
                clear hg hg0 hat hb ho hgi hp0 hp1 HP9 HG9 HO9 HB9
                generalize moved8 t296 inn oth t297 = l13 at HTL HR13 HC13 ⊢
                have H : ((track_Least.f k t296 t297 t300 t303).bind fun bt574 => ((track_Least.f k t296 l13 t300 t303).bind fun bt576 => (if bt574.2 = 0 then (if bt576.2 = 0 then (if bt574.1 = bt576.1 then ((wogglelaw02_lives.f k).bind fun t578 => (some t578)) else (some false)) else (some false)) else (some false)))) = some r := HTL.out
                replace H := Option.bind_eq_some_iff.mp H
                obtain ⟨⟨t574, t575⟩, A150, H⟩ := H
                replace H : ((track_Least.f k t296 l13 t300 t303).bind fun bt576 => (if t575 = 0 then (if bt576.2 = 0 then (if t574 = bt576.1 then ((wogglelaw02_lives.f k).bind fun t578 => (some t578)) else (some false)) else (some false)) else (some false))) = some r := H
                have A15 := Aside0.mk A150
                clear A150
                replace H := Option.bind_eq_some_iff.mp H
                obtain ⟨⟨t576, t577⟩, A160, H⟩ := H
                replace H : (if t575 = 0 then (if t577 = 0 then (if t574 = t576 then ((wogglelaw02_lives.f k).bind fun t578 => (some t578)) else (some false)) else (some false)) else (some false)) = some r := H
                have A16 := Aside0.mk A160
                clear A160
                by_cases c17 : t575 = 0
                · rw [if_pos c17] at H
                  have c17b0 : (t575 == 0) = true := beq_iff_eq.mpr c17
                  have c17b1 : (t575 != 0) = false := bne_eq_false_iff_eq.mpr c17
                  clear c17
                  by_cases c18 : t577 = 0
                  · rw [if_pos c18] at H
                    have c18b0 : (t577 == 0) = true := beq_iff_eq.mpr c18
                    have c18b1 : (t577 != 0) = false := bne_eq_false_iff_eq.mpr c18
                    clear c18
                    by_cases c19 : t574 = t576
                    · rw [if_pos c19] at H
                      have c19b0 : (t574 == t576) = true := beq_iff_eq.mpr c19
                      have c19b1 : (t574 != t576) = false := bne_eq_false_iff_eq.mpr c19
                      clear c19
                      replace H := Option.bind_eq_some_iff.mp H
                      obtain ⟨t578, A200, H⟩ := H
                      replace H : (some t578) = some r := H
                      have A20 := Aside0.mk A200
                      clear A200
                      obtain rfl := Option.some.inj H
                      go_wp2_with (first | ((with_reducible refine gate_callee (f := 32) rfl ?_); refine goesL_ (some 130) rfl rfl Try.func32 (by kernel_rfl) rfl #[.int .i64 t296, .slice (some ad4) t297.length cJ, .slice AC t300.length cC, .slice AL t303.length cL] rfl (by (try simp only [List.map_toArray, List.map_cons, List.map_nil]); first | done | rfl | (simp only [List.length_drop, List.length_take]; rfl)) ?_; (with_reducible refine (track_Least.calls k t296 _ _ t297 _ _ t300 _ _ t303 t574 t575 _ ?side1 ?side2 ?side3 ?side4 ?side5 ?side6 A15.out).mono ?_); (case side1 => repeat (first | exact HR4.out | (with_reducible refine Kd.C_alloc ?_ _) | (with_reducible refine Kd.C_drewN ?_ _) | (with_reducible refine Kd.C_drew ?_))); (case side2 => exact HC4.out); (case side3 => repeat (first | exact HR6.out | (with_reducible refine Kd.C_alloc ?_ _) | (with_reducible refine Kd.C_drewN ?_ _) | (with_reducible refine Kd.C_drew ?_))); (case side4 => exact HC6.out); (case side5 => repeat (first | exact HR7.out | (with_reducible refine Kd.C_alloc ?_ _) | (with_reducible refine Kd.C_drewN ?_ _) | (with_reducible refine Kd.C_drew ?_))); (case side6 => exact HC7.out); rintro e w21 ⟨rfl, hb⟩; refine ⟨_, rfl, ?_⟩; have n0_ := Aside0.mk (below_step (by repeat (first | (with_reducible first | exact HB.out | apply below_alloc | apply pw_below_drewN | apply below_drew1) | exact HB.out)) hb); clear HB; have HB := n0_; clear n0_; (try clear hb); (try clear hb2); (try clear hk); (try clear hi)) | ((with_reducible refine gate_callee (f := 32) rfl ?_); refine goesL_ (some 138) rfl rfl Try.func32 (by kernel_rfl) rfl #[.int .i64 t296, .slice A13 l13.length c13, .slice AC t300.length cC, .slice AL t303.length cL] rfl (by (try simp only [List.map_toArray, List.map_cons, List.map_nil]); first | done | rfl | (simp only [List.length_drop, List.length_take]; rfl)) ?_; (with_reducible refine (track_Least.calls k t296 _ _ l13 _ _ t300 _ _ t303 t576 t577 _ ?side1 ?side2 ?side3 ?side4 ?side5 ?side6 A16.out).mono ?_); (case side1 => repeat (first | exact (Kd.C_below HR13.out HB.out) | (with_reducible refine Kd.C_alloc ?_ _) | (with_reducible refine Kd.C_drewN ?_ _) | (with_reducible refine Kd.C_drew ?_))); (case side2 => exact HC13.out); (case side3 => repeat (first | exact (Kd.C_below HR6.out HB.out) | (with_reducible refine Kd.C_alloc ?_ _) | (with_reducible refine Kd.C_drewN ?_ _) | (with_reducible refine Kd.C_drew ?_))); (case side4 => exact HC6.out); (case side5 => repeat (first | exact (Kd.C_below HR7.out HB.out) | (with_reducible refine Kd.C_alloc ?_ _) | (with_reducible refine Kd.C_drewN ?_ _) | (with_reducible refine Kd.C_drew ?_))); (case side6 => exact HC7.out); rintro e w22 ⟨rfl, hb⟩; refine ⟨_, rfl, ?_⟩; have n0_ := Aside0.mk (below_step (by repeat (first | (with_reducible first | exact HB.out | apply below_alloc | apply pw_below_drewN | apply below_drew1) | exact HB.out)) hb); clear HB; have HB := n0_; clear n0_; (try clear hb); (try clear hb2); (try clear hk); (try clear hi)) | (go_at_call 22; (with_reducible refine (wogglelaw02_lives.calls k  t578 _ A20.out).mono ?_); rintro e w23 ⟨rfl, hb⟩; have n0_ := Aside0.mk (below_step (by repeat (first | (with_reducible first | exact HB.out | apply below_alloc | apply pw_below_drewN | apply below_drew1) | exact HB.out)) hb); clear HB; have HB := n0_; clear n0_; (try clear hb); (try clear hb2); (try clear hk); (try clear hi)))
                      go_ret
                      exact ⟨by first | rfl | (simp [errW_none, errW_some] <;> rfl) | (simp [*, errW_none, errW_some] <;> rfl), HBW.out.trans (Below.mono (by repeat (first | (with_reducible first | exact HB.out | apply below_alloc | apply pw_below_drewN | apply below_drew1) | exact HB.out)) HBW.out.size)⟩
                    · rw [if_neg c19] at H
                      have c19b0 : (t574 == t576) = false := beq_eq_false_iff_ne.mpr c19
                      have c19b1 : (t574 != t576) = true := bne_iff_ne.mpr c19
                      exact absurd ((Option.some.inj H).trans HRR.out) (by decide)
                  · rw [if_neg c18] at H
                    have c18b0 : (t577 == 0) = false := beq_eq_false_iff_ne.mpr c18
                    have c18b1 : (t577 != 0) = true := bne_iff_ne.mpr c18
                    exact absurd ((Option.some.inj H).trans HRR.out) (by decide)
                · rw [if_neg c17] at H
                  have c17b0 : (t575 == 0) = false := beq_eq_false_iff_ne.mpr c17
                  have c17b1 : (t575 != 0) = true := bne_iff_ne.mpr c17
                  exact absurd ((Option.some.inj H).trans HRR.out) (by decide)
end Go.Proofs.Ytcphmeeighhdjaa.P
