-- written by a program of this session
import Derived.Test.YtbeimdngghedjaaDoorPK
namespace Go.Proofs.YtbeimdngghedjaaDoor.P
open Go.RowKit Go.Proofs.YtbeimdngghedjaaDoorW.PrintWords Go.Proofs.YtbeimdngghedjaaDoorW.PrintLast Go.Proofs.YtbeimdngghedjaaDoorW.PrintMore
attribute [local go_sem] max2_int min2_int max_two min_two max_three min_three max_four min_four   -- for this text's walks alone
set_option linter.unusedVariables false
set_option linter.unusedSimpArgs false

/-! ### beacon_graph_code: function 58 -/
def beacon_graph_code.l0 : Nat → List (S82) → Int → List Int → List Int → Int → Int → Option (List Int)
  | 0, _, _, _, _, _, _ => none
  | k + 1, x0, x1, x7, x10, x11, x12 => if x12 < x11 then (if 0 ≤ x12 then (if x12 < (x10.length : Int) then (if 0 < (x0.length : Int) then (if 0 ≤ x1 then (if x1 < (((rd_T82 x0 0).f2).length : Int) then (if 0 ≤ (rd x10 x12) then (if (rd x10 x12) < ((rd_L5 ((rd_T82 x0 0).f2) x1).length : Int) then (if x7.length < 17592186044416 then (beacon_graph_code.l0 k x0 x1 (x7 ++ [rd (rd_L5 ((rd_T82 x0 0).f2) x1) (rd x10 x12)]) x10 x11 (wrap64 (x12 + 1))) else (none)) else (none)) else (none)) else (none)) else (none)) else (none)) else (none)) else (none)) else (some x7)
def beacon_graph_code.f (k : Nat) (l770 : List (S82)) (a1 : Int) (l2 : List Int) : Option (List Int) := beacon_graph_code.l0 k l770 a1 ([] : List Int) l2 (l2.length : Int) 0
theorem beacon_graph_code.mono_l : ∀ k, (∀ y0 y1 y2 y3 y4 y5, LeO (beacon_graph_code.l0 k y0 y1 y2 y3 y4 y5) (beacon_graph_code.l0 (k + 1) y0 y1 y2 y3 y4 y5))
  | 0 => fun _ _ _ _ _ _ r h => by simp [beacon_graph_code.l0] at h
  | k + 1 => by
    have ih0 := beacon_graph_code.mono_l k
    · intro y0 y1 y2 y3 y4 y5
      unfold beacon_graph_code.l0
      repeat' first
      | (with_reducible exact ih0 _ _ _ _ _ _)
      | (with_reducible exact LeO.refl _)
      | (with_reducible exact LeO.none _)
      | (with_reducible refine LeO.ite ?_ ?_)
      | (with_reducible refine LeO.bind ?_ (fun _ => ?_))
      | exact ih0 _ _ _ _ _ _
      | exact LeO.none _
      | refine LeO.ite ?_ ?_
      | refine LeO.bind ?_ (fun _ => ?_)
theorem beacon_graph_code.mono : ∀ a0 a1 a2 k, LeO (beacon_graph_code.f k a0 a1 a2) (beacon_graph_code.f (k + 1) a0 a1 a2) := by
  intro a0 a1 a2 k
  have ih0 := beacon_graph_code.mono_l k
  unfold beacon_graph_code.f
  repeat' first
      | (with_reducible exact ih0 _ _ _ _ _ _)
      | (with_reducible exact LeO.refl _)
      | (with_reducible exact LeO.none _)
      | (with_reducible refine LeO.ite ?_ ?_)
      | (with_reducible refine LeO.bind ?_ (fun _ => ?_))
      | exact ih0 _ _ _ _ _ _
      | exact LeO.none _
      | refine LeO.ite ?_ ?_
      | refine LeO.bind ?_ (fun _ => ?_)
set_option maxHeartbeats 8000000 in
set_option maxRecDepth 100000 in
theorem beacon_graph_code.calls (k : Nat) (A770 : Option Addr) (c770 : Nat) (l770 : List (S82)) (a1 : Int) (A2 : Option Addr) (c2 : Nat) (l2 : List Int) (r : List Int) (w : World) (hr770 : Kd.C k82 w A770 l770.length l770) (hc770 : l770.length ≤ c770) (hr2 : Kd.C (Kd.int .i64) w A2 l2.length l2) (hc2 : l2.length ≤ c2) (h : beacon_graph_code.f k l770 a1 l2 = some r) :
    Calls Tryd.prog 58 #[.pointer A770, .int .i64 a1, .slice A2 l2.length c2] w fun e w' => ∃ v0_ : Value, e = .returned (v0_) ∧ Kd.R (Kd.int .i64) 3 w' w.heap.size (fun _ => True) v0_ r ∧ Below w.heap.size w w' := by
  have HR770 := Aside0.mk hr770
  have HC770 := Aside0.mk hc770
  clear hr770 hc770
  have HR2 := Aside0.mk hr2
  have HC2 := Aside0.mk hc2
  clear hr2 hc2
  have HB := Aside0.mk (Below.refl w.heap.size w)
  have H : (beacon_graph_code.l0 k l770 a1 ([] : List Int) l2 (l2.length : Int) 0) = some r := h
  clear h
  have H' := Aside0.mk H
  clear H
  go_enter Tryd.func58, Tryd.ntmps58
  go_wp2
  go_loopg [7, 12] k (fun kq v7 v12 w' => ∃ (x7_1 : List Int) (x12_1 : Int), v12 = .int .i64 x12_1 ∧ Aside0 (beacon_graph_code.l0 kq l770 a1 x7_1 l2 (l2.length : Int) x12_1 = some r) ∧ Aside0 (kq ≤ k) ∧ Aside0 (Kd.R (Kd.int .i64) 3 w' w.heap.size (fun _ => True) v7 x7_1) ∧ Aside0 (Below w.heap.size w w'))
  case atStart => exact ⟨(([] : List Int)), (0), (by first | rfl | (simp; done) | (simp [*]; done)), H', ⟨Nat.le_refl _⟩, ⟨by first | exact Kd.R_nil _ _ _ _ _ | exact Kd.N_nil _ _ _ _ _ | exact Kd.V_nil _ _ _ _ _ | exact Kd.Q_nil _ _ _ _ _ | exact Kd.S_nil _ _ _ _ _⟩, ⟨by repeat (first | (with_reducible first | exact HB.out | apply below_alloc | apply pw_below_drewN | apply below_drew1) | exact HB.out)⟩⟩
  case round =>
    clear H'
    try clear c2
    try clear p2
    obtain ⟨x7_1, x12_1, rfl, HA, HK1, HO_7, HB⟩ := hrel
    cases gk with
    | zero => exact absurd HA.out (by simp [beacon_graph_code.l0])
    | succ k1 =>
      have H := HA.out
      clear HA
      simp only [beacon_graph_code.l0] at H
      by_cases c4 : x12_1 < (l2.length : Int)
      · rw [if_pos c4] at H
        have c4b0 : decide (x12_1 < (l2.length : Int)) = true := decide_eq_true c4
        clear c4
        by_cases c5 : 0 ≤ x12_1
        · rw [if_pos c5] at H
          have c5b0 : decide (0 ≤ x12_1) = true := decide_eq_true c5
          clear c5
          by_cases c6 : x12_1 < (l2.length : Int)
          · rw [if_pos c6] at H
            have c6b0 : decide (x12_1 < (l2.length : Int)) = true := decide_eq_true c6
            clear c6
            by_cases c7 : 0 < (l770.length : Int)
            · rw [if_pos c7] at H
              have c7b0 : decide (0 < (l770.length : Int)) = true := decide_eq_true c7
              have c7b1 : decide (0 < l770.length) = true := decide_eq_true (by omega)
              clear c7
              by_cases c8 : 0 ≤ a1
              · rw [if_pos c8] at H
                have c8b0 : decide (0 ≤ a1) = true := decide_eq_true c8
                clear c8
                by_cases c9 : a1 < (((rd_T82 l770 0).f2).length : Int)
                · rw [if_pos c9] at H
                  have c9b0 : decide (a1 < (((rd_T82 l770 0).f2).length : Int)) = true := decide_eq_true c9
                  clear c9
                  by_cases c10 : 0 ≤ (rd l2 x12_1)
                  · rw [if_pos c10] at H
                    have c10b0 : decide (0 ≤ (rd l2 x12_1)) = true := decide_eq_true c10
                    clear c10
                    by_cases c11 : (rd l2 x12_1) < ((rd_L5 ((rd_T82 l770 0).f2) a1).length : Int)
                    · rw [if_pos c11] at H
                      have c11b0 : decide ((rd l2 x12_1) < ((rd_L5 ((rd_T82 l770 0).f2) a1).length : Int)) = true := decide_eq_true c11
                      clear c11
                      by_cases c12 : x7_1.length < 17592186044416
                      · rw [if_pos c12] at H
                        have LMc12 := Aside0.mk c12
                        clear c12
                        obtain ⟨y154, hy154⟩ : ∃ y_ : List Int, y_ = (x7_1 ++ [rd (rd_L5 ((rd_T82 l770 0).f2) a1) (rd l2 x12_1)]) := ⟨_, rfl⟩
                        replace H : (beacon_graph_code.l0 k1 l770 a1 y154 l2 (l2.length : Int) (wrap64 (x12_1 + 1))) = some r := by first | (rw [hy154]; with_reducible exact H) | (have H2_ := (Option.bind_some _ _).symm.trans H; rw [hy154]; with_reducible exact H2_) | (have H2_ := (Option.bind_some _ _).symm.trans H; with_reducible exact H2_) | with_reducible exact H | (rw [hy154]; exact H) | exact H
                        have Ny154 := Aside0.mk hy154
                        clear hy154
                        have H' := Aside0.mk H
                        clear H
                        have p150 : 0 ≤ (x12_1 : Int) := of_decide_eq_true (by first | (with_reducible assumption) | assumption)
                        have q150 : x12_1 < (l2.length : Int) := of_decide_eq_true (by first | (with_reducible assumption) | assumption)
                        obtain ⟨ad150, e150, hx150_0⟩ := Kd.at_int HR2.out x12_1 p150 q150
                        cases e150
                        replace hx150_0 := (HB.out.cell (World.block_lt_of_cell? w _ hx150_0)).trans hx150_0
                        replace p150 := eq_true p150
                        replace q150 := eq_true q150
                        have p151 : 0 ≤ (0 : Int) := (by omega)
                        have q151 : 0 < (l770.length : Int) := of_decide_eq_true (by first | (with_reducible assumption) | assumption)
                        obtain ⟨ad151, A151_1, c151_1, A151_2, c151_2, e151, hx151_0, hx151_1, hx151_2, hl151_1, hi151_1, hl151_2, hi151_2⟩ := at_T82 HR770.out 0 p151 q151
                        cases e151
                        (try simp only [show (0 : Int).toNat = 0 from rfl, Nat.zero_mul, rp_add0] at hx151_0)
                        (try simp only [show (0 : Int).toNat = 0 from rfl, Nat.zero_mul, rp_add0] at hx151_1)
                        (try simp only [show (0 : Int).toNat = 0 from rfl, Nat.zero_mul, rp_add0] at hx151_2)
                        have qi151 : (0 < l770.length) = True := eq_true (by omega)
                        (try rw [show ((0 : Int)).toNat = 0 from rfl] at hx151_0)
                        (try rw [show 0 * 3 = 0 from rfl] at hx151_0)
                        (try rw [Addr.add_zero'] at hx151_0)
                        (try rw [show ((0 : Int)).toNat = 0 from rfl] at hx151_1)
                        (try rw [show 0 * 3 = 0 from rfl] at hx151_1)
                        (try rw [Addr.add_zero'] at hx151_1)
                        (try rw [show ((0 : Int)).toNat = 0 from rfl] at hx151_2)
                        (try rw [show 0 * 3 = 0 from rfl] at hx151_2)
                        (try rw [Addr.add_zero'] at hx151_2)
                        replace hx151_0 := (HB.out.cell (World.block_lt_of_cell? w _ hx151_0)).trans hx151_0
                        replace hx151_1 := (HB.out.cell (World.block_lt_of_cell? w _ hx151_1)).trans hx151_1
                        replace hx151_2 := (HB.out.cell (World.block_lt_of_cell? w _ hx151_2)).trans hx151_2
                        have HR151_1 := Aside0.mk hi151_1
                        have HC151_1 := Aside0.mk hl151_1
                        clear hi151_1 hl151_1
                        have HR151_2 := Aside0.mk hi151_2
                        have HC151_2 := Aside0.mk hl151_2
                        clear hi151_2 hl151_2
                        replace p151 := eq_true p151
                        replace q151 := eq_true q151
                        have p152 : 0 ≤ (a1 : Int) := of_decide_eq_true (by first | (with_reducible assumption) | assumption)
                        have q152 : a1 < (((rd_T82 l770 0).f2).length : Int) := of_decide_eq_true (by first | (with_reducible assumption) | assumption)
                        obtain ⟨ad152, A152_0, c152_0, e152, hx152_0, hl152_0, hi152_0⟩ := at_L5 HR151_2.out a1 p152 q152
                        cases e152
                        replace hx152_0 := (HB.out.cell (World.block_lt_of_cell? w _ hx152_0)).trans hx152_0
                        have HR152_0 := Aside0.mk hi152_0
                        have HC152_0 := Aside0.mk hl152_0
                        clear hi152_0 hl152_0
                        replace p152 := eq_true p152
                        replace q152 := eq_true q152
                        have p153 : 0 ≤ ((rd l2 x12_1) : Int) := of_decide_eq_true (by first | (with_reducible assumption) | assumption)
                        have q153 : (rd l2 x12_1) < ((rd_L5 ((rd_T82 l770 0).f2) a1).length : Int) := of_decide_eq_true (by first | (with_reducible assumption) | assumption)
                        obtain ⟨ad153, e153, hx153_0⟩ := Kd.at_int HR152_0.out (rd l2 x12_1) p153 q153
                        cases e153
                        replace hx153_0 := (HB.out.cell (World.block_lt_of_cell? w _ hx153_0)).trans hx153_0
                        replace p153 := eq_true p153
                        replace q153 := eq_true q153
                        go_wp2_with (first | ((with_reducible refine gate_builtin (b := .append) (xs := #[.tmp 16, .tmp 27]) rfl ?_); at_builtin; refine Kd.R_append (Kd.int .i64) (w0 := w) w.heap.size rfl (.tmp 16) (.tmp 27) 28 3 (.int .i64 0) 8 rfl Tryd.underlying28 info3 rfl (by decide) (by omega) u7 x7_1 (rd (rd_L5 ((rd_T82 l770 0).f2) a1) (rd l2 x12_1)) [.int .i64 (rd (rd_L5 ((rd_T82 l770 0).f2) a1) (rd l2 x12_1))] (fun _ => True) (fun _ => False) rfl rfl ?aP (fun _ hk => hk.elim) ?aF ?aO ?aB ?aS ?aL ?_; (case aP => exact rfl); (case aB => exact (by repeat (first | (with_reducible first | exact HB.out | apply below_alloc | apply pw_below_drewN | apply below_drew1) | exact HB.out))); (case aF => exact (fun _ _ => trivial)); (case aO => exact (by (with_reducible repeat (first | apply Kd.R_alloc | apply Kd.R_drewN | apply Kd.R_drew)); exact HO_7.out)); (case aS => exact (below_size (by repeat (first | (with_reducible first | exact HB.out | apply below_alloc | apply pw_below_drewN | apply below_drew1) | exact HB.out)))); (case aL => have := LMc12.out; omega); intro v155 w13 ho hb hg hat; rw [← Ny154.out] at ho; have n0_ := Aside0.mk (hb); have n1_ := Aside0.mk (ho); clear HB; clear HO_7; have HB := n0_; have HO156 := n1_; clear n0_ n1_; clear ho hb hg hat))
                        go_roundg k1
                        case measure => have := HK1.out; omega
                        case rel => exact ⟨(y154), (wrap64 (x12_1 + 1)), (by first | rfl | (simp; done) | (simp [*]; done)), H', ⟨by have := HK1.out; omega⟩, ⟨by (with_reducible repeat (first | apply Kd.R_alloc | apply Kd.R_drewN | apply Kd.R_drew)); exact HO156.out⟩, ⟨by repeat (first | (with_reducible first | exact HB.out | apply below_alloc | apply pw_below_drewN | apply below_drew1) | exact HB.out)⟩⟩
                      · rw [if_neg c12] at H
                        exact absurd H (by simp)
                    · rw [if_neg c11] at H
                      exact absurd H (by simp)
                  · rw [if_neg c10] at H
                    exact absurd H (by simp)
                · rw [if_neg c9] at H
                  exact absurd H (by simp)
              · rw [if_neg c8] at H
                exact absurd H (by simp)
            · rw [if_neg c7] at H
              exact absurd H (by simp)
          · rw [if_neg c6] at H
            exact absurd H (by simp)
        · rw [if_neg c5] at H
          exact absurd H (by simp)
      · rw [if_neg c4] at H
        have c4b0 : decide (x12_1 < (l2.length : Int)) = false := decide_eq_false c4
        clear c4
        obtain rfl := Option.some.inj H
        go_wp2
        go_ret
        exact ⟨_, by first | rfl | (simp [errW_none, errW_some] <;> rfl) | (simp [*, errW_none, errW_some] <;> rfl), by (with_reducible repeat (first | apply Kd.R_alloc | apply Kd.R_drewN | apply Kd.R_drew)); exact HO_7.out, by repeat (first | (with_reducible first | exact HB.out | apply below_alloc | apply pw_below_drewN | apply below_drew1) | exact HB.out)⟩

end Go.Proofs.YtbeimdngghedjaaDoor.P
