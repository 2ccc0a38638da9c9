-- written by a program of this session
import Derived.Test.YtbeimdngghedjaaDoorPK
import Derived.Test.YtbeimdngghedjaaDoorPF57
import Derived.Test.YtbeimdngghedjaaDoorPF58
import Derived.Test.YtbeimdngghedjaaDoorBZ
namespace Go.Proofs.YtbeimdngghedjaaDoor.P
open Go.RowKit Go.Proofs.YtbeimdngghedjaaDoorW.PrintWords Go.Proofs.YtbeimdngghedjaaDoorW.PrintLast Go.Proofs.YtbeimdngghedjaaDoorW.PrintMore
attribute [local go_sem] max2_int min2_int max_two min_two max_three min_three max_four min_four   -- for this text's walks alone
set_option linter.unusedVariables false
set_option linter.unusedSimpArgs false

/-! ### beacon_graph_confused: function 59 -/
mutual
def beacon_graph_confused.l0 : Nat → List (S82) → List Int → Int → Int → Option (Int × Int)
  | 0, _, _, _, _ => none
  | k + 1, x0, x1, x10, x11 => if x11 < x10 then (beacon_graph_confused.l1 k x0 x1 x11 (wrap64 (x11 + 1)) x10 x11) else (some ((-1), (-1)))
def beacon_graph_confused.l1 : Nat → List (S82) → List Int → Int → Int → Int → Int → Option (Int × Int)
  | 0, _, _, _, _, _, _ => none
  | k + 1, x0, x1, x5, x6, x10, x11 => if 0 < (x0.length : Int) then (if x6 < ((rd_T82 x0 0).f0) then ((beacon_graph_code.f k x0 x5 x1).bind fun t289 => ((beacon_graph_code.f k x0 x6 x1).bind fun t292 => ((slices_Equal_int_int.f k t289 t292).bind fun t295 => (if t295 = true then (some (x5, x6)) else (beacon_graph_confused.l1 k x0 x1 x5 (wrap64 (x6 + 1)) x10 x11))))) else (beacon_graph_confused.l0 k x0 x1 x10 (wrap64 (x11 + 1)))) else (none)
end
def beacon_graph_confused.f (k : Nat) (l770 : List (S82)) (l1 : List Int) : Option (Int × Int) := if 0 < (l770.length : Int) then (beacon_graph_confused.l0 k l770 l1 ((rd_T82 l770 0).f0) 0) else (none)
theorem beacon_graph_confused.mono_l : ∀ k, (∀ y0 y1 y2 y3, LeO (beacon_graph_confused.l0 k y0 y1 y2 y3) (beacon_graph_confused.l0 (k + 1) y0 y1 y2 y3)) ∧ (∀ y0 y1 y2 y3 y4 y5, LeO (beacon_graph_confused.l1 k y0 y1 y2 y3 y4 y5) (beacon_graph_confused.l1 (k + 1) y0 y1 y2 y3 y4 y5))
  | 0 => ⟨fun _ _ _ _ r h => by simp [beacon_graph_confused.l0] at h, fun _ _ _ _ _ _ r h => by simp [beacon_graph_confused.l1] at h⟩
  | k + 1 => by
    obtain ⟨ih0, ih1⟩ := beacon_graph_confused.mono_l k
    refine ⟨?_, ?_⟩
    · intro y0 y1 y2 y3
      unfold beacon_graph_confused.l0
      repeat' first
      | (with_reducible exact ih0 _ _ _ _)
      | (with_reducible exact ih1 _ _ _ _ _ _)
      | (with_reducible exact beacon_graph_code.mono _ _ _ _)
      | (with_reducible exact slices_Equal_int_int.mono _ _ _)
      | (with_reducible exact LeO.refl _)
      | (with_reducible exact LeO.none _)
      | (with_reducible refine LeO.ite ?_ ?_)
      | (with_reducible refine LeO.bind ?_ (fun _ => ?_))
      | exact ih0 _ _ _ _
      | exact ih1 _ _ _ _ _ _
      | exact beacon_graph_code.mono _ _ _ _
      | exact slices_Equal_int_int.mono _ _ _
      | exact LeO.none _
      | refine LeO.ite ?_ ?_
      | refine LeO.bind ?_ (fun _ => ?_)
    · intro y0 y1 y2 y3 y4 y5
      unfold beacon_graph_confused.l1
      repeat' first
      | (with_reducible exact ih0 _ _ _ _)
      | (with_reducible exact ih1 _ _ _ _ _ _)
      | (with_reducible exact beacon_graph_code.mono _ _ _ _)
      | (with_reducible exact slices_Equal_int_int.mono _ _ _)
      | (with_reducible exact LeO.refl _)
      | (with_reducible exact LeO.none _)
      | (with_reducible refine LeO.ite ?_ ?_)
      | (with_reducible refine LeO.bind ?_ (fun _ => ?_))
      | exact ih0 _ _ _ _
      | exact ih1 _ _ _ _ _ _
      | exact beacon_graph_code.mono _ _ _ _
      | exact slices_Equal_int_int.mono _ _ _
      | exact LeO.none _
      | refine LeO.ite ?_ ?_
      | refine LeO.bind ?_ (fun _ => ?_)
theorem beacon_graph_confused.mono : ∀ a0 a1 k, LeO (beacon_graph_confused.f k a0 a1) (beacon_graph_confused.f (k + 1) a0 a1) := by
  intro a0 a1 k
  obtain ⟨ih0, ih1⟩ := beacon_graph_confused.mono_l k
  unfold beacon_graph_confused.f
  repeat' first
      | (with_reducible exact ih0 _ _ _ _)
      | (with_reducible exact ih1 _ _ _ _ _ _)
      | (with_reducible exact beacon_graph_code.mono _ _ _ _)
      | (with_reducible exact slices_Equal_int_int.mono _ _ _)
      | (with_reducible exact LeO.refl _)
      | (with_reducible exact LeO.none _)
      | (with_reducible refine LeO.ite ?_ ?_)
      | (with_reducible refine LeO.bind ?_ (fun _ => ?_))
      | exact ih0 _ _ _ _
      | exact ih1 _ _ _ _ _ _
      | exact beacon_graph_code.mono _ _ _ _
      | exact slices_Equal_int_int.mono _ _ _
      | exact LeO.none _
      | refine LeO.ite ?_ ?_
      | refine LeO.bind ?_ (fun _ => ?_)
set_option maxHeartbeats 8000000 in
set_option maxRecDepth 100000 in
theorem beacon_graph_confused.calls (k : Nat) (A770 : Option Addr) (c770 : Nat) (l770 : List (S82)) (A1 : Option Addr) (c1 : Nat) (l1 : List Int) (r1 : Int) (r2 : Int) (w : World) (hr770 : Kd.C k82 w A770 l770.length l770) (hc770 : l770.length ≤ c770) (hr1 : Kd.C (Kd.int .i64) w A1 l1.length l1) (hc1 : l1.length ≤ c1) (hdoor : Door w) (h : beacon_graph_confused.f k l770 l1 = some (r1, r2)) :
    Calls Tryd.prog 59 #[.pointer A770, .slice A1 l1.length c1] w fun e w' => e = .returned (.agg #[.int .i64 r1, .int .i64 r2]) ∧ Below w.heap.size w w' := by
  have HDOOR := Aside0.mk hdoor
  clear hdoor
  have hu47 := Tryd.underlying47
  have HR770 := Aside0.mk hr770
  have HC770 := Aside0.mk hc770
  clear hr770 hc770
  have HR1 := Aside0.mk hr1
  have HC1 := Aside0.mk hc1
  clear hr1 hc1
  have HB := Aside0.mk (Below.refl w.heap.size w)
  have H : (if 0 < (l770.length : Int) then (beacon_graph_confused.l0 k l770 l1 ((rd_T82 l770 0).f0) 0) else (none)) = some (r1, r2) := h
  clear h
  by_cases c3 : 0 < (l770.length : Int)
  · rw [if_pos c3] at H
    have c3b0 : decide (0 < (l770.length : Int)) = true := decide_eq_true c3
    have c3b1 : decide (0 < l770.length) = true := decide_eq_true (by omega)
    clear c3
    have H' := Aside0.mk H
    clear H
    go_enter Tryd.func59, Tryd.ntmps59
    go_wp2_with (first | ((with_reducible refine gate_dst (N := 4) rfl ?_); refine box_event ?hg (N := 4) ?hd (cs := #[.int .i64 0, .int .i64 0]) (t := 47) ?hr ?_; (case hd => rfl); (case hg => rfl); (case hr => first | (go_simp; done) | (go_simp; rfl)); intro gb286 hg w4 hbox hb; have n0_ := Aside0.mk (below_step (by repeat (first | (with_reducible first | exact HB.out | apply below_alloc | apply pw_below_drewN | apply below_drew1) | exact HB.out)) hb); have n1_ := Aside0.mk (hbox); have n2_ := Aside0.mk ((by rw [hg]; exact (below_size (by repeat (first | (with_reducible first | exact HB.out | apply below_alloc | apply pw_below_drewN | apply below_drew1) | exact HB.out))) : w.heap.size ≤ gb286)); have n3_ := Aside0.mk ((by rw [hg]; exact (below_size (by repeat (first | (with_reducible first | exact HB.out | apply below_alloc | apply pw_below_drewN | apply below_drew1) | exact HB.out))) : w.heap.size ≤ gb286)); clear HB; have HB := n0_; have BK286 := n1_; have GW286 := n2_; have GE286 := n3_; clear n0_ n1_ n2_ n3_; clear hb hbox hg; have p287 : 0 ≤ (0 : Int) := (by omega); have q287 : 0 < (l770.length : Int) := of_decide_eq_true (by first | (with_reducible assumption) | assumption); obtain ⟨ad287, A287_1, c287_1, A287_2, c287_2, e287, hx287_0, hx287_1, hx287_2, hl287_1, hi287_1, hl287_2, hi287_2⟩ := at_T82 HR770.out 0 p287 q287; cases e287; (try simp only [show (0 : Int).toNat = 0 from rfl, Nat.zero_mul, rp_add0] at hx287_0); (try simp only [show (0 : Int).toNat = 0 from rfl, Nat.zero_mul, rp_add0] at hx287_1); (try simp only [show (0 : Int).toNat = 0 from rfl, Nat.zero_mul, rp_add0] at hx287_2); have qi287 : (0 < l770.length) = True := eq_true (by omega); (try rw [show ((0 : Int)).toNat = 0 from rfl] at hx287_0); (try rw [show 0 * 3 = 0 from rfl] at hx287_0); (try rw [Addr.add_zero'] at hx287_0); (try rw [show ((0 : Int)).toNat = 0 from rfl] at hx287_1); (try rw [show 0 * 3 = 0 from rfl] at hx287_1); (try rw [Addr.add_zero'] at hx287_1); (try rw [show ((0 : Int)).toNat = 0 from rfl] at hx287_2); (try rw [show 0 * 3 = 0 from rfl] at hx287_2); (try rw [Addr.add_zero'] at hx287_2); replace hx287_0 := (HB.out.cell (World.block_lt_of_cell? w _ hx287_0)).trans hx287_0; replace hx287_1 := (HB.out.cell (World.block_lt_of_cell? w _ hx287_1)).trans hx287_1; replace hx287_2 := (HB.out.cell (World.block_lt_of_cell? w _ hx287_2)).trans hx287_2; have HR287_1 := Aside0.mk hi287_1; have HC287_1 := Aside0.mk hl287_1; clear hi287_1 hl287_1; have HR287_2 := Aside0.mk hi287_2; have HC287_2 := Aside0.mk hl287_2; clear hi287_2 hl287_2; replace p287 := eq_true p287; replace q287 := eq_true q287))
    go_loopg [11] k (fun kq v11 w' => ∃ (x11_1 : Int) (x287000_1 : Int) (x287001_1 : Int), v11 = .int .i64 x11_1 ∧ Aside0 (beacon_graph_confused.l0 kq l770 l1 ((rd_T82 l770 0).f0) x11_1 = some (r1, r2)) ∧ Aside0 (kq ≤ k) ∧ Aside0 (w'.heap[gb286]? = some (.cells #[.int .i64 x287000_1, .int .i64 x287001_1] 47 (0, 0))) ∧ Aside0 (Below w.heap.size w w'))
    case atStart => exact ⟨(0), (0), (0), (by first | rfl | (simp; done) | (simp [*]; done)), H', ⟨Nat.le_refl _⟩, ⟨by (with_reducible repeat (first | refine blk_drewN ?_ _ | refine blk_drew ?_ | refine blk_alloc ?_ _)); exact BK286.out⟩, ⟨by repeat (first | (with_reducible first | exact HB.out | apply below_alloc | apply pw_below_drewN | apply below_drew1 | refine below_set ?_ GE286.out) | exact HB.out)⟩⟩
    case round =>
      clear H'
      try clear c1
      try clear c2
      try clear p2
      try clear q2
      try clear hx2
      try clear qi2
      try clear c3
      try clear c3b0
      try clear c3b1
      try clear hx287_0
      try clear hx287_1
      try clear hx287_2
      try clear p287
      try clear q287
      obtain ⟨x11_1, x287000_1, x287001_1, rfl, HA, HK1, BK286, HB⟩ := hrel
      have hdo0 := (Door.below HDOOR.out HB.out).c0
      have hdo1 := (Door.below HDOOR.out HB.out).c1
      cases gk with
      | zero => exact absurd HA.out (by simp [beacon_graph_confused.l0])
      | succ k1 =>
        have H := HA.out
        clear HA
        simp only [beacon_graph_confused.l0] at H
        by_cases c5 : x11_1 < ((rd_T82 l770 0).f0)
        · rw [if_pos c5] at H
          have c5b0 : decide (x11_1 < ((rd_T82 l770 0).f0)) = true := decide_eq_true c5
          clear c5
          have H' := Aside0.mk H
          clear H
          go_wp2
          go_loopg [6] k1 (fun kq v6 w' => ∃ (x6_2 : Int) (x287000_2 : Int) (x287001_2 : Int), v6 = .int .i64 x6_2 ∧ Aside0 (beacon_graph_confused.l1 kq l770 l1 x11_1 x6_2 ((rd_T82 l770 0).f0) x11_1 = some (r1, r2)) ∧ Aside0 (kq ≤ k1) ∧ Aside0 (w'.heap[gb286]? = some (.cells #[.int .i64 x287000_2, .int .i64 x287001_2] 47 (0, 0))) ∧ Aside0 (Below w.heap.size w w'))
          case atStart => exact ⟨(wrap64 (x11_1 + 1)), (x287000_1), (x287001_1), (by first | rfl | (simp; done) | (simp [*]; done)), H', ⟨Nat.le_refl _⟩, ⟨by (with_reducible repeat (first | refine blk_drewN ?_ _ | refine blk_drew ?_ | refine blk_alloc ?_ _)); exact BK286.out⟩, ⟨by repeat (first | (with_reducible first | exact HB.out | apply below_alloc | apply pw_below_drewN | apply below_drew1 | refine below_set ?_ GE286.out) | exact HB.out)⟩⟩
          case round =>
            clear H'
            try clear c1
            try clear c2
            try clear p2
            try clear q2
            try clear hx2
            try clear qi2
            try clear c3
            try clear c3b0
            try clear c3b1
            try clear c5
            try clear c5b0
            try clear hx287_0
            try clear hx287_1
            try clear hx287_2
            try clear p2
            try clear p287
            try clear q2
            try clear q287
            obtain ⟨x6_2, x287000_2, x287001_2, rfl, HA, HK2, BK286, HB⟩ := hrel
            have hdo0 := (Door.below HDOOR.out HB.out).c0
            have hdo1 := (Door.below HDOOR.out HB.out).c1
            cases gk with
            | zero => exact absurd HA.out (by simp [beacon_graph_confused.l1])
            | succ k2 =>
              have H := HA.out
              clear HA
              simp only [beacon_graph_confused.l1] at H
              by_cases c6 : 0 < (l770.length : Int)
              · rw [if_pos c6] at H
                have c6b0 : decide (0 < (l770.length : Int)) = true := decide_eq_true c6
                have c6b1 : decide (0 < l770.length) = true := decide_eq_true (by omega)
                clear c6
                by_cases c7 : x6_2 < ((rd_T82 l770 0).f0)
                · rw [if_pos c7] at H
                  have c7b0 : decide (x6_2 < ((rd_T82 l770 0).f0)) = true := decide_eq_true c7
                  clear c7
                  replace H := Option.bind_eq_some_iff.mp H
                  obtain ⟨t289, A80, H⟩ := H
                  replace H : ((beacon_graph_code.f k2 l770 x6_2 l1).bind fun t292 => ((slices_Equal_int_int.f k2 t289 t292).bind fun t295 => (if t295 = true then (some (x11_1, x6_2)) else (beacon_graph_confused.l1 k2 l770 l1 x11_1 (wrap64 (x6_2 + 1)) ((rd_T82 l770 0).f0) x11_1)))) = some (r1, r2) := H
                  have A8 := Aside0.mk A80
                  clear A80
                  replace H := Option.bind_eq_some_iff.mp H
                  obtain ⟨t292, A90, H⟩ := H
                  replace H : ((slices_Equal_int_int.f k2 t289 t292).bind fun t295 => (if t295 = true then (some (x11_1, x6_2)) else (beacon_graph_confused.l1 k2 l770 l1 x11_1 (wrap64 (x6_2 + 1)) ((rd_T82 l770 0).f0) x11_1))) = some (r1, r2) := H
                  have A9 := Aside0.mk A90
                  clear A90
                  replace H := Option.bind_eq_some_iff.mp H
                  obtain ⟨t295, A100, H⟩ := H
                  replace H : (if t295 = true then (some (x11_1, x6_2)) else (beacon_graph_confused.l1 k2 l770 l1 x11_1 (wrap64 (x6_2 + 1)) ((rd_T82 l770 0).f0) x11_1)) = some (r1, r2) := H
                  have A10 := Aside0.mk A100
                  clear A100
                  by_cases c11 : t295 = true
                  · subst c11
                    have H1 : (some (x11_1, x6_2)) = some (r1, r2) := by rw [if_pos rfl] at H; exact H
                    clear H
                    have H := H1
                    clear H1
                    simp only [Option.some.injEq, Prod.mk.injEq] at H
                    obtain ⟨rfl, rfl⟩ := H
                    have p288 : 0 ≤ (0 : Int) := (by omega)
                    have q288 : 0 < (l770.length : Int) := of_decide_eq_true (by first | (with_reducible assumption) | assumption)
                    obtain ⟨ad288, A288_1, c288_1, A288_2, c288_2, e288, hx288_0, hx288_1, hx288_2, hl288_1, hi288_1, hl288_2, hi288_2⟩ := at_T82 HR770.out 0 p288 q288
                    obtain rfl : ad287 = ad288 := (by injection e288)
                    (try simp only [show (0 : Int).toNat = 0 from rfl, Nat.zero_mul, rp_add0] at hx288_0)
                    (try simp only [show (0 : Int).toNat = 0 from rfl, Nat.zero_mul, rp_add0] at hx288_1)
                    (try simp only [show (0 : Int).toNat = 0 from rfl, Nat.zero_mul, rp_add0] at hx288_2)
                    have qi288 : (0 < l770.length) = True := eq_true (by omega)
                    (try rw [show ((0 : Int)).toNat = 0 from rfl] at hx288_0)
                    (try rw [show 0 * 3 = 0 from rfl] at hx288_0)
                    (try rw [Addr.add_zero'] at hx288_0)
                    (try rw [show ((0 : Int)).toNat = 0 from rfl] at hx288_1)
                    (try rw [show 0 * 3 = 0 from rfl] at hx288_1)
                    (try rw [Addr.add_zero'] at hx288_1)
                    (try rw [show ((0 : Int)).toNat = 0 from rfl] at hx288_2)
                    (try rw [show 0 * 3 = 0 from rfl] at hx288_2)
                    (try rw [Addr.add_zero'] at hx288_2)
                    replace hx288_0 := (HB.out.cell (World.block_lt_of_cell? w _ hx288_0)).trans hx288_0
                    replace hx288_1 := (HB.out.cell (World.block_lt_of_cell? w _ hx288_1)).trans hx288_1
                    replace hx288_2 := (HB.out.cell (World.block_lt_of_cell? w _ hx288_2)).trans hx288_2
                    have HR288_1 := Aside0.mk hi288_1
                    have HC288_1 := Aside0.mk hl288_1
                    clear hi288_1 hl288_1
                    have HR288_2 := Aside0.mk hi288_2
                    have HC288_2 := Aside0.mk hl288_2
                    clear hi288_2 hl288_2
                    replace p288 := eq_true p288
                    replace q288 := eq_true q288
                    go_wp2_with (first | ((with_reducible refine gate_callee (f := 58) rfl ?_); refine goesL_ (some 27) rfl rfl Tryd.func58 (by kernel_rfl) rfl #[.pointer (some ad287), .int .i64 x11_1, .slice A1 l1.length c1] rfl (by (try simp only [List.map_toArray, List.map_cons, List.map_nil]); first | done | rfl | (simp only [List.length_drop, List.length_take]; rfl)) ?_; (with_reducible refine (beacon_graph_code.calls k2 _ c770 l770 x11_1 _ _ l1 t289 _ ?side1 ?side2 ?side3 ?side4 A8.out).mono ?_); (case side1 => repeat (first | exact (Kd.C_below HR770.out HB.out) | (with_reducible refine Kd.C_alloc ?_ _) | (with_reducible refine Kd.C_drewN ?_ _) | (with_reducible refine Kd.C_drew ?_))); (case side2 => exact HC770.out); (case side3 => repeat (first | exact (Kd.C_below HR1.out HB.out) | (with_reducible refine Kd.C_alloc ?_ _) | (with_reducible refine Kd.C_drewN ?_ _) | (with_reducible refine Kd.C_drew ?_))); (case side4 => exact HC1.out); rintro e w12 ⟨v290, rfl, ho0, hb⟩; refine ⟨_, rfl, ?_⟩; have n0_ := Aside0.mk (Kd.R_lower ho0 (below_size (by repeat (first | (with_reducible first | exact HB.out | apply below_alloc | apply pw_below_drewN | apply below_drew1 | refine below_set ?_ GE286.out) | exact HB.out)))); have n1_ := Aside0.mk (blk_below (g := gb286) (o := .cells #[.int .i64 x287000_2, .int .i64 x287001_2] 47 (0, 0)) (by (with_reducible repeat (first | refine blk_drewN ?_ _ | refine blk_drew ?_ | refine blk_alloc ?_ _)); exact BK286.out) hb); have n2_ := Aside0.mk (below_step (by repeat (first | (with_reducible first | exact HB.out | apply below_alloc | apply pw_below_drewN | apply below_drew1 | refine below_set ?_ GE286.out) | exact HB.out)) hb); clear BK286; clear HB; have HO291 := n0_; have BK286 := n1_; have HB := n2_; clear n0_ n1_ n2_; (try clear hb); (try clear hb2); (try clear hk); (try clear hi); (try clear ho0)) | ((with_reducible refine gate_callee (f := 58) rfl ?_); refine goesL_ (some 31) rfl rfl Tryd.func58 (by kernel_rfl) rfl #[.pointer (some ad287), .int .i64 x6_2, .slice A1 l1.length c1] rfl (by (try simp only [List.map_toArray, List.map_cons, List.map_nil]); first | done | rfl | (simp only [List.length_drop, List.length_take]; rfl)) ?_; (with_reducible refine (beacon_graph_code.calls k2 _ c770 l770 x6_2 _ _ l1 t292 _ ?side1 ?side2 ?side3 ?side4 A9.out).mono ?_); (case side1 => repeat (first | exact (Kd.C_below HR770.out HB.out) | (with_reducible refine Kd.C_alloc ?_ _) | (with_reducible refine Kd.C_drewN ?_ _) | (with_reducible refine Kd.C_drew ?_))); (case side2 => exact HC770.out); (case side3 => repeat (first | exact (Kd.C_below HR1.out HB.out) | (with_reducible refine Kd.C_alloc ?_ _) | (with_reducible refine Kd.C_drewN ?_ _) | (with_reducible refine Kd.C_drew ?_))); (case side4 => exact HC1.out); rintro e w13 ⟨v293, rfl, ho0, hb⟩; refine ⟨_, rfl, ?_⟩; have n0_ := Aside0.mk (Kd.R_elder' (by (with_reducible repeat (first | apply Kd.R_alloc | apply Kd.R_drewN | apply Kd.R_drew)); exact HO291.out) (Kd.R_base ho0) hb); have n1_ := Aside0.mk (Kd.R_lower (Kd.R_new' ho0 (Kd.R_lt (by (with_reducible repeat (first | apply Kd.R_alloc | apply Kd.R_drewN | apply Kd.R_drew)); exact HO291.out))) (below_size (by repeat (first | (with_reducible first | exact HB.out | apply below_alloc | apply pw_below_drewN | apply below_drew1 | refine below_set ?_ GE286.out) | exact HB.out)))); have n2_ := Aside0.mk (blk_below (g := gb286) (o := .cells #[.int .i64 x287000_2, .int .i64 x287001_2] 47 (0, 0)) (by (with_reducible repeat (first | refine blk_drewN ?_ _ | refine blk_drew ?_ | refine blk_alloc ?_ _)); exact BK286.out) hb); have n3_ := Aside0.mk (below_step (by repeat (first | (with_reducible first | exact HB.out | apply below_alloc | apply pw_below_drewN | apply below_drew1 | refine below_set ?_ GE286.out) | exact HB.out)) hb); clear HO291; clear BK286; clear HB; have HO291 := n0_; have HO294 := n1_; have BK286 := n2_; have HB := n3_; clear n0_ n1_ n2_ n3_; (try clear hb); (try clear hb2); (try clear hk); (try clear hi); (try clear ho0); obtain ⟨Ao14, co14, eo14⟩ := Kd.R_slice HO291.out; subst eo14; obtain ⟨Ao15, co15, eo15⟩ := Kd.R_slice HO294.out; subst eo15) | ((with_reducible refine gate_callee (f := 57) rfl ?_); refine goesL_ (some 32) rfl rfl Tryd.func57 (by kernel_rfl) rfl #[.slice Ao14 t289.length co14, .slice Ao15 t292.length co15] rfl (by (try simp only [List.map_toArray, List.map_cons, List.map_nil]); first | done | rfl | (simp only [List.length_drop, List.length_take]; rfl)) ?_; (with_reducible refine (slices_Equal_int_int.calls k2 _ _ t289 _ _ t292 true _ ?side1 ?side2 ?side3 ?side4 A10.out).mono ?_); (case side1 => repeat (first | exact (Kd.R_reads' HO291.out).2.2 | (with_reducible refine Kd.C_alloc ?_ _) | (with_reducible refine Kd.C_drewN ?_ _) | (with_reducible refine Kd.C_drew ?_))); (case side2 => exact (Kd.R_reads' HO291.out).2.1); (case side3 => repeat (first | exact (Kd.R_reads' HO294.out).2.2 | (with_reducible refine Kd.C_alloc ?_ _) | (with_reducible refine Kd.C_drewN ?_ _) | (with_reducible refine Kd.C_drew ?_))); (case side4 => exact (Kd.R_reads' HO294.out).2.1); rintro e w' ⟨rfl, ⟨nd, rfl⟩⟩; refine ⟨_, rfl, ?_⟩; (try (rw [drewN_self w13]; generalize hq_ : World.drewN w13 _ = w13; have n0_ : Aside0 (Kd.R (Kd.int .i64) 3 w13 w.heap.size (fun k_ => some k_ ≠ (.slice Ao15 t292.length co15 : Value).ownBlock) (.slice Ao14 t289.length co14) t289) := ⟨by rw [← hq_]; exact (by (with_reducible repeat (first | apply Kd.R_alloc | apply Kd.R_drewN | apply Kd.R_drew)); exact Kd.R_mono HO291.out (fun _ hk => hk.2))⟩; have n1_ : Aside0 (Kd.R (Kd.int .i64) 3 w13 w.heap.size (fun k_ => some k_ ≠ (.slice Ao14 t289.length co14 : Value).ownBlock) (.slice Ao15 t292.length co15) t292) := ⟨by rw [← hq_]; exact (by (with_reducible repeat (first | apply Kd.R_alloc | apply Kd.R_drewN | apply Kd.R_drew)); exact Kd.R_mono HO294.out (fun _ hk => hk.2))⟩; have n2_ : Aside0 (w13.heap[gb286]? = some (.cells #[.int .i64 x287000_2, .int .i64 x287001_2] 47 (0, 0))) := ⟨by rw [← hq_]; exact (by (with_reducible repeat (first | refine blk_drewN ?_ _ | refine blk_drew ?_ | refine blk_alloc ?_ _)); exact BK286.out)⟩; have n3_ : Aside0 (Below w.heap.size w w13) := ⟨by rw [← hq_]; exact (by repeat (first | (with_reducible first | exact HB.out | apply below_alloc | apply pw_below_drewN | apply below_drew1 | refine below_set ?_ GE286.out) | exact HB.out))⟩; clear HO291 HO294 BK286 HB hq_; have HO291 := n0_; have HO294 := n1_; have BK286 := n2_; have HB := n3_; clear n0_ n1_ n2_ n3_)); have hcz16_0 : w13.cell? ⟨gb286, 0, none⟩ = some (.int .i64 x287000_2) := (blk_cell BK286.out 0).trans rfl; have hcz16_1 : w13.cell? ⟨gb286, 1, none⟩ = some (.int .i64 x287001_2) := (blk_cell BK286.out 1).trans rfl; have hfz16_0 := blk_frozen BK286.out 0; have hfz16_1 := blk_frozen BK286.out 1))
                    refine bodyPost_ret (results_cell_row rfl _ _ gb286 47 #[.int .i64 x11_1, .int .i64 x6_2] (0, 0) _ rfl (by (with_reducible repeat (first | refine blk_drewN ?_ _ | refine blk_drew ?_ | refine blk_alloc ?_ _)); refine blk_put (cs := #[.int .i64 x11_1, .int .i64 x287001_2]) ?_ 1 _ rfl; (with_reducible repeat (first | refine blk_drewN ?_ _ | refine blk_drew ?_ | refine blk_alloc ?_ _)); refine blk_put (cs := #[.int .i64 x287000_2, .int .i64 x287001_2]) ?_ 0 _ rfl; (with_reducible repeat (first | refine blk_drewN ?_ _ | refine blk_drew ?_ | refine blk_alloc ?_ _)); exact BK286.out) Tryd.underlying47 rfl (by kernel_rfl)) rfl ?_
                    exact ⟨by first | rfl | (simp [errW_none, errW_some] <;> rfl) | (simp [*, errW_none, errW_some] <;> rfl), by repeat (first | (with_reducible first | exact HB.out | apply below_alloc | apply pw_below_drewN | apply below_drew1 | refine below_set ?_ GE286.out) | exact HB.out)⟩
                  · replace c11 := Bool.eq_false_iff.mpr c11
                    subst c11
                    have H1 : (beacon_graph_confused.l1 k2 l770 l1 x11_1 (wrap64 (x6_2 + 1)) ((rd_T82 l770 0).f0) x11_1) = some (r1, r2) := by rw [if_neg (show ¬ (false = true) by decide)] at H; exact H
                    clear H
                    have H := H1
                    clear H1
                    have H' := Aside0.mk H
                    clear H
                    have p288 : 0 ≤ (0 : Int) := (by omega)
                    have q288 : 0 < (l770.length : Int) := of_decide_eq_true (by first | (with_reducible assumption) | assumption)
                    obtain ⟨ad288, A288_1, c288_1, A288_2, c288_2, e288, hx288_0, hx288_1, hx288_2, hl288_1, hi288_1, hl288_2, hi288_2⟩ := at_T82 HR770.out 0 p288 q288
                    obtain rfl : ad287 = ad288 := (by injection e288)
                    (try simp only [show (0 : Int).toNat = 0 from rfl, Nat.zero_mul, rp_add0] at hx288_0)
                    (try simp only [show (0 : Int).toNat = 0 from rfl, Nat.zero_mul, rp_add0] at hx288_1)
                    (try simp only [show (0 : Int).toNat = 0 from rfl, Nat.zero_mul, rp_add0] at hx288_2)
                    have qi288 : (0 < l770.length) = True := eq_true (by omega)
                    (try rw [show ((0 : Int)).toNat = 0 from rfl] at hx288_0)
                    (try rw [show 0 * 3 = 0 from rfl] at hx288_0)
                    (try rw [Addr.add_zero'] at hx288_0)
                    (try rw [show ((0 : Int)).toNat = 0 from rfl] at hx288_1)
                    (try rw [show 0 * 3 = 0 from rfl] at hx288_1)
                    (try rw [Addr.add_zero'] at hx288_1)
                    (try rw [show ((0 : Int)).toNat = 0 from rfl] at hx288_2)
                    (try rw [show 0 * 3 = 0 from rfl] at hx288_2)
                    (try rw [Addr.add_zero'] at hx288_2)
                    replace hx288_0 := (HB.out.cell (World.block_lt_of_cell? w _ hx288_0)).trans hx288_0
                    replace hx288_1 := (HB.out.cell (World.block_lt_of_cell? w _ hx288_1)).trans hx288_1
                    replace hx288_2 := (HB.out.cell (World.block_lt_of_cell? w _ hx288_2)).trans hx288_2
                    have HR288_1 := Aside0.mk hi288_1
                    have HC288_1 := Aside0.mk hl288_1
                    clear hi288_1 hl288_1
                    have HR288_2 := Aside0.mk hi288_2
                    have HC288_2 := Aside0.mk hl288_2
                    clear hi288_2 hl288_2
                    replace p288 := eq_true p288
                    replace q288 := eq_true q288
                    go_wp2_with (first | ((with_reducible refine gate_callee (f := 58) rfl ?_); refine goesL_ (some 27) rfl rfl Tryd.func58 (by kernel_rfl) rfl #[.pointer (some ad287), .int .i64 x11_1, .slice A1 l1.length c1] rfl (by (try simp only [List.map_toArray, List.map_cons, List.map_nil]); first | done | rfl | (simp only [List.length_drop, List.length_take]; rfl)) ?_; (with_reducible refine (beacon_graph_code.calls k2 _ c770 l770 x11_1 _ _ l1 t289 _ ?side1 ?side2 ?side3 ?side4 A8.out).mono ?_); (case side1 => repeat (first | exact (Kd.C_below HR770.out HB.out) | (with_reducible refine Kd.C_alloc ?_ _) | (with_reducible refine Kd.C_drewN ?_ _) | (with_reducible refine Kd.C_drew ?_))); (case side2 => exact HC770.out); (case side3 => repeat (first | exact (Kd.C_below HR1.out HB.out) | (with_reducible refine Kd.C_alloc ?_ _) | (with_reducible refine Kd.C_drewN ?_ _) | (with_reducible refine Kd.C_drew ?_))); (case side4 => exact HC1.out); rintro e w17 ⟨v290, rfl, ho0, hb⟩; refine ⟨_, rfl, ?_⟩; have n0_ := Aside0.mk (Kd.R_lower ho0 (below_size (by repeat (first | (with_reducible first | exact HB.out | apply below_alloc | apply pw_below_drewN | apply below_drew1 | refine below_set ?_ GE286.out) | exact HB.out)))); have n1_ := Aside0.mk (blk_below (g := gb286) (o := .cells #[.int .i64 x287000_2, .int .i64 x287001_2] 47 (0, 0)) (by (with_reducible repeat (first | refine blk_drewN ?_ _ | refine blk_drew ?_ | refine blk_alloc ?_ _)); exact BK286.out) hb); have n2_ := Aside0.mk (below_step (by repeat (first | (with_reducible first | exact HB.out | apply below_alloc | apply pw_below_drewN | apply below_drew1 | refine below_set ?_ GE286.out) | exact HB.out)) hb); clear BK286; clear HB; have HO291 := n0_; have BK286 := n1_; have HB := n2_; clear n0_ n1_ n2_; (try clear hb); (try clear hb2); (try clear hk); (try clear hi); (try clear ho0)) | ((with_reducible refine gate_callee (f := 58) rfl ?_); refine goesL_ (some 31) rfl rfl Tryd.func58 (by kernel_rfl) rfl #[.pointer (some ad287), .int .i64 x6_2, .slice A1 l1.length c1] rfl (by (try simp only [List.map_toArray, List.map_cons, List.map_nil]); first | done | rfl | (simp only [List.length_drop, List.length_take]; rfl)) ?_; (with_reducible refine (beacon_graph_code.calls k2 _ c770 l770 x6_2 _ _ l1 t292 _ ?side1 ?side2 ?side3 ?side4 A9.out).mono ?_); (case side1 => repeat (first | exact (Kd.C_below HR770.out HB.out) | (with_reducible refine Kd.C_alloc ?_ _) | (with_reducible refine Kd.C_drewN ?_ _) | (with_reducible refine Kd.C_drew ?_))); (case side2 => exact HC770.out); (case side3 => repeat (first | exact (Kd.C_below HR1.out HB.out) | (with_reducible refine Kd.C_alloc ?_ _) | (with_reducible refine Kd.C_drewN ?_ _) | (with_reducible refine Kd.C_drew ?_))); (case side4 => exact HC1.out); rintro e w18 ⟨v293, rfl, ho0, hb⟩; refine ⟨_, rfl, ?_⟩; have n0_ := Aside0.mk (Kd.R_elder' (by (with_reducible repeat (first | apply Kd.R_alloc | apply Kd.R_drewN | apply Kd.R_drew)); exact HO291.out) (Kd.R_base ho0) hb); have n1_ := Aside0.mk (Kd.R_lower (Kd.R_new' ho0 (Kd.R_lt (by (with_reducible repeat (first | apply Kd.R_alloc | apply Kd.R_drewN | apply Kd.R_drew)); exact HO291.out))) (below_size (by repeat (first | (with_reducible first | exact HB.out | apply below_alloc | apply pw_below_drewN | apply below_drew1 | refine below_set ?_ GE286.out) | exact HB.out)))); have n2_ := Aside0.mk (blk_below (g := gb286) (o := .cells #[.int .i64 x287000_2, .int .i64 x287001_2] 47 (0, 0)) (by (with_reducible repeat (first | refine blk_drewN ?_ _ | refine blk_drew ?_ | refine blk_alloc ?_ _)); exact BK286.out) hb); have n3_ := Aside0.mk (below_step (by repeat (first | (with_reducible first | exact HB.out | apply below_alloc | apply pw_below_drewN | apply below_drew1 | refine below_set ?_ GE286.out) | exact HB.out)) hb); clear HO291; clear BK286; clear HB; have HO291 := n0_; have HO294 := n1_; have BK286 := n2_; have HB := n3_; clear n0_ n1_ n2_ n3_; (try clear hb); (try clear hb2); (try clear hk); (try clear hi); (try clear ho0); obtain ⟨Ao19, co19, eo19⟩ := Kd.R_slice HO291.out; subst eo19; obtain ⟨Ao20, co20, eo20⟩ := Kd.R_slice HO294.out; subst eo20) | ((with_reducible refine gate_callee (f := 57) rfl ?_); refine goesL_ (some 32) rfl rfl Tryd.func57 (by kernel_rfl) rfl #[.slice Ao19 t289.length co19, .slice Ao20 t292.length co20] rfl (by (try simp only [List.map_toArray, List.map_cons, List.map_nil]); first | done | rfl | (simp only [List.length_drop, List.length_take]; rfl)) ?_; (with_reducible refine (slices_Equal_int_int.calls k2 _ _ t289 _ _ t292 false _ ?side1 ?side2 ?side3 ?side4 A10.out).mono ?_); (case side1 => repeat (first | exact (Kd.R_reads' HO291.out).2.2 | (with_reducible refine Kd.C_alloc ?_ _) | (with_reducible refine Kd.C_drewN ?_ _) | (with_reducible refine Kd.C_drew ?_))); (case side2 => exact (Kd.R_reads' HO291.out).2.1); (case side3 => repeat (first | exact (Kd.R_reads' HO294.out).2.2 | (with_reducible refine Kd.C_alloc ?_ _) | (with_reducible refine Kd.C_drewN ?_ _) | (with_reducible refine Kd.C_drew ?_))); (case side4 => exact (Kd.R_reads' HO294.out).2.1); rintro e w' ⟨rfl, ⟨nd, rfl⟩⟩; refine ⟨_, rfl, ?_⟩))
                    go_roundg k2
                    case measure => have := HK1.out; have := HK2.out; omega
                    case rel => exact ⟨(wrap64 (x6_2 + 1)), (x287000_2), (x287001_2), (by first | rfl | (simp; done) | (simp [*]; done)), H', ⟨by have := HK1.out; have := HK2.out; omega⟩, ⟨by (with_reducible repeat (first | refine blk_drewN ?_ _ | refine blk_drew ?_ | refine blk_alloc ?_ _)); exact BK286.out⟩, ⟨by repeat (first | (with_reducible first | exact HB.out | apply below_alloc | apply pw_below_drewN | apply below_drew1 | refine below_set ?_ GE286.out) | exact HB.out)⟩⟩
                · rw [if_neg c7] at H
                  have c7b0 : decide (x6_2 < ((rd_T82 l770 0).f0)) = false := decide_eq_false c7
                  clear c7
                  have H' := Aside0.mk H
                  clear H
                  have p288 : 0 ≤ (0 : Int) := (by omega)
                  have q288 : 0 < (l770.length : Int) := of_decide_eq_true (by first | (with_reducible assumption) | assumption)
                  obtain ⟨ad288, A288_1, c288_1, A288_2, c288_2, e288, hx288_0, hx288_1, hx288_2, hl288_1, hi288_1, hl288_2, hi288_2⟩ := at_T82 HR770.out 0 p288 q288
                  obtain rfl : ad287 = ad288 := (by injection e288)
                  (try simp only [show (0 : Int).toNat = 0 from rfl, Nat.zero_mul, rp_add0] at hx288_0)
                  (try simp only [show (0 : Int).toNat = 0 from rfl, Nat.zero_mul, rp_add0] at hx288_1)
                  (try simp only [show (0 : Int).toNat = 0 from rfl, Nat.zero_mul, rp_add0] at hx288_2)
                  have qi288 : (0 < l770.length) = True := eq_true (by omega)
                  (try rw [show ((0 : Int)).toNat = 0 from rfl] at hx288_0)
                  (try rw [show 0 * 3 = 0 from rfl] at hx288_0)
                  (try rw [Addr.add_zero'] at hx288_0)
                  (try rw [show ((0 : Int)).toNat = 0 from rfl] at hx288_1)
                  (try rw [show 0 * 3 = 0 from rfl] at hx288_1)
                  (try rw [Addr.add_zero'] at hx288_1)
                  (try rw [show ((0 : Int)).toNat = 0 from rfl] at hx288_2)
                  (try rw [show 0 * 3 = 0 from rfl] at hx288_2)
                  (try rw [Addr.add_zero'] at hx288_2)
                  replace hx288_0 := (HB.out.cell (World.block_lt_of_cell? w _ hx288_0)).trans hx288_0
                  replace hx288_1 := (HB.out.cell (World.block_lt_of_cell? w _ hx288_1)).trans hx288_1
                  replace hx288_2 := (HB.out.cell (World.block_lt_of_cell? w _ hx288_2)).trans hx288_2
                  have HR288_1 := Aside0.mk hi288_1
                  have HC288_1 := Aside0.mk hl288_1
                  clear hi288_1 hl288_1
                  have HR288_2 := Aside0.mk hi288_2
                  have HC288_2 := Aside0.mk hl288_2
                  clear hi288_2 hl288_2
                  replace p288 := eq_true p288
                  replace q288 := eq_true q288
                  go_wp2
                  go_roundg k2
                  case measure => have := HK1.out; have := HK2.out; omega
                  case rel => exact ⟨(wrap64 (x11_1 + 1)), (x287000_2), (x287001_2), (by first | rfl | (simp; done) | (simp [*]; done)), H', ⟨by have := HK1.out; have := HK2.out; omega⟩, ⟨by (with_reducible repeat (first | refine blk_drewN ?_ _ | refine blk_drew ?_ | refine blk_alloc ?_ _)); exact BK286.out⟩, ⟨by repeat (first | (with_reducible first | exact HB.out | apply below_alloc | apply pw_below_drewN | apply below_drew1 | refine below_set ?_ GE286.out) | exact HB.out)⟩⟩
              · rw [if_neg c6] at H
                exact absurd H (by simp)
        · rw [if_neg c5] at H
          have c5b0 : decide (x11_1 < ((rd_T82 l770 0).f0)) = false := decide_eq_false c5
          clear c5
          simp only [Option.some.injEq, Prod.mk.injEq] at H
          obtain ⟨rfl, rfl⟩ := H
          have hcz21_0 : wr.cell? ⟨gb286, 0, none⟩ = some (.int .i64 x287000_1) := (blk_cell BK286.out 0).trans rfl
          have hcz21_1 : wr.cell? ⟨gb286, 1, none⟩ = some (.int .i64 x287001_1) := (blk_cell BK286.out 1).trans rfl
          have hfz21_0 := blk_frozen BK286.out 0
          have hfz21_1 := blk_frozen BK286.out 1
          go_wp2
          refine bodyPost_ret (results_cell_row rfl _ _ gb286 47 #[.int .i64 (-1), .int .i64 (-1)] (0, 0) _ rfl (by (with_reducible repeat (first | refine blk_drewN ?_ _ | refine blk_drew ?_ | refine blk_alloc ?_ _)); refine blk_put (cs := #[.int .i64 (-1), .int .i64 x287001_1]) ?_ 1 _ rfl; (with_reducible repeat (first | refine blk_drewN ?_ _ | refine blk_drew ?_ | refine blk_alloc ?_ _)); refine blk_put (cs := #[.int .i64 x287000_1, .int .i64 x287001_1]) ?_ 0 _ rfl; (with_reducible repeat (first | refine blk_drewN ?_ _ | refine blk_drew ?_ | refine blk_alloc ?_ _)); exact BK286.out) Tryd.underlying47 rfl (by kernel_rfl)) rfl ?_
          exact ⟨by first | rfl | (simp [errW_none, errW_some] <;> rfl) | (simp [*, errW_none, errW_some] <;> rfl), by repeat (first | (with_reducible first | exact HB.out | apply below_alloc | apply pw_below_drewN | apply below_drew1 | refine below_set ?_ GE286.out) | exact HB.out)⟩
  · rw [if_neg c3] at H
    exact absurd H (by simp)

end Go.Proofs.YtbeimdngghedjaaDoor.P
