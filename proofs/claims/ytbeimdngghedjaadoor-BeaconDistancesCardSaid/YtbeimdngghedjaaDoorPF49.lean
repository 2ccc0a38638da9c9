-- written by a program of this session
import Derived.Test.YtbeimdngghedjaaDoorPK
import Derived.Test.YtbeimdngghedjaaDoorPF58
import Derived.Test.YtbeimdngghedjaaDoorBM
namespace Go.Proofs.YtbeimdngghedjaaDoor.P
open Go.RowKit Go.Proofs.YtbeimdngghedjaaDoorW.PrintWords Go.Proofs.YtbeimdngghedjaaDoorW.PrintLast Go.Proofs.YtbeimdngghedjaaDoorW.PrintMore
attribute [local go_sem] max2_int min2_int max_two min_two max_three min_three max_four min_four   -- for this text's walks alone
set_option linter.unusedVariables false
set_option linter.unusedSimpArgs false

/-! ### beacon_graph_doubly: function 49 -/
mutual
def beacon_graph_doubly.l0 : Nat → List (S82) → List Int → Int → Int → Option (Bool)
  | 0, _, _, _, _ => none
  | k + 1, x0, x1, x13, x14 => if x14 < x13 then (beacon_graph_doubly.l1 k x0 x1 x14 x13 x14 x14 0) else (some true)
def beacon_graph_doubly.l1 : Nat → List (S82) → List Int → Int → Int → Int → Int → Int → Option (Bool)
  | 0, _, _, _, _, _, _, _ => none
  | k + 1, x0, x1, x5, x13, x14, x17, x18 => if x18 < x17 then ((beacon_graph_code.f k x0 x5 x1).bind fun t409 => ((beacon_graph_code.f k x0 x18 x1).bind fun t412 => (beacon_graph_doubly.l2 k x0 x1 x5 t409 t412 x13 x14 x17 x18 (t409.length : Int) 0))) else (beacon_graph_doubly.l0 k x0 x1 x13 (wrap64 (x14 + 1)))
def beacon_graph_doubly.l2 : Nat → List (S82) → List Int → Int → List Int → List Int → Int → Int → Int → Int → Int → Int → Option (Bool)
  | 0, _, _, _, _, _, _, _, _, _, _, _ => none
  | k + 1, x0, x1, x5, x7, x8, x13, x14, x17, x18, x30, x31 => if x31 < x30 then (if 0 ≤ x31 then (if x31 < (x7.length : Int) then (if x31 < (x8.length : Int) then (beacon_graph_doubly.l2 k x0 x1 x5 (x7.set (x31 : Int).toNat (wrap64 ((rd x7 x31) - (rd x8 x31)))) x8 x13 x14 x17 x18 x30 (wrap64 (x31 + 1))) else (none)) else (none)) else (none)) else (if (x7.length : Int) < 2 then (some false) else ((slices_Min_int_int.f x7).bind fun t418 => ((slices_Max_int_int.f x7).bind fun t419 => (if t418 = t419 then (some false) else (beacon_graph_doubly.l1 k x0 x1 x5 x13 x14 x17 (wrap64 (x18 + 1)))))))
end
def beacon_graph_doubly.f (k : Nat) (l770 : List (S82)) (l1 : List Int) : Option (Bool) := if 0 < (l770.length : Int) then (beacon_graph_doubly.l0 k l770 l1 ((rd_T82 l770 0).f0) 0) else (none)
theorem beacon_graph_doubly.mono_l : ∀ k, (∀ y0 y1 y2 y3, LeO (beacon_graph_doubly.l0 k y0 y1 y2 y3) (beacon_graph_doubly.l0 (k + 1) y0 y1 y2 y3)) ∧ (∀ y0 y1 y2 y3 y4 y5 y6, LeO (beacon_graph_doubly.l1 k y0 y1 y2 y3 y4 y5 y6) (beacon_graph_doubly.l1 (k + 1) y0 y1 y2 y3 y4 y5 y6)) ∧ (∀ y0 y1 y2 y3 y4 y5 y6 y7 y8 y9 y10, LeO (beacon_graph_doubly.l2 k y0 y1 y2 y3 y4 y5 y6 y7 y8 y9 y10) (beacon_graph_doubly.l2 (k + 1) y0 y1 y2 y3 y4 y5 y6 y7 y8 y9 y10))
  | 0 => ⟨fun _ _ _ _ r h => by simp [beacon_graph_doubly.l0] at h, fun _ _ _ _ _ _ _ r h => by simp [beacon_graph_doubly.l1] at h, fun _ _ _ _ _ _ _ _ _ _ _ r h => by simp [beacon_graph_doubly.l2] at h⟩
  | k + 1 => by
    obtain ⟨ih0, ih1, ih2⟩ := beacon_graph_doubly.mono_l k
    refine ⟨?_, ?_, ?_⟩
    · intro y0 y1 y2 y3
      unfold beacon_graph_doubly.l0
      repeat' first
      | (with_reducible exact ih0 _ _ _ _)
      | (with_reducible exact ih1 _ _ _ _ _ _ _)
      | (with_reducible exact ih2 _ _ _ _ _ _ _ _ _ _ _)
      | (with_reducible exact beacon_graph_code.mono _ _ _ _)
      | (with_reducible exact LeO.refl _)
      | (with_reducible exact LeO.none _)
      | (with_reducible refine LeO.ite ?_ ?_)
      | (with_reducible refine LeO.bind ?_ (fun _ => ?_))
      | exact ih0 _ _ _ _
      | exact ih1 _ _ _ _ _ _ _
      | exact ih2 _ _ _ _ _ _ _ _ _ _ _
      | exact beacon_graph_code.mono _ _ _ _
      | exact LeO.none _
      | refine LeO.ite ?_ ?_
      | refine LeO.bind ?_ (fun _ => ?_)
    · intro y0 y1 y2 y3 y4 y5 y6
      unfold beacon_graph_doubly.l1
      repeat' first
      | (with_reducible exact ih0 _ _ _ _)
      | (with_reducible exact ih1 _ _ _ _ _ _ _)
      | (with_reducible exact ih2 _ _ _ _ _ _ _ _ _ _ _)
      | (with_reducible exact beacon_graph_code.mono _ _ _ _)
      | (with_reducible exact LeO.refl _)
      | (with_reducible exact LeO.none _)
      | (with_reducible refine LeO.ite ?_ ?_)
      | (with_reducible refine LeO.bind ?_ (fun _ => ?_))
      | exact ih0 _ _ _ _
      | exact ih1 _ _ _ _ _ _ _
      | exact ih2 _ _ _ _ _ _ _ _ _ _ _
      | exact beacon_graph_code.mono _ _ _ _
      | exact LeO.none _
      | refine LeO.ite ?_ ?_
      | refine LeO.bind ?_ (fun _ => ?_)
    · intro y0 y1 y2 y3 y4 y5 y6 y7 y8 y9 y10
      unfold beacon_graph_doubly.l2
      repeat' first
      | (with_reducible exact ih0 _ _ _ _)
      | (with_reducible exact ih1 _ _ _ _ _ _ _)
      | (with_reducible exact ih2 _ _ _ _ _ _ _ _ _ _ _)
      | (with_reducible exact beacon_graph_code.mono _ _ _ _)
      | (with_reducible exact LeO.refl _)
      | (with_reducible exact LeO.none _)
      | (with_reducible refine LeO.ite ?_ ?_)
      | (with_reducible refine LeO.bind ?_ (fun _ => ?_))
      | exact ih0 _ _ _ _
      | exact ih1 _ _ _ _ _ _ _
      | exact ih2 _ _ _ _ _ _ _ _ _ _ _
      | exact beacon_graph_code.mono _ _ _ _
      | exact LeO.none _
      | refine LeO.ite ?_ ?_
      | refine LeO.bind ?_ (fun _ => ?_)
theorem beacon_graph_doubly.mono : ∀ a0 a1 k, LeO (beacon_graph_doubly.f k a0 a1) (beacon_graph_doubly.f (k + 1) a0 a1) := by
  intro a0 a1 k
  obtain ⟨ih0, ih1, ih2⟩ := beacon_graph_doubly.mono_l k
  unfold beacon_graph_doubly.f
  repeat' first
      | (with_reducible exact ih0 _ _ _ _)
      | (with_reducible exact ih1 _ _ _ _ _ _ _)
      | (with_reducible exact ih2 _ _ _ _ _ _ _ _ _ _ _)
      | (with_reducible exact beacon_graph_code.mono _ _ _ _)
      | (with_reducible exact LeO.refl _)
      | (with_reducible exact LeO.none _)
      | (with_reducible refine LeO.ite ?_ ?_)
      | (with_reducible refine LeO.bind ?_ (fun _ => ?_))
      | exact ih0 _ _ _ _
      | exact ih1 _ _ _ _ _ _ _
      | exact ih2 _ _ _ _ _ _ _ _ _ _ _
      | exact beacon_graph_code.mono _ _ _ _
      | exact LeO.none _
      | refine LeO.ite ?_ ?_
      | refine LeO.bind ?_ (fun _ => ?_)
def beacon_graph_doubly.T11 : Bool × List (List Nat × List Nat) := (true, [([], []), ([], []), ([0, 1], [0, 1]), ([2], [2]), ([], []), ([], []), ([4, 5], [4, 5]), ([6], [6]), ([3, 7], [3, 7]), ([0, 1, 0, 1, 2, 3, 4, 5, 6, 7, 8], [0, 1]), ([9, 8, 0, 1, 2, 3, 4, 5, 6, 7, 8], [8, 9])])
def beacon_graph_doubly.B11 : List Nat := [0, 0, 3, 7, 0, 0, 48, 112, 255, 511, 1023]
theorem beacon_graph_doubly.tab11 : rtab .any (opsOf Tryd.f49 11) = beacon_graph_doubly.T11 := by kernel_rfl
theorem beacon_graph_doubly.bits11 : waitsOk beacon_graph_doubly.T11.2 beacon_graph_doubly.B11 = true := by kernel_rfl
set_option maxHeartbeats 8000000 in
set_option maxRecDepth 100000 in
theorem beacon_graph_doubly.calls (k : Nat) (A770 : Option Addr) (c770 : Nat) (l770 : List (S82)) (A1 : Option Addr) (c1 : Nat) (l1 : List Int) (r : Bool) (w : World) (hr770 : Kd.C k82 w A770 l770.length l770) (hc770 : l770.length ≤ c770) (hr1 : Kd.C (Kd.int .i64) w A1 l1.length l1) (hc1 : l1.length ≤ c1) (h : beacon_graph_doubly.f k l770 l1 = some r) :
    Calls Tryd.prog 49 #[.pointer A770, .slice A1 l1.length c1] w fun e w' => e = .returned (.bool r) ∧ Below w.heap.size w w' := by
  have HR770 := Aside0.mk hr770
  have HC770 := Aside0.mk hc770
  clear hr770 hc770
  have HR1 := Aside0.mk hr1
  have HC1 := Aside0.mk hc1
  clear hr1 hc1
  have HB := Aside0.mk (Below.refl w.heap.size w)
  have H : (if 0 < (l770.length : Int) then (beacon_graph_doubly.l0 k l770 l1 ((rd_T82 l770 0).f0) 0) else (none)) = some r := h
  clear h
  by_cases c3 : 0 < (l770.length : Int)
  · rw [if_pos c3] at H
    have c3b0 : decide (0 < (l770.length : Int)) = true := decide_eq_true c3
    (try (have c3b0z := c3b0; rw [hl7_3] at c3b0z))
    have c3b1 : decide (0 < l770.length) = true := decide_eq_true (by omega)
    (try (have c3b1z := c3b1; rw [hl7_3] at c3b1z))
    clear c3
    have H' := Aside0.mk H
    clear H
    have p408 : 0 ≤ (0 : Int) := (by omega)
    have q408 : 0 < (l770.length : Int) := of_decide_eq_true (by first | (with_reducible assumption) | assumption)
    obtain ⟨ad408, A408_1, c408_1, A408_2, c408_2, e408, hx408_0, hx408_1, hx408_2, hl408_1, hi408_1, hl408_2, hi408_2⟩ := at_T82 HR770.out 0 p408 q408
    cases e408
    (try simp only [show (0 : Int).toNat = 0 from rfl, Nat.zero_mul, rp_add0] at hx408_0)
    (try simp only [show (0 : Int).toNat = 0 from rfl, Nat.zero_mul, rp_add0] at hx408_1)
    (try simp only [show (0 : Int).toNat = 0 from rfl, Nat.zero_mul, rp_add0] at hx408_2)
    have qi408 : (0 < l770.length) = True := eq_true (by omega)
    (try rw [show ((0 : Int)).toNat = 0 from rfl] at hx408_0)
    (try rw [show 0 * 3 = 0 from rfl] at hx408_0)
    (try rw [Addr.add_zero'] at hx408_0)
    (try rw [show ((0 : Int)).toNat = 0 from rfl] at hx408_1)
    (try rw [show 0 * 3 = 0 from rfl] at hx408_1)
    (try rw [Addr.add_zero'] at hx408_1)
    (try rw [show ((0 : Int)).toNat = 0 from rfl] at hx408_2)
    (try rw [show 0 * 3 = 0 from rfl] at hx408_2)
    (try rw [Addr.add_zero'] at hx408_2)
    have HR408_1 := Aside0.mk hi408_1
    have HC408_1 := Aside0.mk hl408_1
    clear hi408_1 hl408_1
    have HR408_2 := Aside0.mk hi408_2
    have HC408_2 := Aside0.mk hl408_2
    clear hi408_2 hl408_2
    replace p408 := eq_true p408
    replace q408 := eq_true q408
    go_enter Tryd.func49, Tryd.ntmps49
    go_wp2
    go_loopg [14] k (fun kq v14 w' => ∃ (x14_1 : Int), v14 = .int .i64 x14_1 ∧ Aside0 (beacon_graph_doubly.l0 kq l770 l1 ((rd_T82 l770 0).f0) x14_1 = some r) ∧ Aside0 (kq ≤ k) ∧ Aside0 (Below w.heap.size w w'))
    case atStart => exact ⟨(0), (by first | rfl | (simp; done) | (simp [*]; done)), H', ⟨Nat.le_refl _⟩, ⟨by repeat (first | (with_reducible first | exact HB.out | apply below_alloc | apply pw_below_drewN | apply below_drew1) | exact HB.out)⟩⟩
    case round =>
      clear H'
      try clear c1
      try clear p2
      try clear c3
      try clear c3b0
      try clear c3b1
      try clear hx408_0
      try clear hx408_1
      try clear hx408_2
      try clear p408
      try clear q408
      obtain ⟨x14_1, rfl, HA, HK1, HB⟩ := hrel
      cases gk with
      | zero => exact absurd HA.out (by simp [beacon_graph_doubly.l0])
      | succ k1 =>
        have H := HA.out
        clear HA
        simp only [beacon_graph_doubly.l0] at H
        by_cases c4 : x14_1 < ((rd_T82 l770 0).f0)
        · rw [if_pos c4] at H
          have c4b0 : decide (x14_1 < ((rd_T82 l770 0).f0)) = true := decide_eq_true c4
          (try (have c4b0z := c4b0; rw [hl7_3] at c4b0z))
          clear c4
          have H' := Aside0.mk H
          clear H
          go_wp2
          go_loopg [18] k1 (fun kq v18 w' => ∃ (x18_2 : Int), v18 = .int .i64 x18_2 ∧ Aside0 (beacon_graph_doubly.l1 kq l770 l1 x14_1 ((rd_T82 l770 0).f0) x14_1 x14_1 x18_2 = some r) ∧ Aside0 (kq ≤ k1) ∧ Aside0 (Below w.heap.size w w'))
          case atStart => exact ⟨(0), (by first | rfl | (simp; done) | (simp [*]; done)), H', ⟨Nat.le_refl _⟩, ⟨by repeat (first | (with_reducible first | exact HB.out | apply below_alloc | apply pw_below_drewN | apply below_drew1) | exact HB.out)⟩⟩
          case round =>
            clear H'
            try clear c1
            try clear p2
            try clear c3
            try clear c3b0
            try clear c3b1
            try clear c4
            try clear c4b0
            try clear p4
            try clear q4
            try clear hx4
            try clear qi4
            try clear hx408_0
            try clear hx408_1
            try clear hx408_2
            try clear p2
            try clear p408
            try clear q408
            obtain ⟨x18_2, rfl, HA, HK2, HB⟩ := hrel
            cases gk with
            | zero => exact absurd HA.out (by simp [beacon_graph_doubly.l1])
            | succ k2 =>
              have H := HA.out
              clear HA
              simp only [beacon_graph_doubly.l1] at H
              by_cases c5 : x18_2 < x14_1
              · rw [if_pos c5] at H
                have c5b0 : decide (x18_2 < x14_1) = true := decide_eq_true c5
                (try (have c5b0z := c5b0; rw [hl7_3] at c5b0z))
                clear c5
                replace H := Option.bind_eq_some_iff.mp H
                obtain ⟨t409, A60, H⟩ := H
                replace H : ((beacon_graph_code.f k2 l770 x18_2 l1).bind fun t412 => (beacon_graph_doubly.l2 k2 l770 l1 x14_1 t409 t412 ((rd_T82 l770 0).f0) x14_1 x14_1 x18_2 (t409.length : Int) 0)) = some r := H
                have A6 := Aside0.mk A60
                clear A60
                replace H := Option.bind_eq_some_iff.mp H
                obtain ⟨t412, A70, H⟩ := H
                replace H : (beacon_graph_doubly.l2 k2 l770 l1 x14_1 t409 t412 ((rd_T82 l770 0).f0) x14_1 x14_1 x18_2 (t409.length : Int) 0) = some r := H
                have A7 := Aside0.mk A70
                clear A70
                have H' := Aside0.mk H
                clear H
                go_wp2_with (first | ((with_reducible refine gate_callee (f := 58) rfl ?_); refine goesL_ (some 24) rfl rfl Tryd.func58 (by kernel_rfl) rfl #[.pointer (some ad408), .int .i64 x14_1, .slice A1 l1.length c1] rfl (by (try simp only [List.map_toArray, List.map_cons, List.map_nil]); first | done | rfl | (simp only [List.length_drop, List.length_take]; rfl)) ?_; (with_reducible refine (beacon_graph_code.calls k2 _ c770 l770 x14_1 _ _ l1 t409 _ ?side1 ?side2 ?side3 ?side4 A6.out).mono ?_); (case side1 => repeat (first | exact (Kd.C_below HR770.out HB.out) | (with_reducible refine Kd.C_alloc ?_ _) | (with_reducible refine Kd.C_drewN ?_ _) | (with_reducible refine Kd.C_drew ?_))); (case side2 => exact HC770.out); (case side3 => repeat (first | exact (Kd.C_below HR1.out HB.out) | (with_reducible refine Kd.C_alloc ?_ _) | (with_reducible refine Kd.C_drewN ?_ _) | (with_reducible refine Kd.C_drew ?_))); (case side4 => exact HC1.out); rintro e w8 ⟨v410, rfl, ho0, hb⟩; refine ⟨_, rfl, ?_⟩; have n0_ := Aside0.mk (Kd.R_lower ho0 (below_size (by repeat (first | (with_reducible first | exact HB.out | apply below_alloc | apply pw_below_drewN | apply below_drew1) | exact HB.out)))); have n1_ := Aside0.mk (below_step (by repeat (first | (with_reducible first | exact HB.out | apply below_alloc | apply pw_below_drewN | apply below_drew1) | exact HB.out)) hb); clear HB; have HO411 := n0_; have HB := n1_; clear n0_ n1_; (try clear hb); (try clear hb2); (try clear hk); (try clear hi); (try clear ho0)) | ((with_reducible refine gate_callee (f := 58) rfl ?_); refine goesL_ (some 28) rfl rfl Tryd.func58 (by kernel_rfl) rfl #[.pointer (some ad408), .int .i64 x18_2, .slice A1 l1.length c1] rfl (by (try simp only [List.map_toArray, List.map_cons, List.map_nil]); first | done | rfl | (simp only [List.length_drop, List.length_take]; rfl)) ?_; (with_reducible refine (beacon_graph_code.calls k2 _ c770 l770 x18_2 _ _ l1 t412 _ ?side1 ?side2 ?side3 ?side4 A7.out).mono ?_); (case side1 => repeat (first | exact (Kd.C_below HR770.out HB.out) | (with_reducible refine Kd.C_alloc ?_ _) | (with_reducible refine Kd.C_drewN ?_ _) | (with_reducible refine Kd.C_drew ?_))); (case side2 => exact HC770.out); (case side3 => repeat (first | exact (Kd.C_below HR1.out HB.out) | (with_reducible refine Kd.C_alloc ?_ _) | (with_reducible refine Kd.C_drewN ?_ _) | (with_reducible refine Kd.C_drew ?_))); (case side4 => exact HC1.out); rintro e w9 ⟨v413, rfl, ho0, hb⟩; refine ⟨_, rfl, ?_⟩; have n0_ := Aside0.mk (Kd.R_elder' (by (with_reducible repeat (first | apply Kd.R_alloc | apply Kd.R_drewN | apply Kd.R_drew)); exact HO411.out) (Kd.R_base ho0) hb); have n1_ := Aside0.mk (Kd.R_lower (Kd.R_new' ho0 (Kd.R_lt (by (with_reducible repeat (first | apply Kd.R_alloc | apply Kd.R_drewN | apply Kd.R_drew)); exact HO411.out))) (below_size (by repeat (first | (with_reducible first | exact HB.out | apply below_alloc | apply pw_below_drewN | apply below_drew1) | exact HB.out)))); have n2_ := Aside0.mk (below_step (by repeat (first | (with_reducible first | exact HB.out | apply below_alloc | apply pw_below_drewN | apply below_drew1) | exact HB.out)) hb); clear HO411; clear HB; have HO411 := n0_; have HO414 := n1_; have HB := n2_; clear n0_ n1_ n2_; (try clear hb); (try clear hb2); (try clear hk); (try clear hi); (try clear ho0); obtain ⟨Ao10, co10, eo10⟩ := Kd.R_slice HO411.out; subst eo10))
                go_loopg [31] k2 (fun kq v31 w' => ∃ (x7_3 : List Int) (x31_3 : Int), v31 = .int .i64 x31_3 ∧ Aside0 (beacon_graph_doubly.l2 kq l770 l1 x14_1 x7_3 t412 ((rd_T82 l770 0).f0) x14_1 x14_1 x18_2 (t409.length : Int) x31_3 = some r) ∧ Aside0 (kq ≤ k2) ∧ Aside0 (Kd.R (Kd.int .i64) 3 w' w.heap.size (fun k_ => some k_ ≠ (v413 : Value).ownBlock) (.slice Ao10 t409.length co10) x7_3) ∧ Aside0 (Kd.R (Kd.int .i64) 3 w' w.heap.size (fun k_ => some k_ ≠ ((.slice Ao10 t409.length co10) : Value).ownBlock) v413 t412) ∧ Aside0 (Below w.heap.size w w'))
                case atStart => exact ⟨(t409), (0), (by first | rfl | (simp; done) | (simp [*]; done)), H', ⟨Nat.le_refl _⟩, ⟨by (with_reducible repeat (first | apply Kd.R_alloc | apply Kd.R_drewN | apply Kd.R_drew)); exact Kd.R_mono HO411.out (fun _ hk => hk.2)⟩, ⟨by (with_reducible repeat (first | apply Kd.R_alloc | apply Kd.R_drewN | apply Kd.R_drew)); exact Kd.R_mono HO414.out (fun _ hk => hk.2)⟩, ⟨by repeat (first | (with_reducible first | exact HB.out | apply below_alloc | apply pw_below_drewN | apply below_drew1) | exact HB.out)⟩⟩
                case round =>
                  clear H'
                  try clear c1
                  try clear p2
                  try clear c3
                  try clear c3b0
                  try clear c3b1
                  try clear c4
                  try clear c4b0
                  try clear p4
                  try clear q4
                  try clear hx4
                  try clear qi4
                  try clear c5
                  try clear c5b0
                  try clear c7
                  try clear hx408_0
                  try clear hx408_1
                  try clear hx408_2
                  try clear p2
                  try clear p4
                  try clear p408
                  try clear q4
                  try clear q408
                  obtain ⟨x7_3, x31_3, rfl, HA, HK3, HO_7, HO_8, HB⟩ := hrel
                  have hl7_3 := (Kd.R_reads' HO_7.out).1
                  rw [hl7_3] at HO_7
                  (try simp only [hl7_3])
                  (try simp only [hl7_3] at HO_8)
                  cases gk with
                  | zero => exact absurd HA.out (by simp [beacon_graph_doubly.l2])
                  | succ k3 =>
                    have H := HA.out
                    clear HA
                    simp only [beacon_graph_doubly.l2] at H
                    by_cases c11 : x31_3 < (t409.length : Int)
                    · rw [if_pos c11] at H
                      have c11b0 : decide (x31_3 < (t409.length : Int)) = true := decide_eq_true c11
                      (try (have c11b0z := c11b0; rw [hl7_3] at c11b0z))
                      clear c11
                      by_cases c12 : 0 ≤ x31_3
                      · rw [if_pos c12] at H
                        have c12b0 : decide (0 ≤ x31_3) = true := decide_eq_true c12
                        (try (have c12b0z := c12b0; rw [hl7_3] at c12b0z))
                        clear c12
                        by_cases c13 : x31_3 < (x7_3.length : Int)
                        · rw [if_pos c13] at H
                          have c13b0 : decide (x31_3 < (x7_3.length : Int)) = true := decide_eq_true c13
                          (try (have c13b0z := c13b0; rw [hl7_3] at c13b0z))
                          clear c13
                          by_cases c14 : x31_3 < (t412.length : Int)
                          · rw [if_pos c14] at H
                            have c14b0 : decide (x31_3 < (t412.length : Int)) = true := decide_eq_true c14
                            (try (have c14b0z := c14b0; rw [hl7_3] at c14b0z))
                            clear c14
                            obtain ⟨y417, hy417⟩ : ∃ y_ : List Int, y_ = (x7_3.set (x31_3 : Int).toNat (wrap64 ((rd x7_3 x31_3) - (rd t412 x31_3)))) := ⟨_, rfl⟩
                            replace H : (beacon_graph_doubly.l2 k3 l770 l1 x14_1 y417 t412 ((rd_T82 l770 0).f0) x14_1 x14_1 x18_2 (t409.length : Int) (wrap64 (x31_3 + 1))) = some r := by first | (rw [hy417]; with_reducible exact H) | (have H2_ := (Option.bind_some _ _).symm.trans H; rw [hy417]; with_reducible exact H2_) | (have H2_ := (Option.bind_some _ _).symm.trans H; with_reducible exact H2_) | with_reducible exact H | (rw [hy417]; exact H) | exact H
                            have Ny417 := Aside0.mk hy417
                            clear hy417
                            have H' := Aside0.mk H
                            clear H
                            try go_wp2
                            have n0_ := Aside0.mk (Kd.R_drew HO_7.out)
                            have n1_ := Aside0.mk (Kd.R_drew HO_8.out)
                            have n2_ := Aside0.mk (below_drew1 HB.out)
                            clear HO_7
                            clear HO_8
                            clear HB
                            have HO_7 := n0_
                            have HO_8 := n1_
                            have HB := n2_
                            clear n0_ n1_ n2_
                            have p415 : 0 ≤ (x31_3 : Int) := of_decide_eq_true (by first | (with_reducible assumption) | assumption)
                            have q415 : x31_3 < (x7_3.length : Int) := of_decide_eq_true (by first | (with_reducible assumption) | assumption)
                            obtain ⟨ad415, e415, hx415_0⟩ := Kd.at_int (Kd.R_reads' HO_7.out).2.2 x31_3 p415 q415
                            cases e415
                            replace p415 := eq_true p415
                            replace q415 := eq_true q415
                            obtain ⟨Ao17, co17, eo17⟩ := Kd.R_slice HO_8.out
                            (first | subst eo17 | (injection eo17 with f1_ f2_ f3_; have f4_ := f1_.symm; have f5_ := f3_.symm; clear f1_ f2_ f3_; subst f4_; subst f5_))
                            have p416 : 0 ≤ (x31_3 : Int) := of_decide_eq_true (by first | (with_reducible assumption) | assumption)
                            have q416 : x31_3 < (t412.length : Int) := of_decide_eq_true (by first | (with_reducible assumption) | assumption)
                            obtain ⟨ad416, e416, hx416_0⟩ := Kd.at_int (Kd.R_reads' HO_8.out).2.2 x31_3 p416 q416
                            cases e416
                            replace p416 := eq_true p416
                            replace q416 := eq_true q416
                            have p15 : 0 ≤ (x31_3 : Int) := of_decide_eq_true (by first | (with_reducible assumption) | assumption)
                            have q15 : (x31_3 : Int) < ((x7_3.length : Int) : Int) := of_decide_eq_true (by first | (with_reducible assumption) | assumption)
                            obtain ⟨go15, co15, eo15, gb15, gl15, cl15, HG15⟩ := Kd.R_form HO_7.out (by omega)
                            (first | cases eo15 | (injection eo15 with ea_ en_ ec_; (first | subst ea_ | (injection ea_ with ea_; subst ea_)); subst ec_; clear en_))
                            have GB15 := Aside0.mk gb15
                            have GG15 := Aside0.mk HG15
                            clear gb15 gl15 HG15
                            (first | simp only [add_plain] at hx415_0 | skip)
                            obtain ⟨hx15_0, hf15_0⟩ := Kd.R_celln 0 HO_7.out (x31_3 : Int) p15 q15
                            replace p15 := eq_true p15
                            replace q15 := eq_true q15
                            have HP18 := Kd.R_putn HO_7.out (x31_3 : Int) (wrap64 ((rd x7_3 x31_3) - (rd t412 x31_3)))
                            rw [← Ny417.out] at HP18
                            have HQ18 := Aside0.mk HP18
                            clear HP18
                            refine start_ (n := 11) (S := fun w' => w'.cell? ⟨go15, (x31_3).toNat, none⟩ = some (.int .i64 (rd x7_3 x31_3)) ∧ w'.cell? (ad416.add (x31_3).toNat) = some (.int .i64 (rd t412 x31_3))) (ds := [10]) #[false, false, false, false, false, false, false, false, false, false, false] (by kernel_rfl) rfl rfl ⟨hx415_0, hx416_0⟩ (fun hHeld => ?_); refine with_tabW beacon_graph_doubly.tab11 beacon_graph_doubly.bits11 (fun HT_ HW_ => ?_)
                            generalize wr.drew = w16 at HO_7 HO_8 HB GG15 HQ18 hf15_0 hx15_0 hx415_0 hx416_0 hHeld ⊢
                            refine pure_ (i := 0) (N := some 34) (v := ?_) (a' := ?_) #[true, false, false, false, false, false, false, false, false, false, false] rfl rfl (any_of HT_.out (by kernel_rfl)) (fun _ _ _ h => h) (Or.inl ⟨by rfl, ?_⟩) ?_ ?_
                            rotate_left
                            · intro w'
                              go_simp
                              with_reducible rfl
                            rotate_left
                            · simp only [Act.put, List.setIfInBounds_toArray, List.set_cons_zero, List.set_cons_succ, i64_w, i32_w]
                              rfl
                            refine pure_ (i := 1) (N := some 35) (v := ?_) (a' := ?_) #[true, true, false, false, false, false, false, false, false, false, false] rfl rfl (any_of HT_.out (by kernel_rfl)) (fun _ _ _ h => h) (Or.inl ⟨by rfl, ?_⟩) ?_ ?_
                            rotate_left
                            · intro w'
                              go_simp
                              with_reducible rfl
                            rotate_left
                            · simp only [Act.put, List.setIfInBounds_toArray, List.set_cons_zero, List.set_cons_succ, i64_w, i32_w]
                              rfl
                            refine pure_ (i := 2) (N := some 36) (v := ?_) (a' := ?_) #[true, true, true, false, false, false, false, false, false, false, false] rfl rfl (any_of HT_.out (by kernel_rfl)) (fun _ _ _ h => h) (Or.inl ⟨by rfl, ?_⟩) ?_ ?_
                            rotate_left
                            · intro w'
                              go_simp
                              with_reducible rfl
                            rotate_left
                            · simp only [Act.put, List.setIfInBounds_toArray, List.set_cons_zero, List.set_cons_succ, i64_w, i32_w]
                              rfl
                            refine pure_ (i := 4) (N := some 38) (v := ?_) (a' := ?_) #[true, true, true, false, true, false, false, false, false, false, false] rfl rfl (any_of HT_.out (by kernel_rfl)) (fun _ _ _ h => h) (Or.inl ⟨by rfl, ?_⟩) ?_ ?_
                            rotate_left
                            · intro w'
                              go_simp
                              with_reducible rfl
                            rotate_left
                            · simp only [Act.put, List.setIfInBounds_toArray, List.set_cons_zero, List.set_cons_succ, i64_w, i32_w]
                              rfl
                            refine pure_ (i := 5) (N := some 39) (v := ?_) (a' := ?_) #[true, true, true, false, true, true, false, false, false, false, false] rfl rfl (any_of HT_.out (by kernel_rfl)) (fun _ _ _ h => h) (Or.inl ⟨by rfl, ?_⟩) ?_ ?_
                            rotate_left
                            · intro w'
                              go_simp
                              with_reducible rfl
                            rotate_left
                            · simp only [Act.put, List.setIfInBounds_toArray, List.set_cons_zero, List.set_cons_succ, i64_w, i32_w]
                              rfl
                            refine pure_ (i := 6) (N := some 40) (v := ?_) (a' := ?_) #[true, true, true, false, true, true, true, false, false, false, false] rfl rfl (any_of HT_.out (by kernel_rfl)) (fun _ _ _ h => h) (Or.inl ⟨by rfl, ?_⟩) ?_ ?_
                            rotate_left
                            · intro w'
                              go_simp
                              with_reducible rfl
                            rotate_left
                            · simp only [Act.put, List.setIfInBounds_toArray, List.set_cons_zero, List.set_cons_succ, i64_w, i32_w]
                              rfl
                            refine take_ (i := 3) (N := some 37) (v := ?_) (a' := ?_) #[true, true, true, true, true, true, true, false, false, false, false] rfl rfl (take_ofW HT_.out HW_.out (by kernel_rfl)) (fun _ _ _ h => h) (Or.inl ⟨by rfl, ?_⟩) hHeld ?_ ?_
                            rotate_left
                            · rintro w' ⟨s0, s1⟩
                              go_simp
                              with_reducible rfl
                            rotate_left
                            · simp only [Act.put, List.setIfInBounds_toArray, List.set_cons_zero, List.set_cons_succ, i64_w, i32_w]
                              rfl
                            refine take_ (i := 7) (N := some 41) (v := ?_) (a' := ?_) #[true, true, true, true, true, true, true, true, false, false, false] rfl rfl (take_ofW HT_.out HW_.out (by kernel_rfl)) (fun _ _ _ h => h) (Or.inl ⟨by rfl, ?_⟩) hHeld ?_ ?_
                            rotate_left
                            · rintro w' ⟨s0, s1⟩
                              go_simp
                              with_reducible rfl
                            rotate_left
                            · simp only [Act.put, List.setIfInBounds_toArray, List.set_cons_zero, List.set_cons_succ, i64_w, i32_w]
                              rfl
                            refine pure_ (i := 8) (N := some 42) (v := ?_) (a' := ?_) #[true, true, true, true, true, true, true, true, true, false, false] rfl rfl (any_of HT_.out (by kernel_rfl)) (fun _ _ _ h => h) (Or.inl ⟨by rfl, ?_⟩) ?_ ?_
                            rotate_left
                            · intro w'
                              go_simp
                              with_reducible rfl
                            rotate_left
                            · simp only [Act.put, List.setIfInBounds_toArray, List.set_cons_zero, List.set_cons_succ, i64_w, i32_w]
                              rfl
                            refine pure_ (i := 9) (N := some 43) (v := ?_) (a' := ?_) #[true, true, true, true, true, true, true, true, true, true, false] rfl rfl (any_of HT_.out (by kernel_rfl)) (fun _ _ _ h => h) (Or.inl ⟨by rfl, ?_⟩) ?_ ?_
                            rotate_left
                            · intro w'
                              go_simp
                              with_reducible rfl
                            rotate_left
                            · simp only [Act.put, List.setIfInBounds_toArray, List.set_cons_zero, List.set_cons_succ, i64_w, i32_w]
                              rfl
                            refine last_ (i := 10) (N := none) #[true, true, true, true, true, true, true, true, true, true, true] rfl rfl (one_of HT_.out (by kernel_rfl)) (by decide) (fun K hK => ?_)
                            refine skip_ (w1 := ?_) (by rfl) rfl ?_ ?_
                            rotate_left
                            · go_simp
                              rfl
                            refine hK.out _ _ ?_
                            clear hK K
                            refine done_ (done_of HT_.out (by kernel_rfl)) ?_
                            try go_wp2
                            (try simp only [← hl7_3])
                            go_roundg k3
                            case measure => have := HK1.out; have := HK2.out; have := HK3.out; omega
                            case rel => exact ⟨(y417), (wrap64 (x31_3 + 1)), (by first | rfl | (simp; done) | (simp [*]; done)), H', ⟨by have := HK1.out; have := HK2.out; have := HK3.out; omega⟩, ⟨by (try simp only [hl7_3]); (with_reducible repeat (first | apply Kd.R_alloc | apply Kd.R_drewN | apply Kd.R_drew)); exact HQ18.out⟩, ⟨by (try simp only [hl7_3]); (with_reducible repeat (first | apply Kd.R_alloc | apply Kd.R_drewN | apply Kd.R_drew)); exact Kd.R_mono (Kd.R_far (p := ⟨go15, (x31_3 : Int).toNat, none⟩) (Kd.R_mono HO_8.out (fun k_ hk => (⟨hk, fun e_ => hk (by rw [e_]; rfl)⟩ : _ ∧ k_ ≠ go15))) (fun _ hk => hk.2) (.int .i64 (wrap64 ((rd x7_3 x31_3) - (rd t412 x31_3))))) (fun _ hk => hk.1)⟩, ⟨by repeat (first | (with_reducible first | exact HB.out | apply below_alloc | apply pw_below_drewN | apply below_drew1 | refine below_set ?_ GB15.out) | exact HB.out)⟩⟩
                          · rw [if_neg c14] at H
                            exact absurd H (by simp)
                        · rw [if_neg c13] at H
                          exact absurd H (by simp)
                      · rw [if_neg c12] at H
                        exact absurd H (by simp)
                    · rw [if_neg c11] at H
                      have c11b0 : decide (x31_3 < (t409.length : Int)) = false := decide_eq_false c11
                      (try (have c11b0z := c11b0; rw [hl7_3] at c11b0z))
                      clear c11
                      by_cases c19 : (x7_3.length : Int) < 2
                      · rw [if_pos c19] at H
                        have c19b0 : decide ((x7_3.length : Int) < 2) = true := decide_eq_true c19
                        (try (have c19b0z := c19b0; rw [hl7_3] at c19b0z))
                        have c19b1 : decide (x7_3.length < 2) = true := decide_eq_true (by omega)
                        (try (have c19b1z := c19b1; rw [hl7_3] at c19b1z))
                        clear c19
                        obtain rfl := Option.some.inj H
                        go_wp2
                        go_ret
                        exact ⟨by first | rfl | (simp [errW_none, errW_some] <;> rfl) | (simp [*, errW_none, errW_some] <;> rfl), by repeat (first | (with_reducible first | exact HB.out | apply below_alloc | apply pw_below_drewN | apply below_drew1) | exact HB.out)⟩
                      · rw [if_neg c19] at H
                        have c19b0 : decide ((x7_3.length : Int) < 2) = false := decide_eq_false c19
                        (try (have c19b0z := c19b0; rw [hl7_3] at c19b0z))
                        have c19b1 : decide (x7_3.length < 2) = false := decide_eq_false (by omega)
                        (try (have c19b1z := c19b1; rw [hl7_3] at c19b1z))
                        clear c19
                        replace H := Option.bind_eq_some_iff.mp H
                        obtain ⟨t418, A200, H⟩ := H
                        replace H : ((slices_Max_int_int.f x7_3).bind fun t419 => (if t418 = t419 then (some false) else (beacon_graph_doubly.l1 k3 l770 l1 x14_1 ((rd_T82 l770 0).f0) x14_1 x14_1 (wrap64 (x18_2 + 1))))) = some r := H
                        have A20 := Aside0.mk A200
                        clear A200
                        replace H := Option.bind_eq_some_iff.mp H
                        obtain ⟨t419, A210, H⟩ := H
                        replace H : (if t418 = t419 then (some false) else (beacon_graph_doubly.l1 k3 l770 l1 x14_1 ((rd_T82 l770 0).f0) x14_1 x14_1 (wrap64 (x18_2 + 1)))) = some r := H
                        have A21 := Aside0.mk A210
                        clear A210
                        by_cases c22 : t418 = t419
                        · rw [if_pos c22] at H
                          have c22b0 : (t418 == t419) = true := beq_iff_eq.mpr c22
                          (try (have c22b0z := c22b0; rw [hl7_3] at c22b0z))
                          have c22b1 : (t418 != t419) = false := bne_eq_false_iff_eq.mpr c22
                          (try (have c22b1z := c22b1; rw [hl7_3] at c22b1z))
                          clear c22
                          obtain rfl := Option.some.inj H
                          go_wp2_with (first | (go_at_call 67; (with_reducible refine (slices_Min_int_int.calls _ _ x7_3 t418 _ ?side1 ?side2 A20.out).mono ?_); (case side1 => repeat (first | exact (Kd.R_reads' HO_7.out).2.2 | (with_reducible refine Kd.C_alloc ?_ _) | (with_reducible refine Kd.C_drewN ?_ _) | (with_reducible refine Kd.C_drew ?_))); (case side2 => exact (Kd.R_reads' HO_7.out).2.1); rintro e w' ⟨rfl, ⟨nd, rfl⟩⟩) | (go_at_call 64; (with_reducible refine (slices_Max_int_int.calls _ _ x7_3 t419 _ ?side1 ?side2 A21.out).mono ?_); (case side1 => repeat (first | exact (Kd.R_reads' HO_7.out).2.2 | (with_reducible refine Kd.C_alloc ?_ _) | (with_reducible refine Kd.C_drewN ?_ _) | (with_reducible refine Kd.C_drew ?_))); (case side2 => exact (Kd.R_reads' HO_7.out).2.1); rintro e w' ⟨rfl, ⟨nd, rfl⟩⟩))
                          go_ret
                          exact ⟨by first | rfl | (simp [errW_none, errW_some] <;> rfl) | (simp [*, errW_none, errW_some] <;> rfl), by repeat (first | (with_reducible first | exact HB.out | apply below_alloc | apply pw_below_drewN | apply below_drew1) | exact HB.out)⟩
                        · rw [if_neg c22] at H
                          have c22b0 : (t418 == t419) = false := beq_eq_false_iff_ne.mpr c22
                          (try (have c22b0z := c22b0; rw [hl7_3] at c22b0z))
                          have c22b1 : (t418 != t419) = true := bne_iff_ne.mpr c22
                          (try (have c22b1z := c22b1; rw [hl7_3] at c22b1z))
                          have H' := Aside0.mk H
                          clear H
                          go_wp2_with (first | (go_at_call 67; (with_reducible refine (slices_Min_int_int.calls _ _ x7_3 t418 _ ?side1 ?side2 A20.out).mono ?_); (case side1 => repeat (first | exact (Kd.R_reads' HO_7.out).2.2 | (with_reducible refine Kd.C_alloc ?_ _) | (with_reducible refine Kd.C_drewN ?_ _) | (with_reducible refine Kd.C_drew ?_))); (case side2 => exact (Kd.R_reads' HO_7.out).2.1); rintro e w' ⟨rfl, ⟨nd, rfl⟩⟩) | (go_at_call 64; (with_reducible refine (slices_Max_int_int.calls _ _ x7_3 t419 _ ?side1 ?side2 A21.out).mono ?_); (case side1 => repeat (first | exact (Kd.R_reads' HO_7.out).2.2 | (with_reducible refine Kd.C_alloc ?_ _) | (with_reducible refine Kd.C_drewN ?_ _) | (with_reducible refine Kd.C_drew ?_))); (case side2 => exact (Kd.R_reads' HO_7.out).2.1); rintro e w' ⟨rfl, ⟨nd, rfl⟩⟩))
                          (try simp only [← hl7_3])
                          go_roundg k3
                          case measure => have := HK1.out; have := HK2.out; have := HK3.out; omega
                          case rel => exact ⟨(wrap64 (x18_2 + 1)), (by first | rfl | (simp; done) | (simp [*]; done)), H', ⟨by have := HK1.out; have := HK2.out; have := HK3.out; omega⟩, ⟨by repeat (first | (with_reducible first | exact HB.out | apply below_alloc | apply pw_below_drewN | apply below_drew1) | exact HB.out)⟩⟩
              · rw [if_neg c5] at H
                have c5b0 : decide (x18_2 < x14_1) = false := decide_eq_false c5
                (try (have c5b0z := c5b0; rw [hl7_3] at c5b0z))
                clear c5
                have H' := Aside0.mk H
                clear H
                go_wp2
                go_roundg k2
                case measure => have := HK1.out; have := HK2.out; omega
                case rel => exact ⟨(wrap64 (x14_1 + 1)), (by first | rfl | (simp; done) | (simp [*]; done)), H', ⟨by have := HK1.out; have := HK2.out; omega⟩, ⟨by repeat (first | (with_reducible first | exact HB.out | apply below_alloc | apply pw_below_drewN | apply below_drew1) | exact HB.out)⟩⟩
        · rw [if_neg c4] at H
          have c4b0 : decide (x14_1 < ((rd_T82 l770 0).f0)) = false := decide_eq_false c4
          (try (have c4b0z := c4b0; rw [hl7_3] at c4b0z))
          clear c4
          obtain rfl := Option.some.inj H
          go_wp2
          go_ret
          exact ⟨by first | rfl | (simp [errW_none, errW_some] <;> rfl) | (simp [*, errW_none, errW_some] <;> rfl), by repeat (first | (with_reducible first | exact HB.out | apply below_alloc | apply pw_below_drewN | apply below_drew1) | exact HB.out)⟩
  · rw [if_neg c3] at H
    exact absurd H (by simp)

/-- THE ONE PURE STATEMENT of beacon_graph_doubly: yours. -/
def beacon_graph_doubly.Pure : Prop := ∀ (l770 : List (S82)) (l1 : List Int), (l770.length ≤ maxLen ∧ ∀ x0_ ∈ l770, ((Lit.int .i64 x0_.f0).wf = true ∧ (x0_.f1.length ≤ maxLen ∧ ∀ x1_ ∈ x0_.f1, (x1_.length ≤ maxLen ∧ ∀ x2_ ∈ x1_, True)) ∧ (x0_.f2.length ≤ maxLen ∧ ∀ x1_ ∈ x0_.f2, (x1_.length ≤ maxLen ∧ ∀ x2_ ∈ x1_, (Lit.int .i64 x2_).wf = true)))) → (l1.length ≤ maxLen ∧ ∀ x0_ ∈ l1, (Lit.int .i64 x0_).wf = true) → ∃ k, beacon_graph_doubly.f k l770 l1 = some true

end Go.Proofs.YtbeimdngghedjaaDoor.P
