-- written by a program of this session
import Derived.Test.YtbeimdngghedjaaDoorPK
import Derived.Test.YtbeimdngghedjaaDoorBX
import Derived.Test.YtbeimdngghedjaaDoorPF53
import Derived.Test.YtbeimdngghedjaaDoorPF54
namespace Go.Proofs.YtbeimdngghedjaaDoor.P
open Go.RowKit Go.Proofs.YtbeimdngghedjaaDoorW.PrintWords Go.Proofs.YtbeimdngghedjaaDoorW.PrintLast Go.Proofs.YtbeimdngghedjaaDoorW.PrintMore
attribute [local go_sem] max2_int min2_int max_two min_two max_three min_three max_four min_four   -- for this text's walks alone
set_option linter.unusedVariables false
set_option linter.unusedSimpArgs false

/-! ### beacon_Slater_tail: function 24 -/
mutual
def beacon_Slater_tail.l0 : Nat → Int → List (S82) → Int → Int → Int → List Bool → Int → Int → Option (Int × Int)
 | 0, _, _, _, _, _, _, _, _ => none
 | k + 1, x0, x6, x8, x9, x10, x11, x31, x32 => if x32 < x31 then ((beacon_graph_degree.f k x6 x32).bind fun t110 => (if t110 = 1 then (beacon_Slater_tail.l1 k x0 x6 (wrap64 (x8 + t110)) (mx x9 t110) (wrap64 (x10 + 1)) x11 (-1) x32 x31 x32) else (beacon_Slater_tail.l0 k x0 x6 (wrap64 (x8 + t110)) (mx x9 t110) x10 x11 x31 (wrap64 (x32 + 1))))) else (if x8 = (wrap64 (2 * (wrap64 (x0 - 1)))) then (beacon_Slater_tail.j4 k x10 x11 (decide (x9 < 3))) else (beacon_Slater_tail.j4 k x10 x11 true))
def beacon_Slater_tail.l1 : Nat → Int → List (S82) → Int → Int → Int → List Bool → Int → Int → Int → Int → Option (Int × Int)
 | 0, _, _, _, _, _, _, _, _, _, _ => none
 | k + 1, x0, x6, x8, x9, x10, x11, x14, x15, x31, x32 => if 0 < (x6.length : Int) then (if 0 ≤ x15 then (if x15 < (((rd_T82 x6 0).f1).length : Int) then ((slices_Index_bool_bool.f k (rd_L3 ((rd_T82 x6 0).f1) x15) true).bind fun t113 => (if t113 = x14 then (beacon_Slater_tail.l2 k x0 x6 x8 x9 x10 x11 x14 x15 x15 x31 x32 (rd_L3 ((rd_T82 x6 0).f1) x15) ((rd_L3 ((rd_T82 x6 0).f1) x15).length : Int) 0) else (beacon_Slater_tail.j3 k x0 x6 x8 x9 x10 x11 x15 t113 x31 x32))) else (none)) else (none)) else (none)
def beacon_Slater_tail.j3 : Nat → Int → List (S82) → Int → Int → Int → List Bool → Int → Int → Int → Int → Option (Int × Int)
 | 0, _, _, _, _, _, _, _, _, _, _ => none
 | k + 1, x0, x6, x8, x9, x10, x11, x15, x16, x31, x32 => if x16 = x15 then (if 0 ≤ x15 then (if x15 < (x11.length : Int) then (beacon_Slater_tail.l0 k x0 x6 x8 x9 x10 (x11.set (x15 : Int).toNat true) x31 (wrap64 (x32 + 1))) else (none)) else (none)) else ((beacon_graph_degree.f k x6 x16).bind fun t118 => (if t118 = 2 then (beacon_Slater_tail.l1 k x0 x6 x8 x9 x10 x11 x15 x16 x31 x32) else (if 0 ≤ x16 then (if x16 < (x11.length : Int) then (beacon_Slater_tail.l0 k x0 x6 x8 x9 x10 (x11.set (x16 : Int).toNat true) x31 (wrap64 (x32 + 1))) else (none)) else (none))))
def beacon_Slater_tail.l2 : Nat → Int → List (S82) → Int → Int → Int → List Bool → Int → Int → Int → Int → Int → List Bool → Int → Int → Option (Int × Int)
 | 0, _, _, _, _, _, _, _, _, _, _, _, _, _, _ => none
 | k + 1, x0, x6, x8, x9, x10, x11, x14, x15, x16, x31, x32, x67, x68, x69 => if x69 < x68 then (if 0 ≤ x69 then (if x69 < (x67.length : Int) then (if rdOf false x67 x69 = true then (if x69 = x14 then (beacon_Slater_tail.l2 k x0 x6 x8 x9 x10 x11 x14 x15 x16 x31 x32 x67 x68 (wrap64 (x69 + 1))) else (beacon_Slater_tail.l2 k x0 x6 x8 x9 x10 x11 x14 x15 x69 x31 x32 x67 x68 (wrap64 (x69 + 1)))) else (beacon_Slater_tail.l2 k x0 x6 x8 x9 x10 x11 x14 x15 x16 x31 x32 x67 x68 (wrap64 (x69 + 1)))) else (none)) else (none)) else (beacon_Slater_tail.j3 k x0 x6 x8 x9 x10 x11 x15 x16 x31 x32)
def beacon_Slater_tail.j4 : Nat → Int → List Bool → Bool → Option (Int × Int)
 | 0, _, _, _ => none
 | k + 1, x10, x11, x103 => if x103 = true then (some (0, 5)) else (beacon_Slater_tail.l3 k x10 x11 (x11.length : Int) 0)
def beacon_Slater_tail.l3 : Nat → Int → List Bool → Int → Int → Option (Int × Int)
 | 0, _, _, _, _ => none
 | k + 1, x10, x104, x105, x106 => if x106 < x105 then (if 0 ≤ x106 then (if x106 < (x104.length : Int) then (if rdOf false x104 x106 = true then (beacon_Slater_tail.l3 k (wrap64 (x10 - 1)) x104 x105 (wrap64 (x106 + 1))) else (beacon_Slater_tail.l3 k x10 x104 x105 (wrap64 (x106 + 1)))) else (none)) else (none)) else (some (x10, 0))
end
def beacon_Slater_tail.f (k : Nat) (a0 : Int) (l1 : List (S47)) (l772 : List (S82)) : Option (Int × Int) := if 0 ≤ a0 then (if (a0 : Int).toNat ≤ 281474976710656 then (beacon_Slater_tail.l0 k a0 l772 0 0 0 (List.replicate (a0 : Int).toNat false) a0 0) else (none)) else (none)
theorem beacon_Slater_tail.mono_l : ∀ k, (∀ y0 y1 y2 y3 y4 y5 y6 y7, LeO (beacon_Slater_tail.l0 k y0 y1 y2 y3 y4 y5 y6 y7) (beacon_Slater_tail.l0 (k + 1) y0 y1 y2 y3 y4 y5 y6 y7)) ∧ (∀ y0 y1 y2 y3 y4 y5 y6 y7 y8 y9, LeO (beacon_Slater_tail.l1 k y0 y1 y2 y3 y4 y5 y6 y7 y8 y9) (beacon_Slater_tail.l1 (k + 1) y0 y1 y2 y3 y4 y5 y6 y7 y8 y9)) ∧ (∀ y0 y1 y2 y3 y4 y5 y6 y7 y8 y9, LeO (beacon_Slater_tail.j3 k y0 y1 y2 y3 y4 y5 y6 y7 y8 y9) (beacon_Slater_tail.j3 (k + 1) y0 y1 y2 y3 y4 y5 y6 y7 y8 y9)) ∧ (∀ y0 y1 y2 y3 y4 y5 y6 y7 y8 y9 y10 y11 y12 y13, LeO (beacon_Slater_tail.l2 k y0 y1 y2 y3 y4 y5 y6 y7 y8 y9 y10 y11 y12 y13) (beacon_Slater_tail.l2 (k + 1) y0 y1 y2 y3 y4 y5 y6 y7 y8 y9 y10 y11 y12 y13)) ∧ (∀ y0 y1 y2, LeO (beacon_Slater_tail.j4 k y0 y1 y2) (beacon_Slater_tail.j4 (k + 1) y0 y1 y2)) ∧ (∀ y0 y1 y2 y3, LeO (beacon_Slater_tail.l3 k y0 y1 y2 y3) (beacon_Slater_tail.l3 (k + 1) y0 y1 y2 y3))
 | 0 => ⟨fun _ _ _ _ _ _ _ _ r h => by simp [beacon_Slater_tail.l0] at h, fun _ _ _ _ _ _ _ _ _ _ r h => by simp [beacon_Slater_tail.l1] at h, fun _ _ _ _ _ _ _ _ _ _ r h => by simp [beacon_Slater_tail.j3] at h, fun _ _ _ _ _ _ _ _ _ _ _ _ _ _ r h => by simp [beacon_Slater_tail.l2] at h, fun _ _ _ r h => by simp [beacon_Slater_tail.j4] at h, fun _ _ _ _ r h => by simp [beacon_Slater_tail.l3] at h⟩
 | k + 1 => by
  obtain ⟨ih0, ih1, ih2, ih3, ih4, ih5⟩ := beacon_Slater_tail.mono_l k
  refine ⟨?_, ?_, ?_, ?_, ?_, ?_⟩
  ·intro y0 y1 y2 y3 y4 y5 y6 y7
   unfold beacon_Slater_tail.l0
   repeat' first
   | (with_reducible exact ih0 _ _ _ _ _ _ _ _)
   | (with_reducible exact ih1 _ _ _ _ _ _ _ _ _ _)
   | (with_reducible exact ih2 _ _ _ _ _ _ _ _ _ _)
   | (with_reducible exact ih3 _ _ _ _ _ _ _ _ _ _ _ _ _ _)
   | (with_reducible exact ih4 _ _ _)
   | (with_reducible exact ih5 _ _ _ _)
   | (with_reducible exact beacon_graph_degree.mono _ _ _)
   | (with_reducible exact slices_Index_bool_bool.mono _ _ _)
   | (with_reducible exact LeO.refl _)
   | (with_reducible exact LeO.none _)
   | (with_reducible refine LeO.ite ?_ ?_)
   | (with_reducible refine LeO.bind ?_ (fun _ => ?_))
   | exact ih0 _ _ _ _ _ _ _ _
   | exact ih1 _ _ _ _ _ _ _ _ _ _
   | exact ih2 _ _ _ _ _ _ _ _ _ _
   | exact ih3 _ _ _ _ _ _ _ _ _ _ _ _ _ _
   | exact ih4 _ _ _
   | exact ih5 _ _ _ _
   | exact beacon_graph_degree.mono _ _ _
   | exact slices_Index_bool_bool.mono _ _ _
   | exact LeO.none _
   | refine LeO.ite ?_ ?_
   | refine LeO.bind ?_ (fun _ => ?_)
  ·intro y0 y1 y2 y3 y4 y5 y6 y7 y8 y9
   unfold beacon_Slater_tail.l1
   repeat' first
   | (with_reducible exact ih0 _ _ _ _ _ _ _ _)
   | (with_reducible exact ih1 _ _ _ _ _ _ _ _ _ _)
   | (with_reducible exact ih2 _ _ _ _ _ _ _ _ _ _)
   | (with_reducible exact ih3 _ _ _ _ _ _ _ _ _ _ _ _ _ _)
   | (with_reducible exact ih4 _ _ _)
   | (with_reducible exact ih5 _ _ _ _)
   | (with_reducible exact beacon_graph_degree.mono _ _ _)
   | (with_reducible exact slices_Index_bool_bool.mono _ _ _)
   | (with_reducible exact LeO.refl _)
   | (with_reducible exact LeO.none _)
   | (with_reducible refine LeO.ite ?_ ?_)
   | (with_reducible refine LeO.bind ?_ (fun _ => ?_))
   | exact ih0 _ _ _ _ _ _ _ _
   | exact ih1 _ _ _ _ _ _ _ _ _ _
   | exact ih2 _ _ _ _ _ _ _ _ _ _
   | exact ih3 _ _ _ _ _ _ _ _ _ _ _ _ _ _
   | exact ih4 _ _ _
   | exact ih5 _ _ _ _
   | exact beacon_graph_degree.mono _ _ _
   | exact slices_Index_bool_bool.mono _ _ _
   | exact LeO.none _
   | refine LeO.ite ?_ ?_
   | refine LeO.bind ?_ (fun _ => ?_)
  ·intro y0 y1 y2 y3 y4 y5 y6 y7 y8 y9
   unfold beacon_Slater_tail.j3
   repeat' first
   | (with_reducible exact ih0 _ _ _ _ _ _ _ _)
   | (with_reducible exact ih1 _ _ _ _ _ _ _ _ _ _)
   | (with_reducible exact ih2 _ _ _ _ _ _ _ _ _ _)
   | (with_reducible exact ih3 _ _ _ _ _ _ _ _ _ _ _ _ _ _)
   | (with_reducible exact ih4 _ _ _)
   | (with_reducible exact ih5 _ _ _ _)
   | (with_reducible exact beacon_graph_degree.mono _ _ _)
   | (with_reducible exact slices_Index_bool_bool.mono _ _ _)
   | (with_reducible exact LeO.refl _)
   | (with_reducible exact LeO.none _)
   | (with_reducible refine LeO.ite ?_ ?_)
   | (with_reducible refine LeO.bind ?_ (fun _ => ?_))
   | exact ih0 _ _ _ _ _ _ _ _
   | exact ih1 _ _ _ _ _ _ _ _ _ _
   | exact ih2 _ _ _ _ _ _ _ _ _ _
   | exact ih3 _ _ _ _ _ _ _ _ _ _ _ _ _ _
   | exact ih4 _ _ _
   | exact ih5 _ _ _ _
   | exact beacon_graph_degree.mono _ _ _
   | exact slices_Index_bool_bool.mono _ _ _
   | exact LeO.none _
   | refine LeO.ite ?_ ?_
   | refine LeO.bind ?_ (fun _ => ?_)
  ·intro y0 y1 y2 y3 y4 y5 y6 y7 y8 y9 y10 y11 y12 y13
   unfold beacon_Slater_tail.l2
   repeat' first
   | (with_reducible exact ih0 _ _ _ _ _ _ _ _)
   | (with_reducible exact ih1 _ _ _ _ _ _ _ _ _ _)
   | (with_reducible exact ih2 _ _ _ _ _ _ _ _ _ _)
   | (with_reducible exact ih3 _ _ _ _ _ _ _ _ _ _ _ _ _ _)
   | (with_reducible exact ih4 _ _ _)
   | (with_reducible exact ih5 _ _ _ _)
   | (with_reducible exact beacon_graph_degree.mono _ _ _)
   | (with_reducible exact slices_Index_bool_bool.mono _ _ _)
   | (with_reducible exact LeO.refl _)
   | (with_reducible exact LeO.none _)
   | (with_reducible refine LeO.ite ?_ ?_)
   | (with_reducible refine LeO.bind ?_ (fun _ => ?_))
   | exact ih0 _ _ _ _ _ _ _ _
   | exact ih1 _ _ _ _ _ _ _ _ _ _
   | exact ih2 _ _ _ _ _ _ _ _ _ _
   | exact ih3 _ _ _ _ _ _ _ _ _ _ _ _ _ _
   | exact ih4 _ _ _
   | exact ih5 _ _ _ _
   | exact beacon_graph_degree.mono _ _ _
   | exact slices_Index_bool_bool.mono _ _ _
   | exact LeO.none _
   | refine LeO.ite ?_ ?_
   | refine LeO.bind ?_ (fun _ => ?_)
  ·intro y0 y1 y2
   unfold beacon_Slater_tail.j4
   repeat' first
   | (with_reducible exact ih0 _ _ _ _ _ _ _ _)
   | (with_reducible exact ih1 _ _ _ _ _ _ _ _ _ _)
   | (with_reducible exact ih2 _ _ _ _ _ _ _ _ _ _)
   | (with_reducible exact ih3 _ _ _ _ _ _ _ _ _ _ _ _ _ _)
   | (with_reducible exact ih4 _ _ _)
   | (with_reducible exact ih5 _ _ _ _)
   | (with_reducible exact beacon_graph_degree.mono _ _ _)
   | (with_reducible exact slices_Index_bool_bool.mono _ _ _)
   | (with_reducible exact LeO.refl _)
   | (with_reducible exact LeO.none _)
   | (with_reducible refine LeO.ite ?_ ?_)
   | (with_reducible refine LeO.bind ?_ (fun _ => ?_))
   | exact ih0 _ _ _ _ _ _ _ _
   | exact ih1 _ _ _ _ _ _ _ _ _ _
   | exact ih2 _ _ _ _ _ _ _ _ _ _
   | exact ih3 _ _ _ _ _ _ _ _ _ _ _ _ _ _
   | exact ih4 _ _ _
   | exact ih5 _ _ _ _
   | exact beacon_graph_degree.mono _ _ _
   | exact slices_Index_bool_bool.mono _ _ _
   | exact LeO.none _
   | refine LeO.ite ?_ ?_
   | refine LeO.bind ?_ (fun _ => ?_)
  ·intro y0 y1 y2 y3
   unfold beacon_Slater_tail.l3
   repeat' first
   | (with_reducible exact ih0 _ _ _ _ _ _ _ _)
   | (with_reducible exact ih1 _ _ _ _ _ _ _ _ _ _)
   | (with_reducible exact ih2 _ _ _ _ _ _ _ _ _ _)
   | (with_reducible exact ih3 _ _ _ _ _ _ _ _ _ _ _ _ _ _)
   | (with_reducible exact ih4 _ _ _)
   | (with_reducible exact ih5 _ _ _ _)
   | (with_reducible exact beacon_graph_degree.mono _ _ _)
   | (with_reducible exact slices_Index_bool_bool.mono _ _ _)
   | (with_reducible exact LeO.refl _)
   | (with_reducible exact LeO.none _)
   | (with_reducible refine LeO.ite ?_ ?_)
   | (with_reducible refine LeO.bind ?_ (fun _ => ?_))
   | exact ih0 _ _ _ _ _ _ _ _
   | exact ih1 _ _ _ _ _ _ _ _ _ _
   | exact ih2 _ _ _ _ _ _ _ _ _ _
   | exact ih3 _ _ _ _ _ _ _ _ _ _ _ _ _ _
   | exact ih4 _ _ _
   | exact ih5 _ _ _ _
   | exact beacon_graph_degree.mono _ _ _
   | exact slices_Index_bool_bool.mono _ _ _
   | exact LeO.none _
   | refine LeO.ite ?_ ?_
   | refine LeO.bind ?_ (fun _ => ?_)
theorem beacon_Slater_tail.mono : ∀ a0 a1 a2 k, LeO (beacon_Slater_tail.f k a0 a1 a2) (beacon_Slater_tail.f (k + 1) a0 a1 a2) := by
 intro a0 a1 a2 k
 obtain ⟨ih0, ih1, ih2, ih3, ih4, ih5⟩ := beacon_Slater_tail.mono_l k
 unfold beacon_Slater_tail.f
 repeat' first
   | (with_reducible exact ih0 _ _ _ _ _ _ _ _)
   | (with_reducible exact ih1 _ _ _ _ _ _ _ _ _ _)
   | (with_reducible exact ih2 _ _ _ _ _ _ _ _ _ _)
   | (with_reducible exact ih3 _ _ _ _ _ _ _ _ _ _ _ _ _ _)
   | (with_reducible exact ih4 _ _ _)
   | (with_reducible exact ih5 _ _ _ _)
   | (with_reducible exact beacon_graph_degree.mono _ _ _)
   | (with_reducible exact slices_Index_bool_bool.mono _ _ _)
   | (with_reducible exact LeO.refl _)
   | (with_reducible exact LeO.none _)
   | (with_reducible refine LeO.ite ?_ ?_)
   | (with_reducible refine LeO.bind ?_ (fun _ => ?_))
   | exact ih0 _ _ _ _ _ _ _ _
   | exact ih1 _ _ _ _ _ _ _ _ _ _
   | exact ih2 _ _ _ _ _ _ _ _ _ _
   | exact ih3 _ _ _ _ _ _ _ _ _ _ _ _ _ _
   | exact ih4 _ _ _
   | exact ih5 _ _ _ _
   | exact beacon_graph_degree.mono _ _ _
   | exact slices_Index_bool_bool.mono _ _ _
   | exact LeO.none _
   | refine LeO.ite ?_ ?_
   | refine LeO.bind ?_ (fun _ => ?_)
set_option maxHeartbeats 8000000 in
set_option maxRecDepth 100000 in
theorem beacon_Slater_tail.calls (k : Nat) (a0 : Int) (A1 : Option Addr) (c1 : Nat) (l1 : List (S47)) (l772 : List (S82)) (r1 : Int) (r2 : Int) (w00 : World) (hr1 : Kd.C k47 w00 A1 l1.length l1) (hc1 : l1.length ≤ c1) (hcall : Calls Tryd.prog 46 #[.int .i64 a0, .slice A1 l1.length c1] w00 fun e w' => ∃ B, e = .returned (.tuple #[.pointer B, .bool true]) ∧ Below w00.heap.size w00 w' ∧ Kd.C k82 w' B l772.length l772) (h : beacon_Slater_tail.f k a0 l1 l772 = some (r1, r2)) :
  Calls Tryd.prog 24 #[.int .i64 a0, .slice A1 l1.length c1] w00 fun e w' => ∃ w : World, Below w00.heap.size w00 w ∧ (e = .returned (.tuple #[.int .i64 r1, .int .i64 r2]) ∧ Below w.heap.size w w') := by
 have HCALL := Aside0.mk hcall
 clear hcall
 have HR1 := Aside0.mk hr1
 have HC1 := Aside0.mk hc1
 clear hr1 hc1
 have H : (if 0 ≤ a0 then (if (a0 : Int).toNat ≤ 281474976710656 then (beacon_Slater_tail.l0 k a0 l772 0 0 0 (List.replicate (a0 : Int).toNat false) a0 0) else (none)) else (none)) = some (r1, r2) := h
 clear h
 by_cases c4 : 0 ≤ a0
 ·rw [if_pos c4] at H
  have c4b0 := eq_true c4
  have c4b1 : decide (0 ≤ a0) = true := decide_eq_true c4
  clear c4
  by_cases c5 : (a0 : Int).toNat ≤ 281474976710656
  ·rw [if_pos c5] at H
   have c5b0 := eq_true c5
   have c5b1 : decide ((a0 : Int).toNat ≤ 281474976710656) = true := decide_eq_true c5
   clear c5
   obtain ⟨y107, hy107⟩ : ∃ y_ : List Bool, y_ = (List.replicate (a0 : Int).toNat false) := ⟨_, rfl⟩
   replace H : (beacon_Slater_tail.l0 k a0 l772 0 0 0 y107 a0 0) = some (r1, r2) := by first | (rw [hy107]; with_reducible exact H) | (have H2_ := (Option.bind_some _ _).symm.trans H; rw [hy107]; with_reducible exact H2_) | (have H2_ := (Option.bind_some _ _).symm.trans H; with_reducible exact H2_) | with_reducible exact H | (rw [hy107]; exact H) | exact H
   have Ny107 := Aside0.mk hy107
   clear hy107
   have H' := Aside0.mk H
   clear H
   go_enter Tryd.func24, Tryd.ntmps24
   go_wp2_with (fail)
   refine HCALL.out.mono ?_
   rintro e w ⟨A772, rfl, hb00, hg00⟩
   obtain ⟨c772, hc772⟩ : ∃ c : Nat, l772.length ≤ c := ⟨_, Nat.le_refl _⟩
   have HC772 := Aside0.mk hc772
   have HR772 := Aside0.mk hg00
   replace HR1 := Aside0.mk (Kd.C_below HR1.out hb00)
   have HB00 := Aside0.mk hb00
   clear hc772 hg00 hb00 HCALL
   have HB := Aside0.mk (Below.refl w.heap.size w)
   go_wp2_with (first | ((with_reducible refine gate_dst (N := 30) rfl ?_); refine Kd.R_make Kd.bool _ 4 rfl (N := 30) rfl 78 _ _ rfl a0 rfl rfl Tryd.underlying78 (.bool false) 1 info4 rfl (by decide) (by omega) false (ok := fun _ => True) (okp := fun _ => True) rfl (fun _ hk => hk) trivial (of_decide_eq_true (by first | (with_reducible assumption) | assumption)) (Nat.le_trans (Nat.mul_le_mul_right _ (of_decide_eq_true (by first | (with_reducible assumption) | assumption) : a0.toNat ≤ 281474976710656)) (by omega)) (Below.refl _ _) (Nat.le_refl _) ?_; intro v108 w6 ho7 hb hg_ hnew_; clear hg_ hnew_; (first | rw [← Ny107.out] at ho7 | (simp only [Int.reduceToNat] at ho7; rw [← Ny107.out] at ho7)); have n0_ := Aside0.mk (Kd.R_lower ho7 (below_size (by repeat (first | (with_reducible first | exact HB.out | apply below_alloc | apply pw_below_drewN | apply below_drew1) | exact HB.out)))); have n1_ := Aside0.mk (below_step (by repeat (first | (with_reducible first | exact HB.out | apply below_alloc | apply pw_below_drewN | apply below_drew1) | exact HB.out)) hb); clear HB; have HO109 := n0_; have HB := n1_; clear n0_ n1_; clear hb ho7))
   go_loopg [8, 9, 10, 32] k (fun kq v8 v9 v10 v32 w' => ∃ (x8_1 : Int) (x9_1 : Int) (x10_1 : Int) (x11_1 : List Bool) (x32_1 : Int), v8 = .int .i64 x8_1 ∧ v9 = .int .i64 x9_1 ∧ v10 = .int .i64 x10_1 ∧ v32 = .int .i64 x32_1 ∧ Aside0 (beacon_Slater_tail.l0 kq a0 l772 x8_1 x9_1 x10_1 x11_1 a0 x32_1 = some (r1, r2)) ∧ Aside0 (kq ≤ k) ∧ Aside0 (Kd.R Kd.bool 4 w' w.heap.size (fun _ => True) v108 x11_1) ∧ Aside0 (Below w.heap.size w w'))
   case atStart => exact ⟨(0), (0), (0), (y107), (0), (by first | rfl | (simp; done) | (simp [*]; done)), (by first | rfl | (simp; done) | (simp [*]; done)), (by first | rfl | (simp; done) | (simp [*]; done)), (by first | rfl | (simp; done) | (simp [*]; done)), H', ⟨Nat.le_refl _⟩, ⟨by (with_reducible repeat (first | apply Kd.R_alloc | apply Kd.R_drewN | apply Kd.R_drew)); exact HO109.out⟩, ⟨by repeat (first | (with_reducible first | exact HB.out | apply below_alloc | apply pw_below_drewN | apply below_drew1) | exact HB.out)⟩⟩
   case round =>
    clear H'
    try clear c1
    try clear c2
    try clear p2
    try clear c4
    try clear c4b0
    try clear c4b1
    try clear c5
    try clear c5b0
    try clear c5b1
    try clear c7
    obtain ⟨x8_1, x9_1, x10_1, x11_1, x32_1, rfl, rfl, rfl, rfl, HA, HK1, HO_11, HB⟩ := hrel
    cases gk with
    | zero => exact absurd HA.out (by simp [beacon_Slater_tail.l0])
    | succ k1 =>
     have H := HA.out
     clear HA
     simp only [beacon_Slater_tail.l0] at H
     by_cases c8 : x32_1 < a0
     ·rw [if_pos c8] at H
      have c8b0 : decide (x32_1 < a0) = true := decide_eq_true c8
      clear c8
      replace H := Option.bind_eq_some_iff.mp H
      obtain ⟨t110, A90, H⟩ := H
      replace H : (if t110 = 1 then (beacon_Slater_tail.l1 k1 a0 l772 (wrap64 (x8_1 + t110)) (mx x9_1 t110) (wrap64 (x10_1 + 1)) x11_1 (-1) x32_1 a0 x32_1) else (beacon_Slater_tail.l0 k1 a0 l772 (wrap64 (x8_1 + t110)) (mx x9_1 t110) x10_1 x11_1 a0 (wrap64 (x32_1 + 1)))) = some (r1, r2) := H
      have A9 := Aside0.mk A90
      clear A90
      obtain ⟨ji10, hji10⟩ : ∃ j_ : Int, (mx x9_1 t110) = j_ := ⟨_, rfl⟩
      replace H : (if t110 = 1 then (beacon_Slater_tail.l1 k1 a0 l772 (wrap64 (x8_1 + t110)) ji10 (wrap64 (x10_1 + 1)) x11_1 (-1) x32_1 a0 x32_1) else (beacon_Slater_tail.l0 k1 a0 l772 (wrap64 (x8_1 + t110)) ji10 x10_1 x11_1 a0 (wrap64 (x32_1 + 1)))) = some (r1, r2) := by first | (rw [hji10] at H; exact H) | (simp only [hji10] at H ⊢; exact H)
      (try rw [hji10] at A9)
      have hji10_ : (if x9_1 < t110 then t110 else x9_1) = ji10 := hji10
      by_cases c11 : t110 = 1
      ·rw [if_pos c11] at H
       have c11b0 : (t110 == 1) = true := beq_iff_eq.mpr c11
       have c11b1 : (t110 != 1) = false := bne_eq_false_iff_eq.mpr c11
       clear c11
       have H' := Aside0.mk H
       clear H
       go_wp2_with (first | ((with_reducible refine gate_callee (f := 53) rfl ?_); refine goesL_ (some 37) rfl rfl Tryd.func53 (by kernel_rfl) rfl #[.pointer A772, .int .i64 x32_1] rfl (by (try simp only [List.map_toArray, List.map_cons, List.map_nil]); first | done | rfl | (simp only [List.length_drop, List.length_take]; rfl)) ?_; (with_reducible refine (beacon_graph_degree.calls k1 _ c772 l772 x32_1 t110 _ ?side1 ?side2 A9.out).mono ?_); (case side1 => repeat (first | exact (Kd.C_below HR772.out HB.out) | (with_reducible refine Kd.C_alloc ?_ _) | (with_reducible refine Kd.C_drewN ?_ _) | (with_reducible refine Kd.C_drew ?_))); (case side2 => exact HC772.out); rintro e w' ⟨rfl, ⟨nd, rfl⟩⟩; refine ⟨_, rfl, ?_⟩))
       go_loopg [14, 15] k1 (fun kq v14 v15 w' => ∃ (x14_2 : Int) (x15_2 : Int), v14 = .int .i64 x14_2 ∧ v15 = .int .i64 x15_2 ∧ Aside0 (beacon_Slater_tail.l1 kq a0 l772 (wrap64 (x8_1 + t110)) ji10 (wrap64 (x10_1 + 1)) x11_1 x14_2 x15_2 a0 x32_1 = some (r1, r2)) ∧ Aside0 (kq ≤ k1) ∧ Aside0 (Kd.R Kd.bool 4 w' w.heap.size (fun _ => True) v108 x11_1) ∧ Aside0 (Below w.heap.size w w'))
       case atStart => exact ⟨((-1)), (x32_1), (by first | rfl | (simp; done) | (simp [*]; done)), (by first | rfl | (simp; done) | (simp [*]; done)), H', ⟨Nat.le_refl _⟩, ⟨by (with_reducible repeat (first | apply Kd.R_alloc | apply Kd.R_drewN | apply Kd.R_drew)); exact HO_11.out⟩, ⟨by repeat (first | (with_reducible first | exact HB.out | apply below_alloc | apply pw_below_drewN | apply below_drew1) | exact HB.out)⟩⟩
       case round =>
        clear H'
        try clear c1
        try clear c2
        try clear p2
        try clear c4
        try clear c4b0
        try clear c4b1
        try clear c5
        try clear c5b0
        try clear c5b1
        try clear p6
        try clear c7
        try clear c8
        try clear c8b0
        try clear c11
        try clear c11b0
        try clear c11b1
        try clear p2
        obtain ⟨x14_2, x15_2, rfl, rfl, HA, HK2, HO_11, HB⟩ := hrel
        cases gk with
        | zero => exact absurd HA.out (by simp [beacon_Slater_tail.l1])
        | succ k2 =>
         have H := HA.out
         clear HA
         simp only [beacon_Slater_tail.l1] at H
         by_cases c12 : 0 < (l772.length : Int)
         ·rw [if_pos c12] at H
          have c12b0 : decide (0 < (l772.length : Int)) = true := decide_eq_true c12
          have c12b1 : decide (0 < l772.length) = true := decide_eq_true (by omega)
          clear c12
          by_cases c13 : 0 ≤ x15_2
          ·rw [if_pos c13] at H
           have c13b0 : decide (0 ≤ x15_2) = true := decide_eq_true c13
           clear c13
           by_cases c14 : x15_2 < (((rd_T82 l772 0).f1).length : Int)
           ·rw [if_pos c14] at H
            have c14b0 : decide (x15_2 < (((rd_T82 l772 0).f1).length : Int)) = true := decide_eq_true c14
            clear c14
            replace H := Option.bind_eq_some_iff.mp H
            obtain ⟨t113, A150, H⟩ := H
            replace H : (if t113 = x14_2 then (beacon_Slater_tail.l2 k2 a0 l772 (wrap64 (x8_1 + t110)) ji10 (wrap64 (x10_1 + 1)) x11_1 x14_2 x15_2 x15_2 a0 x32_1 (rd_L3 ((rd_T82 l772 0).f1) x15_2) ((rd_L3 ((rd_T82 l772 0).f1) x15_2).length : Int) 0) else (beacon_Slater_tail.j3 k2 a0 l772 (wrap64 (x8_1 + t110)) ji10 (wrap64 (x10_1 + 1)) x11_1 x15_2 t113 a0 x32_1)) = some (r1, r2) := H
            have A15 := Aside0.mk A150
            clear A150
            have HC16 := Aside0.mk H
            clear H
            have p111 : 0 ≤ (0 : Int) := (by omega)
            have q111 : 0 < (l772.length : Int) := of_decide_eq_true (by first | (with_reducible assumption) | assumption)
            obtain ⟨ad111, A111_1, c111_1, A111_2, c111_2, e111, hx111_0, hx111_1, hx111_2, hl111_1, hi111_1, hl111_2, hi111_2⟩ := at_T82 HR772.out 0 p111 q111
            cases e111
            (try simp only [show (0 : Int).toNat = 0 from rfl, Nat.zero_mul, rp_add0] at hx111_0)
            (try simp only [show (0 : Int).toNat = 0 from rfl, Nat.zero_mul, rp_add0] at hx111_1)
            (try simp only [show (0 : Int).toNat = 0 from rfl, Nat.zero_mul, rp_add0] at hx111_2)
            have qi111 : (0 < l772.length) = True := eq_true (by omega)
            (try rw [show ((0 : Int)).toNat = 0 from rfl] at hx111_0)
            (try rw [show 0 * 3 = 0 from rfl] at hx111_0)
            (try rw [Addr.add_zero'] at hx111_0)
            (try rw [show ((0 : Int)).toNat = 0 from rfl] at hx111_1)
            (try rw [show 0 * 3 = 0 from rfl] at hx111_1)
            (try rw [Addr.add_zero'] at hx111_1)
            (try rw [show ((0 : Int)).toNat = 0 from rfl] at hx111_2)
            (try rw [show 0 * 3 = 0 from rfl] at hx111_2)
            (try rw [Addr.add_zero'] at hx111_2)
            replace hx111_0 := (HB.out.cell (World.block_lt_of_cell? w _ hx111_0)).trans hx111_0
            replace hx111_1 := (HB.out.cell (World.block_lt_of_cell? w _ hx111_1)).trans hx111_1
            replace hx111_2 := (HB.out.cell (World.block_lt_of_cell? w _ hx111_2)).trans hx111_2
            have HR111_1 := Aside0.mk hi111_1
            have HC111_1 := Aside0.mk hl111_1
            clear hi111_1 hl111_1
            have HR111_2 := Aside0.mk hi111_2
            have HC111_2 := Aside0.mk hl111_2
            clear hi111_2 hl111_2
            replace p111 := eq_true p111
            replace q111 := eq_true q111
            have p112 : 0 ≤ (x15_2 : Int) := of_decide_eq_true (by first | (with_reducible assumption) | assumption)
            have q112 : x15_2 < (((rd_T82 l772 0).f1).length : Int) := of_decide_eq_true (by first | (with_reducible assumption) | assumption)
            obtain ⟨ad112, A112_0, c112_0, e112, hx112_0, hl112_0, hi112_0⟩ := at_L3 HR111_1.out x15_2 p112 q112
            cases e112
            replace hx112_0 := (HB.out.cell (World.block_lt_of_cell? w _ hx112_0)).trans hx112_0
            have HR112_0 := Aside0.mk hi112_0
            have HC112_0 := Aside0.mk hl112_0
            clear hi112_0 hl112_0
            replace p112 := eq_true p112
            replace q112 := eq_true q112
            go_upto_if 59 with (first | ((with_reducible refine gate_callee (f := 54) rfl ?_); refine goesL_ (some 56) rfl rfl Tryd.func54 (by kernel_rfl) rfl #[.slice A112_0 (rd_L3 ((rd_T82 l772 0).f1) x15_2).length c112_0, .bool true] rfl (by (try simp only [List.map_toArray, List.map_cons, List.map_nil]); first | done | rfl | (simp only [List.length_drop, List.length_take]; rfl)) ?_; (with_reducible refine (slices_Index_bool_bool.calls k2 _ _ (rd_L3 ((rd_T82 l772 0).f1) x15_2) true t113 _ ?side1 ?side2 A15.out).mono ?_); (case side1 => repeat (first | exact (Kd.C_below HR112_0.out HB.out) | (with_reducible refine Kd.C_alloc ?_ _) | (with_reducible refine Kd.C_drewN ?_ _) | (with_reducible refine Kd.C_drew ?_))); (case side2 => exact HC112_0.out); rintro e w' ⟨rfl, ⟨nd, rfl⟩⟩; refine ⟨_, rfl, ?_⟩))
            (try simp only [Act.put, List.setIfInBounds_toArray, List.set_cons_zero, List.set_cons_succ])
            go_cut [16] (fun v16 wc => ∃ (kq : Nat) (x16_15 : Int), v16 = .int .i64 x16_15 ∧ Aside0 (beacon_Slater_tail.j3 kq a0 l772 (wrap64 (x8_1 + t110)) ji10 (wrap64 (x10_1 + 1)) x11_1 x15_2 x16_15 a0 x32_1 = some (r1, r2)) ∧ Aside0 (kq ≤ k2) ∧ Aside0 (Kd.R Kd.bool 4 wc w.heap.size (fun _ => True) v108 x11_1) ∧ Aside0 (Below w.heap.size w wc))
            case first =>
             have H := HC16.out
             clear HC16
             by_cases c17 : t113 = x14_2
             ·rw [if_pos c17] at H
              have c17b0 : (t113 == x14_2) = true := beq_iff_eq.mpr c17
              have c17b1 : (t113 != x14_2) = false := bne_eq_false_iff_eq.mpr c17
              clear c17
              (first | rw [c17b0] | (simp only [i64_w, i32_w]; rw [c17b0]) | skip)
              have H' := Aside0.mk H
              clear H
              have p114 : 0 ≤ (0 : Int) := (by omega)
              have q114 : 0 < (l772.length : Int) := of_decide_eq_true (by first | (with_reducible assumption) | assumption)
              obtain ⟨ad114, A114_1, c114_1, A114_2, c114_2, e114, hx114_0, hx114_1, hx114_2, hl114_1, hi114_1, hl114_2, hi114_2⟩ := at_T82 HR772.out 0 p114 q114
              obtain rfl : ad111 = ad114 := (by injection e114)
              (try simp only [show (0 : Int).toNat = 0 from rfl, Nat.zero_mul, rp_add0] at hx114_0)
              (try simp only [show (0 : Int).toNat = 0 from rfl, Nat.zero_mul, rp_add0] at hx114_1)
              (try simp only [show (0 : Int).toNat = 0 from rfl, Nat.zero_mul, rp_add0] at hx114_2)
              have qi114 : (0 < l772.length) = True := eq_true (by omega)
              (try rw [show ((0 : Int)).toNat = 0 from rfl] at hx114_0)
              (try rw [show 0 * 3 = 0 from rfl] at hx114_0)
              (try rw [Addr.add_zero'] at hx114_0)
              (try rw [show ((0 : Int)).toNat = 0 from rfl] at hx114_1)
              (try rw [show 0 * 3 = 0 from rfl] at hx114_1)
              (try rw [Addr.add_zero'] at hx114_1)
              (try rw [show ((0 : Int)).toNat = 0 from rfl] at hx114_2)
              (try rw [show 0 * 3 = 0 from rfl] at hx114_2)
              (try rw [Addr.add_zero'] at hx114_2)
              replace hx114_0 := (HB.out.cell (World.block_lt_of_cell? w _ hx114_0)).trans hx114_0
              replace hx114_1 := (HB.out.cell (World.block_lt_of_cell? w _ hx114_1)).trans hx114_1
              replace hx114_2 := (HB.out.cell (World.block_lt_of_cell? w _ hx114_2)).trans hx114_2
              have HR114_1 := Aside0.mk hi114_1
              have HC114_1 := Aside0.mk hl114_1
              clear hi114_1 hl114_1
              have HR114_2 := Aside0.mk hi114_2
              have HC114_2 := Aside0.mk hl114_2
              clear hi114_2 hl114_2
              replace p114 := eq_true p114
              replace q114 := eq_true q114
              injection (Option.some.inj (hx111_1.symm.trans hx114_1)) with u1_ _ u3_
              subst u1_
              subst u3_
              have p115 : 0 ≤ (x15_2 : Int) := of_decide_eq_true (by first | (with_reducible assumption) | assumption)
              have q115 : x15_2 < (((rd_T82 l772 0).f1).length : Int) := of_decide_eq_true (by first | (with_reducible assumption) | assumption)
              obtain ⟨ad115, A115_0, c115_0, e115, hx115_0, hl115_0, hi115_0⟩ := at_L3 HR114_1.out x15_2 p115 q115
              cases e115
              replace hx115_0 := (HB.out.cell (World.block_lt_of_cell? w _ hx115_0)).trans hx115_0
              injection (Option.some.inj (hx112_0.symm.trans hx115_0)) with u1_ _ u3_
              subst u1_
              subst u3_
              have HR115_0 := Aside0.mk hi115_0
              have HC115_0 := Aside0.mk hl115_0
              clear hi115_0 hl115_0
              replace p115 := eq_true p115
              replace q115 := eq_true q115
              go_wp2
              go_loopg [16, 69] k2 (fun kq v16 v69 w' => ∃ (x16_3 : Int) (x69_3 : Int), v16 = .int .i64 x16_3 ∧ v69 = .int .i64 x69_3 ∧ Aside0 (beacon_Slater_tail.l2 kq a0 l772 (wrap64 (x8_1 + t110)) ji10 (wrap64 (x10_1 + 1)) x11_1 x14_2 x15_2 x16_3 a0 x32_1 (rd_L3 ((rd_T82 l772 0).f1) x15_2) ((rd_L3 ((rd_T82 l772 0).f1) x15_2).length : Int) x69_3 = some (r1, r2)) ∧ Aside0 (kq ≤ k2) ∧ Aside0 (Kd.R Kd.bool 4 w' w.heap.size (fun _ => True) v108 x11_1) ∧ Aside0 (Below w.heap.size w w'))
              case atStart => exact ⟨(x15_2), (0), (by first | rfl | (simp; done) | (simp [*]; done)), (by first | rfl | (simp; done) | (simp [*]; done)), H', ⟨Nat.le_refl _⟩, ⟨by (with_reducible repeat (first | apply Kd.R_alloc | apply Kd.R_drewN | apply Kd.R_drew)); exact HO_11.out⟩, ⟨by repeat (first | (with_reducible first | exact HB.out | apply below_alloc | apply pw_below_drewN | apply below_drew1) | exact HB.out)⟩⟩
              case round =>
               clear H'
               try clear c1
               try clear p1
               try clear q1
               try clear hx1
               try clear qi1
               try clear c2
               try clear p2
               try clear c4
               try clear c4b0
               try clear c4b1
               try clear c5
               try clear c5b0
               try clear c5b1
               try clear p6
               try clear c7
               try clear c8
               try clear c8b0
               try clear c11
               try clear c11b0
               try clear c11b1
               try clear p11
               try clear q11
               try clear hx11
               try clear qi11
               try clear c12
               try clear c12b0
               try clear c12b1
               try clear c13
               try clear c13b0
               try clear c14
               try clear c14b0
               try clear c17
               try clear c17b0
               try clear c17b1
               try clear hx111_0
               try clear hx111_1
               try clear hx111_2
               try clear hx112_0
               try clear hx114_0
               try clear hx114_1
               try clear hx114_2
               try clear hx115_0
               try clear p111
               try clear p112
               try clear p114
               try clear p115
               try clear p2
               try clear p6
               try clear q111
               try clear q112
               try clear q114
               try clear q115
               obtain ⟨x16_3, x69_3, rfl, rfl, HA, HK3, HO_11, HB⟩ := hrel
               cases gk with
               | zero => exact absurd HA.out (by simp [beacon_Slater_tail.l2])
               | succ k3 =>
                have H := HA.out
                clear HA
                simp only [beacon_Slater_tail.l2] at H
                by_cases c18 : x69_3 < ((rd_L3 ((rd_T82 l772 0).f1) x15_2).length : Int)
                ·rw [if_pos c18] at H
                 have c18b0 : decide (x69_3 < ((rd_L3 ((rd_T82 l772 0).f1) x15_2).length : Int)) = true := decide_eq_true c18
                 clear c18
                 by_cases c19 : 0 ≤ x69_3
                 ·rw [if_pos c19] at H
                  have c19b0 : decide (0 ≤ x69_3) = true := decide_eq_true c19
                  clear c19
                  by_cases c20 : x69_3 < ((rd_L3 ((rd_T82 l772 0).f1) x15_2).length : Int)
                  ·rw [if_pos c20] at H
                   have c20b0 : decide (x69_3 < ((rd_L3 ((rd_T82 l772 0).f1) x15_2).length : Int)) = true := decide_eq_true c20
                   clear c20
                   obtain ⟨bq21, hbq21⟩ : ∃ b_ : Bool, b_ = (rdOf false (rd_L3 ((rd_T82 l772 0).f1) x15_2) x69_3) := ⟨_, rfl⟩
                   replace H : (if bq21 = true then (if x69_3 = x14_2 then (beacon_Slater_tail.l2 k3 a0 l772 (wrap64 (x8_1 + t110)) ji10 (wrap64 (x10_1 + 1)) x11_1 x14_2 x15_2 x16_3 a0 x32_1 (rd_L3 ((rd_T82 l772 0).f1) x15_2) ((rd_L3 ((rd_T82 l772 0).f1) x15_2).length : Int) (wrap64 (x69_3 + 1))) else (beacon_Slater_tail.l2 k3 a0 l772 (wrap64 (x8_1 + t110)) ji10 (wrap64 (x10_1 + 1)) x11_1 x14_2 x15_2 x69_3 a0 x32_1 (rd_L3 ((rd_T82 l772 0).f1) x15_2) ((rd_L3 ((rd_T82 l772 0).f1) x15_2).length : Int) (wrap64 (x69_3 + 1)))) else (beacon_Slater_tail.l2 k3 a0 l772 (wrap64 (x8_1 + t110)) ji10 (wrap64 (x10_1 + 1)) x11_1 x14_2 x15_2 x16_3 a0 x32_1 (rd_L3 ((rd_T82 l772 0).f1) x15_2) ((rd_L3 ((rd_T82 l772 0).f1) x15_2).length : Int) (wrap64 (x69_3 + 1)))) = some (r1, r2) := by rw [← hbq21] at H; exact H
                   have Nbq21 := Aside0.mk hbq21
                   clear hbq21
                   by_cases c22 : bq21 = true
                   ·subst c22
                    have H1 : (if x69_3 = x14_2 then (beacon_Slater_tail.l2 k3 a0 l772 (wrap64 (x8_1 + t110)) ji10 (wrap64 (x10_1 + 1)) x11_1 x14_2 x15_2 x16_3 a0 x32_1 (rd_L3 ((rd_T82 l772 0).f1) x15_2) ((rd_L3 ((rd_T82 l772 0).f1) x15_2).length : Int) (wrap64 (x69_3 + 1))) else (beacon_Slater_tail.l2 k3 a0 l772 (wrap64 (x8_1 + t110)) ji10 (wrap64 (x10_1 + 1)) x11_1 x14_2 x15_2 x69_3 a0 x32_1 (rd_L3 ((rd_T82 l772 0).f1) x15_2) ((rd_L3 ((rd_T82 l772 0).f1) x15_2).length : Int) (wrap64 (x69_3 + 1)))) = some (r1, r2) := by rw [if_pos rfl] at H; exact H
                    clear H
                    have H := H1
                    clear H1
                    by_cases c23 : x69_3 = x14_2
                    ·rw [if_pos c23] at H
                     have c23b0 : (x69_3 == x14_2) = true := beq_iff_eq.mpr c23
                     have c23b1 : (x69_3 != x14_2) = false := bne_eq_false_iff_eq.mpr c23
                     clear c23
                     have H' := Aside0.mk H
                     clear H
                     have p116 : 0 ≤ (x69_3 : Int) := of_decide_eq_true (by first | (with_reducible assumption) | assumption)
                     have q116 : x69_3 < ((rd_L3 ((rd_T82 l772 0).f1) x15_2).length : Int) := of_decide_eq_true (by first | (with_reducible assumption) | assumption)
                     obtain ⟨ad116, e116, hx116_0⟩ := Kd.at_bool HR115_0.out x69_3 p116 q116
                     (try rw [← Nbq21.out] at hx116_0)
                     cases e116
                     replace hx116_0 := (HB.out.cell (World.block_lt_of_cell? w _ hx116_0)).trans hx116_0
                     replace p116 := eq_true p116
                     replace q116 := eq_true q116
                     go_wp2
                     go_roundg k3
                     case measure => have := HK1.out; have := HK2.out; have := HK3.out; omega
                     case rel => exact ⟨(x16_3), (wrap64 (x69_3 + 1)), (by first | rfl | (simp; done) | (simp [*]; done)), (by first | rfl | (simp; done) | (simp [*]; done)), H', ⟨by have := HK1.out; have := HK2.out; have := HK3.out; omega⟩, ⟨by (with_reducible repeat (first | apply Kd.R_alloc | apply Kd.R_drewN | apply Kd.R_drew)); exact HO_11.out⟩, ⟨by repeat (first | (with_reducible first | exact HB.out | apply below_alloc | apply pw_below_drewN | apply below_drew1) | exact HB.out)⟩⟩
                    ·rw [if_neg c23] at H
                     have c23b0 : (x69_3 == x14_2) = false := beq_eq_false_iff_ne.mpr c23
                     have c23b1 : (x69_3 != x14_2) = true := bne_iff_ne.mpr c23
                     have H' := Aside0.mk H
                     clear H
                     have p116 : 0 ≤ (x69_3 : Int) := of_decide_eq_true (by first | (with_reducible assumption) | assumption)
                     have q116 : x69_3 < ((rd_L3 ((rd_T82 l772 0).f1) x15_2).length : Int) := of_decide_eq_true (by first | (with_reducible assumption) | assumption)
                     obtain ⟨ad116, e116, hx116_0⟩ := Kd.at_bool HR115_0.out x69_3 p116 q116
                     (try rw [← Nbq21.out] at hx116_0)
                     cases e116
                     replace hx116_0 := (HB.out.cell (World.block_lt_of_cell? w _ hx116_0)).trans hx116_0
                     replace p116 := eq_true p116
                     replace q116 := eq_true q116
                     go_wp2
                     go_roundg k3
                     case measure => have := HK1.out; have := HK2.out; have := HK3.out; omega
                     case rel => exact ⟨(x69_3), (wrap64 (x69_3 + 1)), (by first | rfl | (simp; done) | (simp [*]; done)), (by first | rfl | (simp; done) | (simp [*]; done)), H', ⟨by have := HK1.out; have := HK2.out; have := HK3.out; omega⟩, ⟨by (with_reducible repeat (first | apply Kd.R_alloc | apply Kd.R_drewN | apply Kd.R_drew)); exact HO_11.out⟩, ⟨by repeat (first | (with_reducible first | exact HB.out | apply below_alloc | apply pw_below_drewN | apply below_drew1) | exact HB.out)⟩⟩
                   ·replace c22 := Bool.eq_false_iff.mpr c22
                    subst c22
                    have H1 : (beacon_Slater_tail.l2 k3 a0 l772 (wrap64 (x8_1 + t110)) ji10 (wrap64 (x10_1 + 1)) x11_1 x14_2 x15_2 x16_3 a0 x32_1 (rd_L3 ((rd_T82 l772 0).f1) x15_2) ((rd_L3 ((rd_T82 l772 0).f1) x15_2).length : Int) (wrap64 (x69_3 + 1))) = some (r1, r2) := by rw [if_neg (show ¬ (false = true) by decide)] at H; exact H
                    clear H
                    have H := H1
                    clear H1
                    have H' := Aside0.mk H
                    clear H
                    have p116 : 0 ≤ (x69_3 : Int) := of_decide_eq_true (by first | (with_reducible assumption) | assumption)
                    have q116 : x69_3 < ((rd_L3 ((rd_T82 l772 0).f1) x15_2).length : Int) := of_decide_eq_true (by first | (with_reducible assumption) | assumption)
                    obtain ⟨ad116, e116, hx116_0⟩ := Kd.at_bool HR115_0.out x69_3 p116 q116
                    (try rw [← Nbq21.out] at hx116_0)
                    cases e116
                    replace hx116_0 := (HB.out.cell (World.block_lt_of_cell? w _ hx116_0)).trans hx116_0
                    replace p116 := eq_true p116
                    replace q116 := eq_true q116
                    go_wp2
                    go_roundg k3
                    case measure => have := HK1.out; have := HK2.out; have := HK3.out; omega
                    case rel => exact ⟨(x16_3), (wrap64 (x69_3 + 1)), (by first | rfl | (simp; done) | (simp [*]; done)), (by first | rfl | (simp; done) | (simp [*]; done)), H', ⟨by have := HK1.out; have := HK2.out; have := HK3.out; omega⟩, ⟨by (with_reducible repeat (first | apply Kd.R_alloc | apply Kd.R_drewN | apply Kd.R_drew)); exact HO_11.out⟩, ⟨by repeat (first | (with_reducible first | exact HB.out | apply below_alloc | apply pw_below_drewN | apply below_drew1) | exact HB.out)⟩⟩
                  ·rw [if_neg c20] at H
                   exact absurd H (by simp)
                 ·rw [if_neg c19] at H
                  exact absurd H (by simp)
                ·rw [if_neg c18] at H
                 have c18b0 : decide (x69_3 < ((rd_L3 ((rd_T82 l772 0).f1) x15_2).length : Int)) = false := decide_eq_false c18
                 clear c18
                 have H' := Aside0.mk H
                 clear H
                 go_wp2
                 go_meet
                 case rel => exact ⟨_, (x16_3), (by first | rfl | (simp; done) | (simp [*]; done)), H', ⟨by have := HK1.out; have := HK2.out; have := HK3.out; first | omega | exact Nat.le_refl _⟩, ⟨by (with_reducible repeat (first | apply Kd.R_alloc | apply Kd.R_drewN | apply Kd.R_drew)); exact HO_11.out⟩, ⟨by repeat (first | (with_reducible first | exact HB.out | apply below_alloc | apply pw_below_drewN | apply below_drew1) | exact HB.out)⟩⟩
             ·rw [if_neg c17] at H
              have c17b0 : (t113 == x14_2) = false := beq_eq_false_iff_ne.mpr c17
              have c17b1 : (t113 != x14_2) = true := bne_iff_ne.mpr c17
              (first | rw [c17b0] | (simp only [i64_w, i32_w]; rw [c17b0]) | skip)
              have H' := Aside0.mk H
              clear H
              go_wp2
              go_meet
              case rel => exact ⟨_, (t113), (by first | rfl | (simp; done) | (simp [*]; done)), H', ⟨by have := HK1.out; have := HK2.out; first | omega | exact Nat.le_refl _⟩, ⟨by (with_reducible repeat (first | apply Kd.R_alloc | apply Kd.R_drewN | apply Kd.R_drew)); exact HO_11.out⟩, ⟨by repeat (first | (with_reducible first | exact HB.out | apply below_alloc | apply pw_below_drewN | apply below_drew1) | exact HB.out)⟩⟩
            case rest =>
             clear HC16
             try clear c1
             try clear p1
             try clear q1
             try clear hx1
             try clear qi1
             try clear c2
             try clear p2
             try clear q2
             try clear c4
             try clear c4b0
             try clear c4b1
             try clear c5
             try clear c5b0
             try clear c5b1
             try clear p6
             try clear c7
             try clear c8
             try clear c8b0
             try clear c11
             try clear c11b0
             try clear c11b1
             try clear p11
             try clear q11
             try clear hx11
             try clear qi11
             try clear c12
             try clear c12b0
             try clear c12b1
             try clear c13
             try clear c13b0
             try clear c14
             try clear c14b0
             try clear c17
             try clear c17b0
             try clear c17b1
             try clear c18
             try clear c18b0
             try clear c19
             try clear c19b0
             try clear c20
             try clear c20b0
             try clear q21
             try clear c22
             try clear c23
             try clear c23b0
             try clear c23b1
             try clear hx111_0
             try clear hx111_1
             try clear hx111_2
             try clear hx112_0
             try clear hx114_0
             try clear hx114_1
             try clear hx114_2
             try clear hx115_0
             try clear hx116_0
             try clear p1
             try clear p11
             try clear p111
             try clear p112
             try clear p114
             try clear p115
             try clear p116
             try clear p2
             try clear p6
             try clear q1
             try clear q11
             try clear q111
             try clear q112
             try clear q114
             try clear q115
             try clear q116
             obtain ⟨kq, x16_15, rfl, HA, HJ15, HO_11, HB⟩ := hcut
             cases kq with
             | zero => exact absurd HA.out (by simp [beacon_Slater_tail.j3])
             | succ kj15 =>
              have H := HA.out
              clear HA
              simp only [beacon_Slater_tail.j3] at H
              by_cases c24 : x16_15 = x15_2
              ·rw [if_pos c24] at H
               have c24b0 : (x16_15 == x15_2) = true := beq_iff_eq.mpr c24
               have c24b1 : (x16_15 != x15_2) = false := bne_eq_false_iff_eq.mpr c24
               clear c24
               by_cases c25 : 0 ≤ x15_2
               ·rw [if_pos c25] at H
                have c25b0 : decide (0 ≤ x15_2) = true := decide_eq_true c25
                clear c25
                by_cases c26 : x15_2 < (x11_1.length : Int)
                ·rw [if_pos c26] at H
                 have c26b0 : decide (x15_2 < (x11_1.length : Int)) = true := decide_eq_true c26
                 clear c26
                 obtain ⟨y117, hy117⟩ : ∃ y_ : List Bool, y_ = (x11_1.set (x15_2 : Int).toNat true) := ⟨_, rfl⟩
                 replace H : (beacon_Slater_tail.l0 kj15 a0 l772 (wrap64 (x8_1 + t110)) ji10 (wrap64 (x10_1 + 1)) y117 a0 (wrap64 (x32_1 + 1))) = some (r1, r2) := by first | (rw [hy117]; with_reducible exact H) | (have H2_ := (Option.bind_some _ _).symm.trans H; rw [hy117]; with_reducible exact H2_) | (have H2_ := (Option.bind_some _ _).symm.trans H; with_reducible exact H2_) | with_reducible exact H | (rw [hy117]; exact H) | exact H
                 have Ny117 := Aside0.mk hy117
                 clear hy117
                 have H' := Aside0.mk H
                 clear H
                 have p27 : 0 ≤ (x15_2 : Int) := of_decide_eq_true (by first | (with_reducible assumption) | assumption)
                 have q27 : (x15_2 : Int) < ((x11_1.length : Int) : Int) := of_decide_eq_true (by first | (with_reducible assumption) | assumption)
                 obtain ⟨go27, co27, eo27, gb27, gl27, cl27, HG27⟩ := Kd.R_form HO_11.out (by omega)
                 (first | cases eo27 | (injection eo27 with ea_ en_ ec_; (first | subst ea_ | (injection ea_ with ea_; subst ea_)); subst ec_; clear en_))
                 have GB27 := Aside0.mk gb27
                 have GG27 := Aside0.mk HG27
                 clear gb27 gl27 HG27
                 obtain ⟨hx27_0, hf27_0⟩ := Kd.R_celln false HO_11.out (x15_2 : Int) p27 q27
                 replace p27 := eq_true p27
                 replace q27 := eq_true q27
                 have HP28 := Kd.R_putg HO_11.out (x15_2 : Int) true
                 go_wp2_with (first | ((with_reducible refine gate_store (t := 4) (p := 93) rfl ?_); refine store_event (t := 4) (p := 93) (v := ?vo_w29) (w1 := (wc.setCell ⟨go27, (x15_2 : Int).toNat, none⟩ (.bool true))) ?hg ?ho ?hn ?hr ?_; (case ho => rfl); (case hg => rfl); (case hn => rfl); (case hr => first | (go_simp; done) | (go_simp; rfl)); intro w29 hw; have hg : wc.grownBy w29 (some go27) := (by rw [hw]; exact HP28.2); have hp_ : Kd.R Kd.bool 4 w29 w.heap.size (fun _ => True) (.slice (some ⟨go27, 0, none⟩) x11_1.length co27) y117 := (by rw [hw, Ny117.out]; exact HP28.1); clear HP28; have n0_ := Aside0.mk (hp_); have n1_ := Aside0.mk ((by rw [hw]; exact below_set (HB.out) GB27.out : Below w.heap.size w w29)); clear HO_11; clear HB; have HO_11 := n0_; have HB := n1_; clear n0_ n1_; clear hg hw hp_))
                 go_roundg kj15
                 case measure => have := HK1.out; have := HK2.out; have := HJ15.out; omega
                 case rel => exact ⟨((wrap64 (x8_1 + t110))), (ji10), ((wrap64 (x10_1 + 1))), (y117), (wrap64 (x32_1 + 1)), (by first | rfl | (simp; done) | (simp [*]; done)), (by first | rfl | (simp; done) | (simp only [← hji10] <;> (first | rfl | simp)) | (simp [*]; done)), (by first | rfl | (simp; done) | (simp [*]; done)), (by first | rfl | (simp; done) | (simp [*]; done)), H', ⟨by have := HK1.out; have := HK2.out; have := HJ15.out; omega⟩, ⟨by (with_reducible repeat (first | apply Kd.R_alloc | apply Kd.R_drewN | apply Kd.R_drew)); exact HO_11.out⟩, ⟨by repeat (first | (with_reducible first | exact HB.out | apply below_alloc | apply pw_below_drewN | apply below_drew1) | exact HB.out)⟩⟩
                ·rw [if_neg c26] at H
                 exact absurd H (by simp)
               ·rw [if_neg c25] at H
                exact absurd H (by simp)
              ·rw [if_neg c24] at H
               have c24b0 : (x16_15 == x15_2) = false := beq_eq_false_iff_ne.mpr c24
               have c24b1 : (x16_15 != x15_2) = true := bne_iff_ne.mpr c24
               replace H := Option.bind_eq_some_iff.mp H
               obtain ⟨t118, A300, H⟩ := H
               replace H : (if t118 = 2 then (beacon_Slater_tail.l1 kj15 a0 l772 (wrap64 (x8_1 + t110)) ji10 (wrap64 (x10_1 + 1)) x11_1 x15_2 x16_15 a0 x32_1) else (if 0 ≤ x16_15 then (if x16_15 < (x11_1.length : Int) then (beacon_Slater_tail.l0 kj15 a0 l772 (wrap64 (x8_1 + t110)) ji10 (wrap64 (x10_1 + 1)) (x11_1.set (x16_15 : Int).toNat true) a0 (wrap64 (x32_1 + 1))) else (none)) else (none))) = some (r1, r2) := H
               have A30 := Aside0.mk A300
               clear A300
               by_cases c31 : t118 = 2
               ·rw [if_pos c31] at H
                have c31b0 : (t118 == 2) = true := beq_iff_eq.mpr c31
                have c31b1 : (t118 != 2) = false := bne_eq_false_iff_eq.mpr c31
                clear c31
                have H' := Aside0.mk H
                clear H
                go_wp2_with (first | ((with_reducible refine gate_callee (f := 53) rfl ?_); refine goesL_ (some 89) rfl rfl Tryd.func53 (by kernel_rfl) rfl #[.pointer (some ad111), .int .i64 x16_15] rfl (by (try simp only [List.map_toArray, List.map_cons, List.map_nil]); first | done | rfl | (simp only [List.length_drop, List.length_take]; rfl)) ?_; (with_reducible refine (beacon_graph_degree.calls kj15 _ c772 l772 x16_15 t118 _ ?side1 ?side2 A30.out).mono ?_); (case side1 => repeat (first | exact (Kd.C_below HR772.out HB.out) | (with_reducible refine Kd.C_alloc ?_ _) | (with_reducible refine Kd.C_drewN ?_ _) | (with_reducible refine Kd.C_drew ?_))); (case side2 => exact HC772.out); rintro e w' ⟨rfl, ⟨nd, rfl⟩⟩; refine ⟨_, rfl, ?_⟩))
                go_roundg kj15
                case measure => have := HK1.out; have := HK2.out; have := HJ15.out; omega
                case rel => exact ⟨(x15_2), (x16_15), (by first | rfl | (simp; done) | (simp [*]; done)), (by first | rfl | (simp; done) | (simp [*]; done)), H', ⟨by have := HK1.out; have := HK2.out; have := HJ15.out; omega⟩, ⟨by (with_reducible repeat (first | apply Kd.R_alloc | apply Kd.R_drewN | apply Kd.R_drew)); exact HO_11.out⟩, ⟨by repeat (first | (with_reducible first | exact HB.out | apply below_alloc | apply pw_below_drewN | apply below_drew1) | exact HB.out)⟩⟩
               ·rw [if_neg c31] at H
                have c31b0 : (t118 == 2) = false := beq_eq_false_iff_ne.mpr c31
                have c31b1 : (t118 != 2) = true := bne_iff_ne.mpr c31
                by_cases c32 : 0 ≤ x16_15
                ·rw [if_pos c32] at H
                 have c32b0 : decide (0 ≤ x16_15) = true := decide_eq_true c32
                 clear c32
                 by_cases c33 : x16_15 < (x11_1.length : Int)
                 ·rw [if_pos c33] at H
                  have c33b0 : decide (x16_15 < (x11_1.length : Int)) = true := decide_eq_true c33
                  clear c33
                  obtain ⟨y119, hy119⟩ : ∃ y_ : List Bool, y_ = (x11_1.set (x16_15 : Int).toNat true) := ⟨_, rfl⟩
                  replace H : (beacon_Slater_tail.l0 kj15 a0 l772 (wrap64 (x8_1 + t110)) ji10 (wrap64 (x10_1 + 1)) y119 a0 (wrap64 (x32_1 + 1))) = some (r1, r2) := by first | (rw [hy119]; with_reducible exact H) | (have H2_ := (Option.bind_some _ _).symm.trans H; rw [hy119]; with_reducible exact H2_) | (have H2_ := (Option.bind_some _ _).symm.trans H; with_reducible exact H2_) | with_reducible exact H | (rw [hy119]; exact H) | exact H
                  have Ny119 := Aside0.mk hy119
                  clear hy119
                  have H' := Aside0.mk H
                  clear H
                  go_wp2_with (first | ((with_reducible refine gate_callee (f := 53) rfl ?_); refine goesL_ (some 89) rfl rfl Tryd.func53 (by kernel_rfl) rfl #[.pointer (some ad111), .int .i64 x16_15] rfl (by (try simp only [List.map_toArray, List.map_cons, List.map_nil]); first | done | rfl | (simp only [List.length_drop, List.length_take]; rfl)) ?_; (with_reducible refine (beacon_graph_degree.calls kj15 _ c772 l772 x16_15 t118 _ ?side1 ?side2 A30.out).mono ?_); (case side1 => repeat (first | exact (Kd.C_below HR772.out HB.out) | (with_reducible refine Kd.C_alloc ?_ _) | (with_reducible refine Kd.C_drewN ?_ _) | (with_reducible refine Kd.C_drew ?_))); (case side2 => exact HC772.out); rintro e w' ⟨rfl, ⟨nd, rfl⟩⟩; refine ⟨_, rfl, ?_⟩; (try (rw [drewN_self wc]; generalize hq_ : World.drewN wc _ = wc; have n0_ : Aside0 (Kd.R Kd.bool 4 wc w.heap.size (fun _ => True) v108 x11_1) := ⟨by rw [← hq_]; exact (by (with_reducible repeat (first | apply Kd.R_alloc | apply Kd.R_drewN | apply Kd.R_drew)); exact HO_11.out)⟩; have n1_ : Aside0 (Below w.heap.size w wc) := ⟨by rw [← hq_]; exact (by repeat (first | (with_reducible first | exact HB.out | apply below_alloc | apply pw_below_drewN | apply below_drew1) | exact HB.out))⟩; clear HO_11 HB hq_; have HO_11 := n0_; have HB := n1_; clear n0_ n1_)); have p34 : 0 ≤ (x16_15 : Int) := of_decide_eq_true (by first | (with_reducible assumption) | assumption); have q34 : (x16_15 : Int) < ((x11_1.length : Int) : Int) := of_decide_eq_true (by first | (with_reducible assumption) | assumption); obtain ⟨go34, co34, eo34, gb34, gl34, cl34, HG34⟩ := Kd.R_form HO_11.out (by omega); (first | cases eo34 | (injection eo34 with ea_ en_ ec_; (first | subst ea_ | (injection ea_ with ea_; subst ea_)); subst ec_; clear en_)); have GB34 := Aside0.mk gb34; have GG34 := Aside0.mk HG34; clear gb34 gl34 HG34; obtain ⟨hx34_0, hf34_0⟩ := Kd.R_celln false HO_11.out (x16_15 : Int) p34 q34; replace p34 := eq_true p34; replace q34 := eq_true q34; obtain ⟨hy35_, hz35_⟩ := Kd.R_celln false HO_11.out (x16_15 : Int) (of_decide_eq_true (by first | (with_reducible assumption) | assumption)) (of_decide_eq_true (by first | (with_reducible assumption) | assumption)); have HP35 := Kd.R_putg HO_11.out (x16_15 : Int) true) | ((with_reducible refine gate_store (t := 4) (p := 93) rfl ?_); refine store_event (t := 4) (p := 93) (v := ?vo_w36) (w1 := (wc.setCell ⟨go34, (x16_15 : Int).toNat, none⟩ (.bool true))) ?hg ?ho ?hn ?hr ?_; (case ho => rfl); (case hg => rfl); (case hn => rfl); (case hr => first | (go_simp; done) | (go_simp; rfl)); intro w36 hw; have hg : wc.grownBy w36 (some go34) := (by rw [hw]; exact HP35.2); have hp_ : Kd.R Kd.bool 4 w36 w.heap.size (fun _ => True) (.slice (some ⟨go34, 0, none⟩) x11_1.length co34) y119 := (by rw [hw, Ny119.out]; exact HP35.1); clear HP35; have n0_ := Aside0.mk (hp_); have n1_ := Aside0.mk ((by rw [hw]; exact below_set (HB.out) GB34.out : Below w.heap.size w w36)); clear HO_11; clear HB; have HO_11 := n0_; have HB := n1_; clear n0_ n1_; clear hg hw hp_))
                  go_roundg kj15
                  case measure => have := HK1.out; have := HK2.out; have := HJ15.out; omega
                  case rel => exact ⟨((wrap64 (x8_1 + t110))), (ji10), ((wrap64 (x10_1 + 1))), (y119), (wrap64 (x32_1 + 1)), (by first | rfl | (simp; done) | (simp [*]; done)), (by first | rfl | (simp; done) | (simp only [← hji10] <;> (first | rfl | simp)) | (simp [*]; done)), (by first | rfl | (simp; done) | (simp [*]; done)), (by first | rfl | (simp; done) | (simp [*]; done)), H', ⟨by have := HK1.out; have := HK2.out; have := HJ15.out; omega⟩, ⟨by (with_reducible repeat (first | apply Kd.R_alloc | apply Kd.R_drewN | apply Kd.R_drew)); exact HO_11.out⟩, ⟨by repeat (first | (with_reducible first | exact HB.out | apply below_alloc | apply pw_below_drewN | apply below_drew1) | exact HB.out)⟩⟩
                 ·rw [if_neg c33] at H
                  exact absurd H (by simp)
                ·rw [if_neg c32] at H
                 exact absurd H (by simp)
           ·rw [if_neg c14] at H
            exact absurd H (by simp)
          ·rw [if_neg c13] at H
           exact absurd H (by simp)
         ·rw [if_neg c12] at H
          exact absurd H (by simp)
      ·rw [if_neg c11] at H
       have c11b0 : (t110 == 1) = false := beq_eq_false_iff_ne.mpr c11
       have c11b1 : (t110 != 1) = true := bne_iff_ne.mpr c11
       have H' := Aside0.mk H
       clear H
       go_wp2_with (first | ((with_reducible refine gate_callee (f := 53) rfl ?_); refine goesL_ (some 37) rfl rfl Tryd.func53 (by kernel_rfl) rfl #[.pointer A772, .int .i64 x32_1] rfl (by (try simp only [List.map_toArray, List.map_cons, List.map_nil]); first | done | rfl | (simp only [List.length_drop, List.length_take]; rfl)) ?_; (with_reducible refine (beacon_graph_degree.calls k1 _ c772 l772 x32_1 t110 _ ?side1 ?side2 A9.out).mono ?_); (case side1 => repeat (first | exact (Kd.C_below HR772.out HB.out) | (with_reducible refine Kd.C_alloc ?_ _) | (with_reducible refine Kd.C_drewN ?_ _) | (with_reducible refine Kd.C_drew ?_))); (case side2 => exact HC772.out); rintro e w' ⟨rfl, ⟨nd, rfl⟩⟩; refine ⟨_, rfl, ?_⟩))
       go_roundg k1
       case measure => have := HK1.out; omega
       case rel => exact ⟨(wrap64 (x8_1 + t110)), (ji10), (x10_1), (x11_1), (wrap64 (x32_1 + 1)), (by first | rfl | (simp; done) | (simp [*]; done)), (by first | rfl | (simp; done) | (simp only [← hji10] <;> (first | rfl | simp)) | (simp [*]; done)), (by first | rfl | (simp; done) | (simp [*]; done)), (by first | rfl | (simp; done) | (simp [*]; done)), H', ⟨by have := HK1.out; omega⟩, ⟨by (with_reducible repeat (first | apply Kd.R_alloc | apply Kd.R_drewN | apply Kd.R_drew)); exact HO_11.out⟩, ⟨by repeat (first | (with_reducible first | exact HB.out | apply below_alloc | apply pw_below_drewN | apply below_drew1) | exact HB.out)⟩⟩
     ·rw [if_neg c8] at H
      have c8b0 : decide (x32_1 < a0) = false := decide_eq_false c8
      clear c8
      have HC37 := Aside0.mk H
      clear H
      go_upto_region 28 with (fail)
      go_cut [103] (fun v103 wc => ∃ (kq : Nat) (x103_36 : Bool), v103 = .bool x103_36 ∧ Aside0 (beacon_Slater_tail.j4 kq x10_1 x11_1 x103_36 = some (r1, r2)) ∧ Aside0 (kq ≤ k1) ∧ Aside0 (Kd.R Kd.bool 4 wc w.heap.size (fun _ => True) v108 x11_1) ∧ Aside0 (Below w.heap.size w wc))
      case first =>
       have H := HC37.out
       clear HC37
       by_cases c38 : x8_1 = (wrap64 (2 * (wrap64 (a0 - 1))))
       ·rw [if_pos c38] at H
        have c38b0 : (x8_1 == (wrap64 (2 * (wrap64 (a0 - 1))))) = true := beq_iff_eq.mpr c38
        have c38b1 : (x8_1 != (wrap64 (2 * (wrap64 (a0 - 1))))) = false := bne_eq_false_iff_eq.mpr c38
        clear c38
        (first | rw [c38b0] | (simp only [i64_w, i32_w]; rw [c38b0]) | skip)
        have H' := Aside0.mk H
        clear H
        go_wp2
        go_meet
        case rel => exact ⟨_, (decide (x9_1 < 3)), (by first | rfl | (simp; done) | (simp [*]; done)), H', ⟨by have := HK1.out; first | omega | exact Nat.le_refl _⟩, ⟨by (with_reducible repeat (first | apply Kd.R_alloc | apply Kd.R_drewN | apply Kd.R_drew)); exact HO_11.out⟩, ⟨by repeat (first | (with_reducible first | exact HB.out | apply below_alloc | apply pw_below_drewN | apply below_drew1) | exact HB.out)⟩⟩
       ·rw [if_neg c38] at H
        have c38b0 : (x8_1 == (wrap64 (2 * (wrap64 (a0 - 1))))) = false := beq_eq_false_iff_ne.mpr c38
        have c38b1 : (x8_1 != (wrap64 (2 * (wrap64 (a0 - 1))))) = true := bne_iff_ne.mpr c38
        (first | rw [c38b0] | (simp only [i64_w, i32_w]; rw [c38b0]) | skip)
        have H' := Aside0.mk H
        clear H
        go_wp2
        go_meet
        case rel => exact ⟨_, (true), (by first | rfl | (simp; done) | (simp [*]; done)), H', ⟨by have := HK1.out; first | omega | exact Nat.le_refl _⟩, ⟨by (with_reducible repeat (first | apply Kd.R_alloc | apply Kd.R_drewN | apply Kd.R_drew)); exact HO_11.out⟩, ⟨by repeat (first | (with_reducible first | exact HB.out | apply below_alloc | apply pw_below_drewN | apply below_drew1) | exact HB.out)⟩⟩
      case rest =>
       clear HC37
       try clear c1
       try clear p1
       try clear q1
       try clear hx1
       try clear qi1
       try clear c2
       try clear p2
       try clear q2
       try clear hx2
       try clear c3
       try clear p3
       try clear q3
       try clear hx3
       try clear hf3
       try clear c4
       try clear c4b0
       try clear c4b1
       try clear c5
       try clear c5b0
       try clear c5b1
       try clear p6
       try clear c7
       try clear c8
       try clear c8b0
       try clear c11
       try clear c11b0
       try clear c11b1
       try clear p11
       try clear q11
       try clear hx11
       try clear qi11
       try clear c12
       try clear c12b0
       try clear c12b1
       try clear c13
       try clear c13b0
       try clear c14
       try clear c14b0
       try clear c17
       try clear c17b0
       try clear c17b1
       try clear c18
       try clear c18b0
       try clear c19
       try clear c19b0
       try clear c20
       try clear c20b0
       try clear q21
       try clear c22
       try clear c23
       try clear c23b0
       try clear c23b1
       try clear c24
       try clear c24b0
       try clear c24b1
       try clear c25
       try clear c25b0
       try clear c26
       try clear c26b0
       try clear p27
       try clear q27
       try clear hx27
       try clear hf27
       try clear c31
       try clear c31b0
       try clear c31b1
       try clear c32
       try clear c32b0
       try clear c33
       try clear c33b0
       try clear p34
       try clear q34
       try clear hx34
       try clear hf34
       try clear c38
       try clear c38b0
       try clear c38b1
       try clear hx111_0
       try clear hx111_1
       try clear hx111_2
       try clear hx112_0
       try clear hx114_0
       try clear hx114_1
       try clear hx114_2
       try clear hx115_0
       try clear hx116_0
       try clear hx27_0
       try clear hx34_0
       try clear p1
       try clear p11
       try clear p111
       try clear p112
       try clear p114
       try clear p115
       try clear p116
       try clear p2
       try clear p27
       try clear p34
       try clear p6
       try clear q1
       try clear q11
       try clear q111
       try clear q112
       try clear q114
       try clear q115
       try clear q116
       try clear q2
       try clear q21
       try clear q27
       try clear q34
       obtain ⟨kq, x103_36, rfl, HA, HJ36, HO_11, HB⟩ := hcut
       cases kq with
       | zero => exact absurd HA.out (by simp [beacon_Slater_tail.j4])
       | succ kj36 =>
        have H := HA.out
        clear HA
        simp only [beacon_Slater_tail.j4] at H
        by_cases c39 : x103_36 = true
        ·subst c39
         have H1 : (some (0, 5)) = some (r1, r2) := by rw [if_pos rfl] at H; exact H
         clear H
         have H := H1
         clear H1
         simp only [Option.some.injEq, Prod.mk.injEq] at H
         obtain ⟨rfl, rfl⟩ := H
         go_wp2
         go_ret2
         exact ⟨w, HB00.out, by first | rfl | (simp [errW_none, errW_some] <;> rfl) | (simp [*, errW_none, errW_some] <;> rfl), by repeat (first | (with_reducible first | exact HB.out | apply below_alloc | apply pw_below_drewN | apply below_drew1) | exact HB.out)⟩
        ·replace c39 := Bool.eq_false_iff.mpr c39
         subst c39
         have H1 : (beacon_Slater_tail.l3 kj36 x10_1 x11_1 (x11_1.length : Int) 0) = some (r1, r2) := by rw [if_neg (show ¬ (false = true) by decide)] at H; exact H
         clear H
         have H := H1
         clear H1
         have H' := Aside0.mk H
         clear H
         obtain ⟨Ao40, co40, eo40⟩ := Kd.R_slice HO_11.out
         subst eo40
         go_wp2
         go_loopg [10, 106] kj36 (fun kq v10 v106 w' => ∃ (x10_3 : Int) (x106_3 : Int), v10 = .int .i64 x10_3 ∧ v106 = .int .i64 x106_3 ∧ Aside0 (beacon_Slater_tail.l3 kq x10_3 x11_1 (x11_1.length : Int) x106_3 = some (r1, r2)) ∧ Aside0 (kq ≤ kj36) ∧ Aside0 (Kd.R Kd.bool 4 w' w.heap.size (fun _ => True) (.slice Ao40 x11_1.length co40) x11_1) ∧ Aside0 (Below w.heap.size w w'))
         case atStart => exact ⟨(x10_1), (0), (by first | rfl | (simp; done) | (simp [*]; done)), (by first | rfl | (simp; done) | (simp [*]; done)), H', ⟨Nat.le_refl _⟩, ⟨by (with_reducible repeat (first | apply Kd.R_alloc | apply Kd.R_drewN | apply Kd.R_drew)); exact HO_11.out⟩, ⟨by repeat (first | (with_reducible first | exact HB.out | apply below_alloc | apply pw_below_drewN | apply below_drew1) | exact HB.out)⟩⟩
         case round =>
          clear H'
          try clear c1
          try clear p1
          try clear q1
          try clear hx1
          try clear qi1
          try clear c2
          try clear p2
          try clear q2
          try clear hx2
          try clear c3
          try clear p3
          try clear q3
          try clear hx3
          try clear hf3
          try clear c4
          try clear c4b0
          try clear c4b1
          try clear c5
          try clear c5b0
          try clear c5b1
          try clear p6
          try clear c7
          try clear c8
          try clear c8b0
          try clear c11
          try clear c11b0
          try clear c11b1
          try clear p11
          try clear q11
          try clear hx11
          try clear qi11
          try clear c12
          try clear c12b0
          try clear c12b1
          try clear c13
          try clear c13b0
          try clear c14
          try clear c14b0
          try clear c17
          try clear c17b0
          try clear c17b1
          try clear c18
          try clear c18b0
          try clear c19
          try clear c19b0
          try clear c20
          try clear c20b0
          try clear q21
          try clear c22
          try clear c23
          try clear c23b0
          try clear c23b1
          try clear c24
          try clear c24b0
          try clear c24b1
          try clear c25
          try clear c25b0
          try clear c26
          try clear c26b0
          try clear p27
          try clear q27
          try clear hx27
          try clear hf27
          try clear c31
          try clear c31b0
          try clear c31b1
          try clear c32
          try clear c32b0
          try clear c33
          try clear c33b0
          try clear p34
          try clear q34
          try clear hx34
          try clear hf34
          try clear c38
          try clear c38b0
          try clear c38b1
          try clear c39
          try clear hx111_0
          try clear hx111_1
          try clear hx111_2
          try clear hx112_0
          try clear hx114_0
          try clear hx114_1
          try clear hx114_2
          try clear hx115_0
          try clear hx116_0
          try clear hx27_0
          try clear hx34_0
          try clear p1
          try clear p11
          try clear p111
          try clear p112
          try clear p114
          try clear p115
          try clear p116
          try clear p2
          try clear p27
          try clear p3
          try clear p34
          try clear p6
          try clear q1
          try clear q11
          try clear q111
          try clear q112
          try clear q114
          try clear q115
          try clear q116
          try clear q2
          try clear q21
          try clear q27
          try clear q3
          try clear q34
          obtain ⟨x10_3, x106_3, rfl, rfl, HA, HK3, HO_104, HB⟩ := hrel
          cases gk with
          | zero => exact absurd HA.out (by simp [beacon_Slater_tail.l3])
          | succ k3 =>
           have H := HA.out
           clear HA
           simp only [beacon_Slater_tail.l3] at H
           by_cases c41 : x106_3 < (x11_1.length : Int)
           ·rw [if_pos c41] at H
            have c41b0 : decide (x106_3 < (x11_1.length : Int)) = true := decide_eq_true c41
            clear c41
            by_cases c42 : 0 ≤ x106_3
            ·rw [if_pos c42] at H
             have c42b0 : decide (0 ≤ x106_3) = true := decide_eq_true c42
             clear c42
             by_cases c43 : x106_3 < (x11_1.length : Int)
             ·rw [if_pos c43] at H
              have c43b0 : decide (x106_3 < (x11_1.length : Int)) = true := decide_eq_true c43
              clear c43
              obtain ⟨bq44, hbq44⟩ : ∃ b_ : Bool, b_ = (rdOf false x11_1 x106_3) := ⟨_, rfl⟩
              replace H : (if bq44 = true then (beacon_Slater_tail.l3 k3 (wrap64 (x10_3 - 1)) x11_1 (x11_1.length : Int) (wrap64 (x106_3 + 1))) else (beacon_Slater_tail.l3 k3 x10_3 x11_1 (x11_1.length : Int) (wrap64 (x106_3 + 1)))) = some (r1, r2) := by rw [← hbq44] at H; exact H
              have Nbq44 := Aside0.mk hbq44
              clear hbq44
              by_cases c45 : bq44 = true
              ·subst c45
               have H1 : (beacon_Slater_tail.l3 k3 (wrap64 (x10_3 - 1)) x11_1 (x11_1.length : Int) (wrap64 (x106_3 + 1))) = some (r1, r2) := by rw [if_pos rfl] at H; exact H
               clear H
               have H := H1
               clear H1
               have H' := Aside0.mk H
               clear H
               have p120 : 0 ≤ (x106_3 : Int) := of_decide_eq_true (by first | (with_reducible assumption) | assumption)
               have q120 : x106_3 < (x11_1.length : Int) := of_decide_eq_true (by first | (with_reducible assumption) | assumption)
               obtain ⟨ad120, e120, hx120_0⟩ := Kd.at_bool (Kd.R_reads' HO_104.out).2.2 x106_3 p120 q120
               (try rw [← Nbq44.out] at hx120_0)
               cases e120
               replace p120 := eq_true p120
               replace q120 := eq_true q120
               go_wp2
               go_roundg k3
               case measure => have := HK1.out; have := HJ36.out; have := HK3.out; omega
               case rel => exact ⟨(wrap64 (x10_3 - 1)), (wrap64 (x106_3 + 1)), (by first | rfl | (simp; done) | (simp [*]; done)), (by first | rfl | (simp; done) | (simp [*]; done)), H', ⟨by have := HK1.out; have := HJ36.out; have := HK3.out; omega⟩, ⟨by (with_reducible repeat (first | apply Kd.R_alloc | apply Kd.R_drewN | apply Kd.R_drew)); exact HO_104.out⟩, ⟨by repeat (first | (with_reducible first | exact HB.out | apply below_alloc | apply pw_below_drewN | apply below_drew1) | exact HB.out)⟩⟩
              ·replace c45 := Bool.eq_false_iff.mpr c45
               subst c45
               have H1 : (beacon_Slater_tail.l3 k3 x10_3 x11_1 (x11_1.length : Int) (wrap64 (x106_3 + 1))) = some (r1, r2) := by rw [if_neg (show ¬ (false = true) by decide)] at H; exact H
               clear H
               have H := H1
               clear H1
               have H' := Aside0.mk H
               clear H
               have p120 : 0 ≤ (x106_3 : Int) := of_decide_eq_true (by first | (with_reducible assumption) | assumption)
               have q120 : x106_3 < (x11_1.length : Int) := of_decide_eq_true (by first | (with_reducible assumption) | assumption)
               obtain ⟨ad120, e120, hx120_0⟩ := Kd.at_bool (Kd.R_reads' HO_104.out).2.2 x106_3 p120 q120
               (try rw [← Nbq44.out] at hx120_0)
               cases e120
               replace p120 := eq_true p120
               replace q120 := eq_true q120
               go_wp2
               go_roundg k3
               case measure => have := HK1.out; have := HJ36.out; have := HK3.out; omega
               case rel => exact ⟨(x10_3), (wrap64 (x106_3 + 1)), (by first | rfl | (simp; done) | (simp [*]; done)), (by first | rfl | (simp; done) | (simp [*]; done)), H', ⟨by have := HK1.out; have := HJ36.out; have := HK3.out; omega⟩, ⟨by (with_reducible repeat (first | apply Kd.R_alloc | apply Kd.R_drewN | apply Kd.R_drew)); exact HO_104.out⟩, ⟨by repeat (first | (with_reducible first | exact HB.out | apply below_alloc | apply pw_below_drewN | apply below_drew1) | exact HB.out)⟩⟩
             ·rw [if_neg c43] at H
              exact absurd H (by simp)
            ·rw [if_neg c42] at H
             exact absurd H (by simp)
           ·rw [if_neg c41] at H
            have c41b0 : decide (x106_3 < (x11_1.length : Int)) = false := decide_eq_false c41
            clear c41
            simp only [Option.some.injEq, Prod.mk.injEq] at H
            obtain ⟨rfl, rfl⟩ := H
            go_wp2
            go_ret2
            exact ⟨w, HB00.out, by first | rfl | (simp [errW_none, errW_some] <;> rfl) | (simp [*, errW_none, errW_some] <;> rfl), by repeat (first | (with_reducible first | exact HB.out | apply below_alloc | apply pw_below_drewN | apply below_drew1) | exact HB.out)⟩
  ·rw [if_neg c5] at H
   exact absurd H (by simp)
 ·rw [if_neg c4] at H
  exact absurd H (by simp)

end Go.Proofs.YtbeimdngghedjaaDoor.P
