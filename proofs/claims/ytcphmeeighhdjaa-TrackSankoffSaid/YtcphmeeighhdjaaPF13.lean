-- written by a program of this session
import Derived.Test.YtcphmeeighhdjaaPK
import Derived.Test.YtcphmeeighhdjaaPF21
import Derived.Test.YtcphmeeighhdjaaPF22
import Derived.Test.YtcphmeeighhdjaaPF22d
import Derived.Test.YtcphmeeighhdjaaPF35
import Derived.Test.YtcphmeeighhdjaaPF36
import Derived.Test.YtcphmeeighhdjaaPF39
import Derived.Test.YtcphmeeighhdjaaGH
import Derived.Test.YtcphmeeighhdjaaGI
import Derived.Test.YtcphmeeighhdjaaGK
namespace Go.Proofs.Ytcphmeeighhdjaa.P
open Go.RowKit Go.Proofs.YtcphmeeighhdjaaW.PrintWords Go.Proofs.YtcphmeeighhdjaaW.PrintLast Go.Proofs.YtcphmeeighhdjaaW.PrintMore
attribute [local go_sem] max2_int min2_int max_two min_two max_three min_three max_four min_four   -- for this text's walks alone
set_option linter.unusedVariables false
set_option linter.unusedSimpArgs false

/-! ### wogglelaw02_TrackSankoff: function 13 -/
def wogglelaw02_TrackSankoff.j0 : Nat → List Int → Int → List (S67) → Int → List (List Int) → List Int → Int → List Int → Bool → Option (Bool)
  | 0, _, _, _, _, _, _, _, _, _ => none
  | k + 1, x1, x5, x6, x7, x8, x9, x10, x12, x91 => if x91 = true then (some false) else ((track_Cost.f k x5 x6 x8 x9 x12).bind fun bt739 => ((wogglelaw02_states.f k (wrap64 (x5 - 1)) x7 x1).bind fun t741 => ((track_Cost.f k x5 x6 x8 x9 t741).bind fun bt744 => (if bt739.1 = x10 then (if bt739.2 = 0 then (if bt744.1 ≥ x10 then (some (bt744.2 == 0)) else (some false)) else (some false)) else (some false)))))
def wogglelaw02_TrackSankoff.f (k : Nat) (a0_0 : Int) (a0_1 : Int) (l0_2 : List Int) (l0_3 : List Int) (l0_4 : List Int) (l1 : List Int) : Option (Bool) := (wogglelaw02_made.f k a0_0 l0_2).bind fun bt719 => ((wogglelaw02_costs.f k (wrap64 ((Int.tmod (wrap64 (a0_1)) 4) + 1)) l0_3 false).bind fun t723 => ((wogglelaw02_states.f k bt719.1 (wrap64 ((Int.tmod (wrap64 (a0_1)) 4) + 1)) l0_4).bind fun t726 => ((track_Least.f k bt719.1 bt719.2 t723 t726).bind fun bt729 => ((track_Label.f k bt719.1 bt719.2 t723 t726).bind fun bt731 => ((track_Ways.f k bt719.1 bt719.2 t723 t726).bind fun bt735 => (if bt729.2 = 0 then (if bt731.2 = 0 then (if bt735.2 = 0 then ((woggleref02_States.f k (wrap64 (bt719.1 - 1)) (wrap64 ((Int.tmod (wrap64 (a0_1)) 4) + 1)) bt731.1).bind fun t737 => (if t737 = true then (if bt735.1 < 1 then (wogglelaw02_TrackSankoff.j0 k l1 bt719.1 bt719.2 (wrap64 ((Int.tmod (wrap64 (a0_1)) 4) + 1)) t723 t726 bt729.1 bt731.1 true) else ((wogglelaw02_lives.f k).bind fun t738 => (wogglelaw02_TrackSankoff.j0 k l1 bt719.1 bt719.2 (wrap64 ((Int.tmod (wrap64 (a0_1)) 4) + 1)) t723 t726 bt729.1 bt731.1 (!t738)))) else (wogglelaw02_TrackSankoff.j0 k l1 bt719.1 bt719.2 (wrap64 ((Int.tmod (wrap64 (a0_1)) 4) + 1)) t723 t726 bt729.1 bt731.1 true))) else (wogglelaw02_TrackSankoff.j0 k l1 bt719.1 bt719.2 (wrap64 ((Int.tmod (wrap64 (a0_1)) 4) + 1)) t723 t726 bt729.1 bt731.1 true)) else (wogglelaw02_TrackSankoff.j0 k l1 bt719.1 bt719.2 (wrap64 ((Int.tmod (wrap64 (a0_1)) 4) + 1)) t723 t726 bt729.1 bt731.1 true)) else (wogglelaw02_TrackSankoff.j0 k l1 bt719.1 bt719.2 (wrap64 ((Int.tmod (wrap64 (a0_1)) 4) + 1)) t723 t726 bt729.1 bt731.1 true)))))))
theorem wogglelaw02_TrackSankoff.mono_l : ∀ k, (∀ y0 y1 y2 y3 y4 y5 y6 y7 y8, LeO (wogglelaw02_TrackSankoff.j0 k y0 y1 y2 y3 y4 y5 y6 y7 y8) (wogglelaw02_TrackSankoff.j0 (k + 1) y0 y1 y2 y3 y4 y5 y6 y7 y8))
  | 0 => fun _ _ _ _ _ _ _ _ _ r h => by simp [wogglelaw02_TrackSankoff.j0] at h
  | k + 1 => by
    have ih0 := wogglelaw02_TrackSankoff.mono_l k
    · intro y0 y1 y2 y3 y4 y5 y6 y7 y8
      unfold wogglelaw02_TrackSankoff.j0
      repeat' first
      | (with_reducible exact ih0 _ _ _ _ _ _ _ _ _)
      | (with_reducible exact track_Cost.mono _ _ _ _ _ _)
      | (with_reducible exact track_Label.mono _ _ _ _ _)
      | (with_reducible exact track_Least.mono _ _ _ _ _)
      | (with_reducible exact track_Ways.mono _ _ _ _ _)
      | (with_reducible exact wogglelaw02_costs.mono _ _ _ _)
      | (with_reducible exact wogglelaw02_lives.mono _)
      | (with_reducible exact wogglelaw02_made.mono _ _ _)
      | (with_reducible exact wogglelaw02_states.mono _ _ _ _)
      | (with_reducible exact woggleref02_States.mono _ _ _ _)
      | (with_reducible exact LeO.refl _)
      | (with_reducible exact LeO.none _)
      | (with_reducible refine LeO.ite ?_ ?_)
      | (with_reducible refine LeO.bind ?_ (fun _ => ?_))
      | exact ih0 _ _ _ _ _ _ _ _ _
      | exact track_Cost.mono _ _ _ _ _ _
      | exact track_Label.mono _ _ _ _ _
      | exact track_Least.mono _ _ _ _ _
      | exact track_Ways.mono _ _ _ _ _
      | exact wogglelaw02_costs.mono _ _ _ _
      | exact wogglelaw02_lives.mono _
      | exact wogglelaw02_made.mono _ _ _
      | exact wogglelaw02_states.mono _ _ _ _
      | exact woggleref02_States.mono _ _ _ _
      | exact LeO.none _
      | refine LeO.ite ?_ ?_
      | refine LeO.bind ?_ (fun _ => ?_)
theorem wogglelaw02_TrackSankoff.mono : ∀ a0 a1 a2 a3 a4 a5 k, LeO (wogglelaw02_TrackSankoff.f k a0 a1 a2 a3 a4 a5) (wogglelaw02_TrackSankoff.f (k + 1) a0 a1 a2 a3 a4 a5) := by
  intro a0 a1 a2 a3 a4 a5 k
  have ih0 := wogglelaw02_TrackSankoff.mono_l k
  unfold wogglelaw02_TrackSankoff.f
  repeat' first
      | (with_reducible exact ih0 _ _ _ _ _ _ _ _ _)
      | (with_reducible exact track_Cost.mono _ _ _ _ _ _)
      | (with_reducible exact track_Label.mono _ _ _ _ _)
      | (with_reducible exact track_Least.mono _ _ _ _ _)
      | (with_reducible exact track_Ways.mono _ _ _ _ _)
      | (with_reducible exact wogglelaw02_costs.mono _ _ _ _)
      | (with_reducible exact wogglelaw02_lives.mono _)
      | (with_reducible exact wogglelaw02_made.mono _ _ _)
      | (with_reducible exact wogglelaw02_states.mono _ _ _ _)
      | (with_reducible exact woggleref02_States.mono _ _ _ _)
      | (with_reducible exact LeO.refl _)
      | (with_reducible exact LeO.none _)
      | (with_reducible refine LeO.ite ?_ ?_)
      | (with_reducible refine LeO.bind ?_ (fun _ => ?_))
      | exact ih0 _ _ _ _ _ _ _ _ _
      | exact track_Cost.mono _ _ _ _ _ _
      | exact track_Label.mono _ _ _ _ _
      | exact track_Least.mono _ _ _ _ _
      | exact track_Ways.mono _ _ _ _ _
      | exact wogglelaw02_costs.mono _ _ _ _
      | exact wogglelaw02_lives.mono _
      | exact wogglelaw02_made.mono _ _ _
      | exact wogglelaw02_states.mono _ _ _ _
      | exact woggleref02_States.mono _ _ _ _
      | exact LeO.none _
      | refine LeO.ite ?_ ?_
      | refine LeO.bind ?_ (fun _ => ?_)
def wogglelaw02_TrackSankoff.T3 : Bool × List (List Nat × List Nat) := (true, [([], []), ([], []), ([1], [1]), ([0, 2], [0, 2]), ([], []), ([], []), ([], []), ([6], [6]), ([4, 5, 7, 3], [4, 5, 7]), ([3, 8, 0, 1, 2, 3], [3]), ([8, 9, 0, 1, 2, 3, 4, 5, 6, 7, 8, 9], [8])])
def wogglelaw02_TrackSankoff.B3 : List Nat := [0, 0, 2, 7, 0, 0, 0, 64, 255, 511, 1023]
theorem wogglelaw02_TrackSankoff.tab3 : rtab .any (opsOf Try.f13 3) = wogglelaw02_TrackSankoff.T3 := by kernel_rfl
theorem wogglelaw02_TrackSankoff.bits3 : waitsOk wogglelaw02_TrackSankoff.T3.2 wogglelaw02_TrackSankoff.B3 = true := by kernel_rfl
set_option maxHeartbeats 8000000 in
set_option maxRecDepth 100000 in
theorem wogglelaw02_TrackSankoff.calls (k : Nat) (a0_0 : Int) (a0_1 : Int) (A0_2 : Option Addr) (c0_2 : Nat) (l0_2 : List Int) (A0_3 : Option Addr) (c0_3 : Nat) (l0_3 : List Int) (A0_4 : Option Addr) (c0_4 : Nat) (l0_4 : List Int) (A1 : Option Addr) (c1 : Nat) (l1 : List Int) (r : Bool) (w : World) (hr0_2 : Kd.C (Kd.int .u8) w A0_2 l0_2.length l0_2) (hc0_2 : l0_2.length ≤ c0_2) (hr0_3 : Kd.C (Kd.int .u8) w A0_3 l0_3.length l0_3) (hc0_3 : l0_3.length ≤ c0_3) (hr0_4 : Kd.C (Kd.int .u8) w A0_4 l0_4.length l0_4) (hc0_4 : l0_4.length ≤ c0_4) (hr1 : Kd.C (Kd.int .u8) w A1 l1.length l1) (hc1 : l1.length ≤ c1) (h : wogglelaw02_TrackSankoff.f k a0_0 a0_1 l0_2 l0_3 l0_4 l1 = some r) :
    Calls Try.prog 13 #[.agg #[.int .u8 a0_0, .int .u8 a0_1, .slice A0_2 l0_2.length c0_2, .slice A0_3 l0_3.length c0_3, .slice A0_4 l0_4.length c0_4], .slice A1 l1.length c1] w fun e w' => e = .returned (.bool r) ∧ Below w.heap.size w w' := by
  have hu56 := Try.underlying56
  have HR0_2 := Aside0.mk hr0_2
  have HC0_2 := Aside0.mk hc0_2
  clear hr0_2 hc0_2
  have HR0_3 := Aside0.mk hr0_3
  have HC0_3 := Aside0.mk hc0_3
  clear hr0_3 hc0_3
  have HR0_4 := Aside0.mk hr0_4
  have HC0_4 := Aside0.mk hc0_4
  clear hr0_4 hc0_4
  have HR1 := Aside0.mk hr1
  have HC1 := Aside0.mk hc1
  clear hr1 hc1
  have HB := Aside0.mk (Below.refl w.heap.size w)
  have H : ((wogglelaw02_made.f k a0_0 l0_2).bind fun bt719 => ((wogglelaw02_costs.f k (wrap64 ((Int.tmod (wrap64 (a0_1)) 4) + 1)) l0_3 false).bind fun t723 => ((wogglelaw02_states.f k bt719.1 (wrap64 ((Int.tmod (wrap64 (a0_1)) 4) + 1)) l0_4).bind fun t726 => ((track_Least.f k bt719.1 bt719.2 t723 t726).bind fun bt729 => ((track_Label.f k bt719.1 bt719.2 t723 t726).bind fun bt731 => ((track_Ways.f k bt719.1 bt719.2 t723 t726).bind fun bt735 => (if bt729.2 = 0 then (if bt731.2 = 0 then (if bt735.2 = 0 then ((woggleref02_States.f k (wrap64 (bt719.1 - 1)) (wrap64 ((Int.tmod (wrap64 (a0_1)) 4) + 1)) bt731.1).bind fun t737 => (if t737 = true then (if bt735.1 < 1 then (wogglelaw02_TrackSankoff.j0 k l1 bt719.1 bt719.2 (wrap64 ((Int.tmod (wrap64 (a0_1)) 4) + 1)) t723 t726 bt729.1 bt731.1 true) else ((wogglelaw02_lives.f k).bind fun t738 => (wogglelaw02_TrackSankoff.j0 k l1 bt719.1 bt719.2 (wrap64 ((Int.tmod (wrap64 (a0_1)) 4) + 1)) t723 t726 bt729.1 bt731.1 (!t738)))) else (wogglelaw02_TrackSankoff.j0 k l1 bt719.1 bt719.2 (wrap64 ((Int.tmod (wrap64 (a0_1)) 4) + 1)) t723 t726 bt729.1 bt731.1 true))) else (wogglelaw02_TrackSankoff.j0 k l1 bt719.1 bt719.2 (wrap64 ((Int.tmod (wrap64 (a0_1)) 4) + 1)) t723 t726 bt729.1 bt731.1 true)) else (wogglelaw02_TrackSankoff.j0 k l1 bt719.1 bt719.2 (wrap64 ((Int.tmod (wrap64 (a0_1)) 4) + 1)) t723 t726 bt729.1 bt731.1 true)) else (wogglelaw02_TrackSankoff.j0 k l1 bt719.1 bt719.2 (wrap64 ((Int.tmod (wrap64 (a0_1)) 4) + 1)) t723 t726 bt729.1 bt731.1 true)))))))) = some r := h
  clear h
  replace H := Option.bind_eq_some_iff.mp H
  obtain ⟨⟨t719, t720⟩, A30, H⟩ := H
  replace H : ((wogglelaw02_costs.f k (wrap64 ((Int.tmod (wrap64 (a0_1)) 4) + 1)) l0_3 false).bind fun t723 => ((wogglelaw02_states.f k t719 (wrap64 ((Int.tmod (wrap64 (a0_1)) 4) + 1)) l0_4).bind fun t726 => ((track_Least.f k t719 t720 t723 t726).bind fun bt729 => ((track_Label.f k t719 t720 t723 t726).bind fun bt731 => ((track_Ways.f k t719 t720 t723 t726).bind fun bt735 => (if bt729.2 = 0 then (if bt731.2 = 0 then (if bt735.2 = 0 then ((woggleref02_States.f k (wrap64 (t719 - 1)) (wrap64 ((Int.tmod (wrap64 (a0_1)) 4) + 1)) bt731.1).bind fun t737 => (if t737 = true then (if bt735.1 < 1 then (wogglelaw02_TrackSankoff.j0 k l1 t719 t720 (wrap64 ((Int.tmod (wrap64 (a0_1)) 4) + 1)) t723 t726 bt729.1 bt731.1 true) else ((wogglelaw02_lives.f k).bind fun t738 => (wogglelaw02_TrackSankoff.j0 k l1 t719 t720 (wrap64 ((Int.tmod (wrap64 (a0_1)) 4) + 1)) t723 t726 bt729.1 bt731.1 (!t738)))) else (wogglelaw02_TrackSankoff.j0 k l1 t719 t720 (wrap64 ((Int.tmod (wrap64 (a0_1)) 4) + 1)) t723 t726 bt729.1 bt731.1 true))) else (wogglelaw02_TrackSankoff.j0 k l1 t719 t720 (wrap64 ((Int.tmod (wrap64 (a0_1)) 4) + 1)) t723 t726 bt729.1 bt731.1 true)) else (wogglelaw02_TrackSankoff.j0 k l1 t719 t720 (wrap64 ((Int.tmod (wrap64 (a0_1)) 4) + 1)) t723 t726 bt729.1 bt731.1 true)) else (wogglelaw02_TrackSankoff.j0 k l1 t719 t720 (wrap64 ((Int.tmod (wrap64 (a0_1)) 4) + 1)) t723 t726 bt729.1 bt731.1 true))))))) = some r := H
  have A3 := Aside0.mk A30
  clear A30
  replace H := Option.bind_eq_some_iff.mp H
  obtain ⟨t723, A40, H⟩ := H
  replace H : ((wogglelaw02_states.f k t719 (wrap64 ((Int.tmod (wrap64 (a0_1)) 4) + 1)) l0_4).bind fun t726 => ((track_Least.f k t719 t720 t723 t726).bind fun bt729 => ((track_Label.f k t719 t720 t723 t726).bind fun bt731 => ((track_Ways.f k t719 t720 t723 t726).bind fun bt735 => (if bt729.2 = 0 then (if bt731.2 = 0 then (if bt735.2 = 0 then ((woggleref02_States.f k (wrap64 (t719 - 1)) (wrap64 ((Int.tmod (wrap64 (a0_1)) 4) + 1)) bt731.1).bind fun t737 => (if t737 = true then (if bt735.1 < 1 then (wogglelaw02_TrackSankoff.j0 k l1 t719 t720 (wrap64 ((Int.tmod (wrap64 (a0_1)) 4) + 1)) t723 t726 bt729.1 bt731.1 true) else ((wogglelaw02_lives.f k).bind fun t738 => (wogglelaw02_TrackSankoff.j0 k l1 t719 t720 (wrap64 ((Int.tmod (wrap64 (a0_1)) 4) + 1)) t723 t726 bt729.1 bt731.1 (!t738)))) else (wogglelaw02_TrackSankoff.j0 k l1 t719 t720 (wrap64 ((Int.tmod (wrap64 (a0_1)) 4) + 1)) t723 t726 bt729.1 bt731.1 true))) else (wogglelaw02_TrackSankoff.j0 k l1 t719 t720 (wrap64 ((Int.tmod (wrap64 (a0_1)) 4) + 1)) t723 t726 bt729.1 bt731.1 true)) else (wogglelaw02_TrackSankoff.j0 k l1 t719 t720 (wrap64 ((Int.tmod (wrap64 (a0_1)) 4) + 1)) t723 t726 bt729.1 bt731.1 true)) else (wogglelaw02_TrackSankoff.j0 k l1 t719 t720 (wrap64 ((Int.tmod (wrap64 (a0_1)) 4) + 1)) t723 t726 bt729.1 bt731.1 true)))))) = some r := H
  have A4 := Aside0.mk A40
  clear A40
  replace H := Option.bind_eq_some_iff.mp H
  obtain ⟨t726, A50, H⟩ := H
  replace H : ((track_Least.f k t719 t720 t723 t726).bind fun bt729 => ((track_Label.f k t719 t720 t723 t726).bind fun bt731 => ((track_Ways.f k t719 t720 t723 t726).bind fun bt735 => (if bt729.2 = 0 then (if bt731.2 = 0 then (if bt735.2 = 0 then ((woggleref02_States.f k (wrap64 (t719 - 1)) (wrap64 ((Int.tmod (wrap64 (a0_1)) 4) + 1)) bt731.1).bind fun t737 => (if t737 = true then (if bt735.1 < 1 then (wogglelaw02_TrackSankoff.j0 k l1 t719 t720 (wrap64 ((Int.tmod (wrap64 (a0_1)) 4) + 1)) t723 t726 bt729.1 bt731.1 true) else ((wogglelaw02_lives.f k).bind fun t738 => (wogglelaw02_TrackSankoff.j0 k l1 t719 t720 (wrap64 ((Int.tmod (wrap64 (a0_1)) 4) + 1)) t723 t726 bt729.1 bt731.1 (!t738)))) else (wogglelaw02_TrackSankoff.j0 k l1 t719 t720 (wrap64 ((Int.tmod (wrap64 (a0_1)) 4) + 1)) t723 t726 bt729.1 bt731.1 true))) else (wogglelaw02_TrackSankoff.j0 k l1 t719 t720 (wrap64 ((Int.tmod (wrap64 (a0_1)) 4) + 1)) t723 t726 bt729.1 bt731.1 true)) else (wogglelaw02_TrackSankoff.j0 k l1 t719 t720 (wrap64 ((Int.tmod (wrap64 (a0_1)) 4) + 1)) t723 t726 bt729.1 bt731.1 true)) else (wogglelaw02_TrackSankoff.j0 k l1 t719 t720 (wrap64 ((Int.tmod (wrap64 (a0_1)) 4) + 1)) t723 t726 bt729.1 bt731.1 true))))) = some r := H
  have A5 := Aside0.mk A50
  clear A50
  replace H := Option.bind_eq_some_iff.mp H
  obtain ⟨⟨t729, t730⟩, A60, H⟩ := H
  replace H : ((track_Label.f k t719 t720 t723 t726).bind fun bt731 => ((track_Ways.f k t719 t720 t723 t726).bind fun bt735 => (if t730 = 0 then (if bt731.2 = 0 then (if bt735.2 = 0 then ((woggleref02_States.f k (wrap64 (t719 - 1)) (wrap64 ((Int.tmod (wrap64 (a0_1)) 4) + 1)) bt731.1).bind fun t737 => (if t737 = true then (if bt735.1 < 1 then (wogglelaw02_TrackSankoff.j0 k l1 t719 t720 (wrap64 ((Int.tmod (wrap64 (a0_1)) 4) + 1)) t723 t726 t729 bt731.1 true) else ((wogglelaw02_lives.f k).bind fun t738 => (wogglelaw02_TrackSankoff.j0 k l1 t719 t720 (wrap64 ((Int.tmod (wrap64 (a0_1)) 4) + 1)) t723 t726 t729 bt731.1 (!t738)))) else (wogglelaw02_TrackSankoff.j0 k l1 t719 t720 (wrap64 ((Int.tmod (wrap64 (a0_1)) 4) + 1)) t723 t726 t729 bt731.1 true))) else (wogglelaw02_TrackSankoff.j0 k l1 t719 t720 (wrap64 ((Int.tmod (wrap64 (a0_1)) 4) + 1)) t723 t726 t729 bt731.1 true)) else (wogglelaw02_TrackSankoff.j0 k l1 t719 t720 (wrap64 ((Int.tmod (wrap64 (a0_1)) 4) + 1)) t723 t726 t729 bt731.1 true)) else (wogglelaw02_TrackSankoff.j0 k l1 t719 t720 (wrap64 ((Int.tmod (wrap64 (a0_1)) 4) + 1)) t723 t726 t729 bt731.1 true)))) = some r := H
  have A6 := Aside0.mk A60
  clear A60
  replace H := Option.bind_eq_some_iff.mp H
  obtain ⟨⟨t731, t732⟩, A70, H⟩ := H
  replace H : ((track_Ways.f k t719 t720 t723 t726).bind fun bt735 => (if t730 = 0 then (if t732 = 0 then (if bt735.2 = 0 then ((woggleref02_States.f k (wrap64 (t719 - 1)) (wrap64 ((Int.tmod (wrap64 (a0_1)) 4) + 1)) t731).bind fun t737 => (if t737 = true then (if bt735.1 < 1 then (wogglelaw02_TrackSankoff.j0 k l1 t719 t720 (wrap64 ((Int.tmod (wrap64 (a0_1)) 4) + 1)) t723 t726 t729 t731 true) else ((wogglelaw02_lives.f k).bind fun t738 => (wogglelaw02_TrackSankoff.j0 k l1 t719 t720 (wrap64 ((Int.tmod (wrap64 (a0_1)) 4) + 1)) t723 t726 t729 t731 (!t738)))) else (wogglelaw02_TrackSankoff.j0 k l1 t719 t720 (wrap64 ((Int.tmod (wrap64 (a0_1)) 4) + 1)) t723 t726 t729 t731 true))) else (wogglelaw02_TrackSankoff.j0 k l1 t719 t720 (wrap64 ((Int.tmod (wrap64 (a0_1)) 4) + 1)) t723 t726 t729 t731 true)) else (wogglelaw02_TrackSankoff.j0 k l1 t719 t720 (wrap64 ((Int.tmod (wrap64 (a0_1)) 4) + 1)) t723 t726 t729 t731 true)) else (wogglelaw02_TrackSankoff.j0 k l1 t719 t720 (wrap64 ((Int.tmod (wrap64 (a0_1)) 4) + 1)) t723 t726 t729 t731 true))) = some r := H
  have A7 := Aside0.mk A70
  clear A70
  replace H := Option.bind_eq_some_iff.mp H
  obtain ⟨⟨t735, t736⟩, A80, H⟩ := H
  replace H : (if t730 = 0 then (if t732 = 0 then (if t736 = 0 then ((woggleref02_States.f k (wrap64 (t719 - 1)) (wrap64 ((Int.tmod (wrap64 (a0_1)) 4) + 1)) t731).bind fun t737 => (if t737 = true then (if t735 < 1 then (wogglelaw02_TrackSankoff.j0 k l1 t719 t720 (wrap64 ((Int.tmod (wrap64 (a0_1)) 4) + 1)) t723 t726 t729 t731 true) else ((wogglelaw02_lives.f k).bind fun t738 => (wogglelaw02_TrackSankoff.j0 k l1 t719 t720 (wrap64 ((Int.tmod (wrap64 (a0_1)) 4) + 1)) t723 t726 t729 t731 (!t738)))) else (wogglelaw02_TrackSankoff.j0 k l1 t719 t720 (wrap64 ((Int.tmod (wrap64 (a0_1)) 4) + 1)) t723 t726 t729 t731 true))) else (wogglelaw02_TrackSankoff.j0 k l1 t719 t720 (wrap64 ((Int.tmod (wrap64 (a0_1)) 4) + 1)) t723 t726 t729 t731 true)) else (wogglelaw02_TrackSankoff.j0 k l1 t719 t720 (wrap64 ((Int.tmod (wrap64 (a0_1)) 4) + 1)) t723 t726 t729 t731 true)) else (wogglelaw02_TrackSankoff.j0 k l1 t719 t720 (wrap64 ((Int.tmod (wrap64 (a0_1)) 4) + 1)) t723 t726 t729 t731 true)) = some r := H
  have A8 := Aside0.mk A80
  clear A80
  have HC9 := Aside0.mk H
  clear H
  go_enter Try.func13, Try.ntmps13
  try go_wp2_with (first | ((with_reducible refine gate_dst (N := 2) rfl ?_); refine box_event ?hg (N := 2) ?hd (cs := #[.int .u8 a0_0, .int .u8 a0_1, .slice A0_2 l0_2.length c0_2, .slice A0_3 l0_3.length c0_3, .slice A0_4 l0_4.length c0_4]) (t := 56) ?hr ?_; (case hd => rfl); (case hg => rfl); (case hr => first | (go_simp; done) | (go_simp; rfl)); intro gb718 hg w10 hbox hb; have n0_ := Aside0.mk (below_step (by repeat (first | (with_reducible first | exact HB.out | apply below_alloc | apply pw_below_drewN | apply below_drew1) | exact HB.out)) hb); have n1_ := Aside0.mk (hbox); have n2_ := Aside0.mk ((by rw [hg]; exact (below_size (by repeat (first | (with_reducible first | exact HB.out | apply below_alloc | apply pw_below_drewN | apply below_drew1) | exact HB.out))) : w.heap.size ≤ gb718)); have n3_ := Aside0.mk ((by rw [hg]; exact (below_size (by repeat (first | (with_reducible first | exact HB.out | apply below_alloc | apply pw_below_drewN | apply below_drew1) | exact HB.out))) : w.heap.size ≤ gb718)); clear HB; have HB := n0_; have BK718 := n1_; have GW718 := n2_; have GE718 := n3_; clear n0_ n1_ n2_ n3_; clear hb hbox hg; have hcz11_0 : w10.cell? ⟨gb718, 0, none⟩ = some (.int .u8 a0_0) := (blk_cell BK718.out 0).trans rfl; have hcz11_1 : w10.cell? ⟨gb718, 1, none⟩ = some (.int .u8 a0_1) := (blk_cell BK718.out 1).trans rfl; have hcz11_2 : w10.cell? ⟨gb718, 2, none⟩ = some (.slice A0_2 l0_2.length c0_2) := (blk_cell BK718.out 2).trans rfl; have hcz11_3 : w10.cell? ⟨gb718, 3, none⟩ = some (.slice A0_3 l0_3.length c0_3) := (blk_cell BK718.out 3).trans rfl; have hcz11_4 : w10.cell? ⟨gb718, 4, none⟩ = some (.slice A0_4 l0_4.length c0_4) := (blk_cell BK718.out 4).trans rfl; have hfz11_0 := blk_frozen BK718.out 0; have hfz11_1 := blk_frozen BK718.out 1; have hfz11_2 := blk_frozen BK718.out 2; have hfz11_3 := blk_frozen BK718.out 3; have hfz11_4 := blk_frozen BK718.out 4) | ((with_reducible refine gate_callee (f := 35) rfl ?_); refine goesL_ (some 25) rfl rfl Try.func35 (by kernel_rfl) rfl #[.int .u8 a0_0, .slice A0_2 l0_2.length c0_2] rfl (by (try simp only [List.map_toArray, List.map_cons, List.map_nil]); first | done | rfl | (simp only [List.length_drop, List.length_take]; rfl)) ?_; (with_reducible refine (wogglelaw02_made.calls k a0_0 _ _ l0_2 t719 t720 _ ?side1 ?side2 A3.out).mono ?_); (case side1 => repeat (first | exact (Kd.C_below HR0_2.out HB.out) | (with_reducible refine Kd.C_alloc ?_ _) | (with_reducible refine Kd.C_drewN ?_ _) | (with_reducible refine Kd.C_drew ?_))); (case side2 => exact HC0_2.out); rintro e w12 ⟨v721, rfl, ho0, hb⟩; refine ⟨_, rfl, ?_⟩; have n0_ := Aside0.mk (Kd.R_lower ho0 (below_size (by repeat (first | (with_reducible first | exact HB.out | apply below_alloc | apply pw_below_drewN | apply below_drew1 | refine below_set ?_ GE718.out) | exact HB.out)))); have n1_ := Aside0.mk (blk_below (g := gb718) (o := .cells #[.int .u8 a0_0, .int .u8 a0_1, .slice A0_2 l0_2.length c0_2, .slice A0_3 l0_3.length c0_3, .slice A0_4 l0_4.length c0_4] 56 (0, 0)) (by (with_reducible repeat (first | refine blk_drewN ?_ _ | refine blk_drew ?_ | refine blk_alloc ?_ _)); exact BK718.out) hb); have n2_ := Aside0.mk (below_step (by repeat (first | (with_reducible first | exact HB.out | apply below_alloc | apply pw_below_drewN | apply below_drew1 | refine below_set ?_ GE718.out) | exact HB.out)) hb); clear BK718; clear HB; have HO722 := n0_; have BK718 := n1_; have HB := n2_; clear n0_ n1_ n2_; (try clear hb); (try clear hb2); (try clear hk); (try clear hi); (try clear ho0); have hcz13_0 : w12.cell? ⟨gb718, 0, none⟩ = some (.int .u8 a0_0) := (blk_cell BK718.out 0).trans rfl; have hcz13_1 : w12.cell? ⟨gb718, 1, none⟩ = some (.int .u8 a0_1) := (blk_cell BK718.out 1).trans rfl; have hcz13_2 : w12.cell? ⟨gb718, 2, none⟩ = some (.slice A0_2 l0_2.length c0_2) := (blk_cell BK718.out 2).trans rfl; have hcz13_3 : w12.cell? ⟨gb718, 3, none⟩ = some (.slice A0_3 l0_3.length c0_3) := (blk_cell BK718.out 3).trans rfl; have hcz13_4 : w12.cell? ⟨gb718, 4, none⟩ = some (.slice A0_4 l0_4.length c0_4) := (blk_cell BK718.out 4).trans rfl; have hfz13_0 := blk_frozen BK718.out 0; have hfz13_1 := blk_frozen BK718.out 1; have hfz13_2 := blk_frozen BK718.out 2; have hfz13_3 := blk_frozen BK718.out 3; have hfz13_4 := blk_frozen BK718.out 4))
  have n0_ := Aside0.mk (Kd.R_drew HO722.out)
  have n1_ := Aside0.mk (blk_drew BK718.out)
  have n2_ := Aside0.mk (below_drew1 HB.out)
  clear HO722
  clear BK718
  clear HB
  have HO722 := n0_
  have BK718 := n1_
  have HB := n2_
  clear n0_ n1_ n2_
  refine start_ (n := 11) (S := fun w' => w'.cell? ⟨gb718, 0, none⟩ = some (.int .u8 a0_0) ∧ w'.cell? ⟨gb718, 1, none⟩ = some (.int .u8 a0_1) ∧ w'.cell? ⟨gb718, 2, none⟩ = some (.slice A0_2 l0_2.length c0_2) ∧ w'.cell? ⟨gb718, 3, none⟩ = some (.slice A0_3 l0_3.length c0_3) ∧ w'.cell? ⟨gb718, 4, none⟩ = some (.slice A0_4 l0_4.length c0_4)) (ds := []) #[false, false, false, false, false, false, false, false, false, false, false] (by kernel_rfl) rfl rfl ⟨(blk_cell BK718.out 0).trans rfl, (blk_cell BK718.out 1).trans rfl, (blk_cell BK718.out 2).trans rfl, (blk_cell BK718.out 3).trans rfl, (blk_cell BK718.out 4).trans rfl⟩ (fun hHeld => ?_); refine with_tabW wogglelaw02_TrackSankoff.tab3 wogglelaw02_TrackSankoff.bits3 (fun HT_ HW_ => ?_)
  generalize w12.drew = w14 at HO722 BK718 HB hHeld ⊢
  refine pure_ (i := 0) (N := some 33) (v := ?_) (a' := ?_) #[true, false, false, false, false, false, false, false, false, false, false] rfl rfl (any_of HT_.out (by kernel_rfl)) (fun _ _ _ h => h) (Or.inl ⟨by rfl, ?_⟩) ?_ ?_
  rotate_left
  · intro w'
    go_simp
    with_reducible rfl
  rotate_left
  · simp only [Act.put, List.setIfInBounds_toArray, List.set_cons_zero, List.set_cons_succ, i64_w, i32_w]
    rfl
  refine pure_ (i := 1) (N := some 34) (v := ?_) (a' := ?_) #[true, true, false, false, false, false, false, false, false, false, false] rfl rfl (any_of HT_.out (by kernel_rfl)) (fun _ _ _ h => h) (Or.inl ⟨by rfl, ?_⟩) ?_ ?_
  rotate_left
  · intro w'
    go_simp
    with_reducible rfl
  rotate_left
  · simp only [Act.put, List.setIfInBounds_toArray, List.set_cons_zero, List.set_cons_succ, i64_w, i32_w]
    rfl
  refine pure_ (i := 4) (N := some 37) (v := ?_) (a' := ?_) #[true, true, false, false, true, false, false, false, false, false, false] rfl rfl (any_of HT_.out (by kernel_rfl)) (fun _ _ _ h => h) (Or.inl ⟨by rfl, ?_⟩) ?_ ?_
  rotate_left
  · intro w'
    go_simp
    with_reducible rfl
  rotate_left
  · simp only [Act.put, List.setIfInBounds_toArray, List.set_cons_zero, List.set_cons_succ, i64_w, i32_w]
    rfl
  refine pure_ (i := 5) (N := some 38) (v := ?_) (a' := ?_) #[true, true, false, false, true, true, false, false, false, false, false] rfl rfl (any_of HT_.out (by kernel_rfl)) (fun _ _ _ h => h) (Or.inl ⟨by rfl, ?_⟩) ?_ ?_
  rotate_left
  · intro w'
    go_simp
    with_reducible rfl
  rotate_left
  · simp only [Act.put, List.setIfInBounds_toArray, List.set_cons_zero, List.set_cons_succ, i64_w, i32_w]
    rfl
  refine pure_ (i := 6) (N := some 39) (v := ?_) (a' := ?_) #[true, true, false, false, true, true, true, false, false, false, false] rfl rfl (any_of HT_.out (by kernel_rfl)) (fun _ _ _ h => h) (Or.inl ⟨by rfl, ?_⟩) ?_ ?_
  rotate_left
  · intro w'
    go_simp
    with_reducible rfl
  rotate_left
  · simp only [Act.put, List.setIfInBounds_toArray, List.set_cons_zero, List.set_cons_succ, i64_w, i32_w]
    rfl
  refine take_ (i := 2) (N := some 35) (v := ?_) (a' := ?_) #[true, true, true, false, true, true, true, false, false, false, false] rfl rfl (take_ofW HT_.out HW_.out (by kernel_rfl)) (fun _ _ _ h => h) (Or.inl ⟨by rfl, ?_⟩) hHeld ?_ ?_
  rotate_left
  · rintro w' ⟨s0, s1, s2, s3, s4⟩
    go_simp
    with_reducible rfl
  rotate_left
  · simp only [Act.put, List.setIfInBounds_toArray, List.set_cons_zero, List.set_cons_succ, i64_w, i32_w]
    rfl
  refine take_ (i := 7) (N := some 40) (v := ?_) (a' := ?_) #[true, true, true, false, true, true, true, true, false, false, false] rfl rfl (take_ofW HT_.out HW_.out (by kernel_rfl)) (fun _ _ _ h => h) (Or.inl ⟨by rfl, ?_⟩) hHeld ?_ ?_
  rotate_left
  · rintro w' ⟨s0, s1, s2, s3, s4⟩
    go_simp
    with_reducible rfl
  rotate_left
  · simp only [Act.put, List.setIfInBounds_toArray, List.set_cons_zero, List.set_cons_succ, i64_w, i32_w]
    rfl
  refine one_ (i := 3) (N := some 36) #[true, true, true, true, true, true, true, true, false, false, false] rfl rfl (one_of HT_.out (by kernel_rfl)) (by decide) (fun K hK => ?_)
  refine goes_ Try.func39 (by kernel_rfl) rfl #[.int .i64 (wrap64 ((Int.tmod (wrap64 (a0_1)) 4) + 1)), .slice A0_3 l0_3.length c0_3, .bool false] (by rfl) rfl rfl (by (try simp only [List.map_toArray, List.map_cons, List.map_nil]); first | done | rfl | (simp only [List.length_drop, List.length_take]; rfl)) ?_
  with_reducible refine (wogglelaw02_costs.calls k (wrap64 ((Int.tmod (wrap64 (a0_1)) 4) + 1)) _ _ l0_3 false t723 _ ?side1 ?side2 A4.out).mono ?_
  (case side1 => repeat (first | exact (Kd.C_below HR0_3.out HB.out) | (with_reducible refine Kd.C_alloc ?_ _) | (with_reducible refine Kd.C_drewN ?_ _) | (with_reducible refine Kd.C_drew ?_)))
  (case side2 => exact HC0_3.out)
  rintro e w15 ⟨v724, rfl, ho0, hb⟩
  refine ⟨_, rfl, ?_⟩
  have n0_ := Aside0.mk (Kd.R_below (by (with_reducible repeat (first | apply Kd.R_alloc | apply Kd.R_drewN | apply Kd.R_drew)); exact HO722.out) hb)
  have n1_ := Aside0.mk (Kd.S_lower ho0 (below_size (by repeat (first | (with_reducible first | exact HB.out | apply below_alloc | apply pw_below_drewN | apply below_drew1 | refine below_set ?_ GE718.out) | exact HB.out))))
  have n2_ := Aside0.mk (blk_below (g := gb718) (o := .cells #[.int .u8 a0_0, .int .u8 a0_1, .slice A0_2 l0_2.length c0_2, .slice A0_3 l0_3.length c0_3, .slice A0_4 l0_4.length c0_4] 56 (0, 0)) (by (with_reducible repeat (first | refine blk_drewN ?_ _ | refine blk_drew ?_ | refine blk_alloc ?_ _)); exact BK718.out) hb)
  have n3_ := Aside0.mk (below_step (by repeat (first | (with_reducible first | exact HB.out | apply below_alloc | apply pw_below_drewN | apply below_drew1 | refine below_set ?_ GE718.out) | exact HB.out)) hb)
  clear HO722
  clear BK718
  clear HB
  have HO722 := n0_
  have HO725 := n1_
  have BK718 := n2_
  have HB := n3_
  clear n0_ n1_ n2_ n3_
  (try clear hb)
  (try clear hb2)
  (try clear hk)
  (try clear hi)
  (try clear ho0)
  refine hK.out _ _ ⟨(blk_cell BK718.out 0).trans rfl, (blk_cell BK718.out 1).trans rfl, (blk_cell BK718.out 2).trans rfl, (blk_cell BK718.out 3).trans rfl, (blk_cell BK718.out 4).trans rfl⟩ (fun hHeld => ?_)
  clear hK K
  refine norm_ (a' := ?_) ?_ ?_
  rotate_left
  · show Act.put _ (some 36) _ = _
    simp only [Act.put, List.setIfInBounds_toArray, List.set_cons_zero, List.set_cons_succ, i64_w, i32_w]
    rfl
  refine one_ (i := 8) (N := some 41) #[true, true, true, true, true, true, true, true, true, false, false] rfl rfl (one_of HT_.out (by kernel_rfl)) (by decide) (fun K hK => ?_)
  refine goes_ Try.func36 (by kernel_rfl) rfl #[.int .i64 t719, .int .i64 (wrap64 ((Int.tmod (wrap64 (a0_1)) 4) + 1)), .slice A0_4 l0_4.length c0_4] (by rfl) rfl rfl (by (try simp only [List.map_toArray, List.map_cons, List.map_nil]); first | done | rfl | (simp only [List.length_drop, List.length_take]; rfl)) ?_
  with_reducible refine (wogglelaw02_states.calls k t719 (wrap64 ((Int.tmod (wrap64 (a0_1)) 4) + 1)) _ _ l0_4 t726 _ ?side1 ?side2 A5.out).mono ?_
  (case side1 => repeat (first | exact (Kd.C_below HR0_4.out HB.out) | (with_reducible refine Kd.C_alloc ?_ _) | (with_reducible refine Kd.C_drewN ?_ _) | (with_reducible refine Kd.C_drew ?_)))
  (case side2 => exact HC0_4.out)
  rintro e w16 ⟨v727, rfl, ho0, hb⟩
  refine ⟨_, rfl, ?_⟩
  have n0_ := Aside0.mk (Kd.R_below (by (with_reducible repeat (first | apply Kd.R_alloc | apply Kd.R_drewN | apply Kd.R_drew)); exact HO722.out) hb)
  have n1_ := Aside0.mk (Kd.S_elder' (by (with_reducible repeat (first | apply Kd.S_alloc | apply Kd.S_drewN | apply Kd.S_drew)); exact HO725.out) (Kd.R_base ho0) hb)
  have n2_ := Aside0.mk (Kd.R_lower ho0 (below_size (by repeat (first | (with_reducible first | exact HB.out | apply below_alloc | apply pw_below_drewN | apply below_drew1 | refine below_set ?_ GE718.out) | exact HB.out))))
  have n3_ := Aside0.mk (blk_below (g := gb718) (o := .cells #[.int .u8 a0_0, .int .u8 a0_1, .slice A0_2 l0_2.length c0_2, .slice A0_3 l0_3.length c0_3, .slice A0_4 l0_4.length c0_4] 56 (0, 0)) (by (with_reducible repeat (first | refine blk_drewN ?_ _ | refine blk_drew ?_ | refine blk_alloc ?_ _)); exact BK718.out) hb)
  have n4_ := Aside0.mk (below_step (by repeat (first | (with_reducible first | exact HB.out | apply below_alloc | apply pw_below_drewN | apply below_drew1 | refine below_set ?_ GE718.out) | exact HB.out)) hb)
  clear HO722
  clear HO725
  clear BK718
  clear HB
  have HO722 := n0_
  have HO725 := n1_
  have HO728 := n2_
  have BK718 := n3_
  have HB := n4_
  clear n0_ n1_ n2_ n3_ n4_
  (try clear hb)
  (try clear hb2)
  (try clear hk)
  (try clear hi)
  (try clear ho0)
  refine hK.out _ _ ⟨(blk_cell BK718.out 0).trans rfl, (blk_cell BK718.out 1).trans rfl, (blk_cell BK718.out 2).trans rfl, (blk_cell BK718.out 3).trans rfl, (blk_cell BK718.out 4).trans rfl⟩ (fun hHeld => ?_)
  clear hK K
  refine norm_ (a' := ?_) ?_ ?_
  rotate_left
  · show Act.put _ (some 41) _ = _
    simp only [Act.put, List.setIfInBounds_toArray, List.set_cons_zero, List.set_cons_succ, i64_w, i32_w]
    rfl
  refine pure_ (i := 9) (N := some 8) (v := ?_) (a' := ?_) #[true, true, true, true, true, true, true, true, true, true, false] rfl rfl (any_of HT_.out (by kernel_rfl)) (fun _ _ _ h => h) (Or.inl ⟨by rfl, ?_⟩) ?_ ?_
  rotate_left
  · intro w'
    go_simp
    with_reducible rfl
  rotate_left
  · simp only [Act.put, List.setIfInBounds_toArray, List.set_cons_zero, List.set_cons_succ, i64_w, i32_w]
    rfl
  refine pure_ (i := 10) (N := some 9) (v := ?_) (a' := ?_) #[true, true, true, true, true, true, true, true, true, true, true] rfl rfl (any_of HT_.out (by kernel_rfl)) (fun _ _ _ h => h) (Or.inl ⟨by rfl, ?_⟩) ?_ ?_
  rotate_left
  · intro w'
    go_simp
    with_reducible rfl
  rotate_left
  · simp only [Act.put, List.setIfInBounds_toArray, List.set_cons_zero, List.set_cons_succ, i64_w, i32_w]
    rfl
  refine done_ (done_of HT_.out (by kernel_rfl)) ?_
  obtain ⟨Ao17, co17, eo17⟩ := Kd.R_slice HO722.out
  subst eo17
  obtain ⟨Ao18, co18, eo18⟩ := Kd.S_slice HO725.out
  subst eo18
  obtain ⟨Ao19, co19, eo19⟩ := Kd.R_slice HO728.out
  subst eo19
  go_upto_region 7 with (first | ((with_reducible refine gate_callee (f := 32) rfl ?_); refine goesL_ (some 47) rfl rfl Try.func32 (by kernel_rfl) rfl #[.int .i64 t719, .slice Ao17 t720.length co17, .slice Ao18 t723.length co18, .slice Ao19 t726.length co19] rfl (by (try simp only [List.map_toArray, List.map_cons, List.map_nil]); first | done | rfl | (simp only [List.length_drop, List.length_take]; rfl)) ?_; (with_reducible refine (track_Least.calls k t719 _ _ t720 _ _ t723 _ _ t726 t729 t730 _ ?side1 ?side2 ?side3 ?side4 ?side5 ?side6 A6.out).mono ?_); (case side1 => repeat (first | exact (Kd.R_reads' HO722.out).2.2 | (with_reducible refine Kd.C_alloc ?_ _) | (with_reducible refine Kd.C_drewN ?_ _) | (with_reducible refine Kd.C_drew ?_))); (case side2 => exact (Kd.R_reads' HO722.out).2.1); (case side3 => repeat (first | exact (Kd.S_reads' HO725.out).2.2 | (with_reducible refine Kd.C_alloc ?_ _) | (with_reducible refine Kd.C_drewN ?_ _) | (with_reducible refine Kd.C_drew ?_))); (case side4 => exact (Kd.S_reads' HO725.out).2.1); (case side5 => repeat (first | exact (Kd.R_reads' HO728.out).2.2 | (with_reducible refine Kd.C_alloc ?_ _) | (with_reducible refine Kd.C_drewN ?_ _) | (with_reducible refine Kd.C_drew ?_))); (case side6 => exact (Kd.R_reads' HO728.out).2.1); rintro e w20 ⟨rfl, hb⟩; refine ⟨_, rfl, ?_⟩; have n0_ := Aside0.mk (Kd.R_below (by (with_reducible repeat (first | apply Kd.R_alloc | apply Kd.R_drewN | apply Kd.R_drew)); exact HO722.out) hb); have n1_ := Aside0.mk (Kd.S_below (by (with_reducible repeat (first | apply Kd.S_alloc | apply Kd.S_drewN | apply Kd.S_drew)); exact HO725.out) hb); have n2_ := Aside0.mk (Kd.R_below (by (with_reducible repeat (first | apply Kd.R_alloc | apply Kd.R_drewN | apply Kd.R_drew)); exact HO728.out) hb); have n3_ := Aside0.mk (blk_below (g := gb718) (o := .cells #[.int .u8 a0_0, .int .u8 a0_1, .slice A0_2 l0_2.length c0_2, .slice A0_3 l0_3.length c0_3, .slice A0_4 l0_4.length c0_4] 56 (0, 0)) (by (with_reducible repeat (first | refine blk_drewN ?_ _ | refine blk_drew ?_ | refine blk_alloc ?_ _)); exact BK718.out) hb); have n4_ := Aside0.mk (below_step (by repeat (first | (with_reducible first | exact HB.out | apply below_alloc | apply pw_below_drewN | apply below_drew1 | refine below_set ?_ GE718.out) | exact HB.out)) hb); clear HO722; clear HO725; clear HO728; clear BK718; clear HB; have HO722 := n0_; have HO725 := n1_; have HO728 := n2_; have BK718 := n3_; have HB := n4_; clear n0_ n1_ n2_ n3_ n4_; (try clear hb); (try clear hb2); (try clear hk); (try clear hi)) | ((with_reducible refine gate_callee (f := 27) rfl ?_); refine goesL_ (some 55) rfl rfl Try.func27 (by kernel_rfl) rfl #[.int .i64 t719, .slice Ao17 t720.length co17, .slice Ao18 t723.length co18, .slice Ao19 t726.length co19] rfl (by (try simp only [List.map_toArray, List.map_cons, List.map_nil]); first | done | rfl | (simp only [List.length_drop, List.length_take]; rfl)) ?_; (with_reducible refine (track_Label.calls k t719 _ _ t720 _ _ t723 _ _ t726 t731 t732 _ ?side1 ?side2 ?side3 ?side4 ?side5 ?side6 A7.out).mono ?_); (case side1 => repeat (first | exact (Kd.R_reads' HO722.out).2.2 | (with_reducible refine Kd.C_alloc ?_ _) | (with_reducible refine Kd.C_drewN ?_ _) | (with_reducible refine Kd.C_drew ?_))); (case side2 => exact (Kd.R_reads' HO722.out).2.1); (case side3 => repeat (first | exact (Kd.S_reads' HO725.out).2.2 | (with_reducible refine Kd.C_alloc ?_ _) | (with_reducible refine Kd.C_drewN ?_ _) | (with_reducible refine Kd.C_drew ?_))); (case side4 => exact (Kd.S_reads' HO725.out).2.1); (case side5 => repeat (first | exact (Kd.R_reads' HO728.out).2.2 | (with_reducible refine Kd.C_alloc ?_ _) | (with_reducible refine Kd.C_drewN ?_ _) | (with_reducible refine Kd.C_drew ?_))); (case side6 => exact (Kd.R_reads' HO728.out).2.1); rintro e w21 ⟨v733, rfl, ho0, hb⟩; refine ⟨_, rfl, ?_⟩; have n0_ := Aside0.mk (Kd.R_below (by (with_reducible repeat (first | apply Kd.R_alloc | apply Kd.R_drewN | apply Kd.R_drew)); exact HO722.out) hb); have n1_ := Aside0.mk (Kd.S_elder' (by (with_reducible repeat (first | apply Kd.S_alloc | apply Kd.S_drewN | apply Kd.S_drew)); exact HO725.out) (Kd.R_base ho0) hb); have n2_ := Aside0.mk (Kd.R_elder' (by (with_reducible repeat (first | apply Kd.R_alloc | apply Kd.R_drewN | apply Kd.R_drew)); exact HO728.out) (Kd.R_base ho0) hb); have n3_ := Aside0.mk (Kd.R_lower (Kd.R_new' ho0 (Kd.R_lt (by (with_reducible repeat (first | apply Kd.R_alloc | apply Kd.R_drewN | apply Kd.R_drew)); exact HO728.out))) (below_size (by repeat (first | (with_reducible first | exact HB.out | apply below_alloc | apply pw_below_drewN | apply below_drew1 | refine below_set ?_ GE718.out) | exact HB.out)))); have n4_ := Aside0.mk (blk_below (g := gb718) (o := .cells #[.int .u8 a0_0, .int .u8 a0_1, .slice A0_2 l0_2.length c0_2, .slice A0_3 l0_3.length c0_3, .slice A0_4 l0_4.length c0_4] 56 (0, 0)) (by (with_reducible repeat (first | refine blk_drewN ?_ _ | refine blk_drew ?_ | refine blk_alloc ?_ _)); exact BK718.out) hb); have n5_ := Aside0.mk (below_step (by repeat (first | (with_reducible first | exact HB.out | apply below_alloc | apply pw_below_drewN | apply below_drew1 | refine below_set ?_ GE718.out) | exact HB.out)) hb); clear HO722; clear HO725; clear HO728; clear BK718; clear HB; have HO722 := n0_; have HO725 := n1_; have HO728 := n2_; have HO734 := n3_; have BK718 := n4_; have HB := n5_; clear n0_ n1_ n2_ n3_ n4_ n5_; (try clear hb); (try clear hb2); (try clear hk); (try clear hi); (try clear ho0)) | ((with_reducible refine gate_callee (f := 33) rfl ?_); refine goesL_ (some 63) rfl rfl Try.func33 (by kernel_rfl) rfl #[.int .i64 t719, .slice Ao17 t720.length co17, .slice Ao18 t723.length co18, .slice Ao19 t726.length co19] rfl (by (try simp only [List.map_toArray, List.map_cons, List.map_nil]); first | done | rfl | (simp only [List.length_drop, List.length_take]; rfl)) ?_; (with_reducible refine (track_Ways.calls k t719 _ _ t720 _ _ t723 _ _ t726 t735 t736 _ ?side1 ?side2 ?side3 ?side4 ?side5 ?side6 A8.out).mono ?_); (case side1 => repeat (first | exact (Kd.R_reads' HO722.out).2.2 | (with_reducible refine Kd.C_alloc ?_ _) | (with_reducible refine Kd.C_drewN ?_ _) | (with_reducible refine Kd.C_drew ?_))); (case side2 => exact (Kd.R_reads' HO722.out).2.1); (case side3 => repeat (first | exact (Kd.S_reads' HO725.out).2.2 | (with_reducible refine Kd.C_alloc ?_ _) | (with_reducible refine Kd.C_drewN ?_ _) | (with_reducible refine Kd.C_drew ?_))); (case side4 => exact (Kd.S_reads' HO725.out).2.1); (case side5 => repeat (first | exact (Kd.R_reads' HO728.out).2.2 | (with_reducible refine Kd.C_alloc ?_ _) | (with_reducible refine Kd.C_drewN ?_ _) | (with_reducible refine Kd.C_drew ?_))); (case side6 => exact (Kd.R_reads' HO728.out).2.1); rintro e w22 ⟨rfl, hb⟩; refine ⟨_, rfl, ?_⟩; have n0_ := Aside0.mk (Kd.R_below (by (with_reducible repeat (first | apply Kd.R_alloc | apply Kd.R_drewN | apply Kd.R_drew)); exact HO722.out) hb); have n1_ := Aside0.mk (Kd.S_below (by (with_reducible repeat (first | apply Kd.S_alloc | apply Kd.S_drewN | apply Kd.S_drew)); exact HO725.out) hb); have n2_ := Aside0.mk (Kd.R_below (by (with_reducible repeat (first | apply Kd.R_alloc | apply Kd.R_drewN | apply Kd.R_drew)); exact HO728.out) hb); have n3_ := Aside0.mk (Kd.R_below (by (with_reducible repeat (first | apply Kd.R_alloc | apply Kd.R_drewN | apply Kd.R_drew)); exact HO734.out) hb); have n4_ := Aside0.mk (blk_below (g := gb718) (o := .cells #[.int .u8 a0_0, .int .u8 a0_1, .slice A0_2 l0_2.length c0_2, .slice A0_3 l0_3.length c0_3, .slice A0_4 l0_4.length c0_4] 56 (0, 0)) (by (with_reducible repeat (first | refine blk_drewN ?_ _ | refine blk_drew ?_ | refine blk_alloc ?_ _)); exact BK718.out) hb); have n5_ := Aside0.mk (below_step (by repeat (first | (with_reducible first | exact HB.out | apply below_alloc | apply pw_below_drewN | apply below_drew1 | refine below_set ?_ GE718.out) | exact HB.out)) hb); clear HO722; clear HO725; clear HO728; clear HO734; clear BK718; clear HB; have HO722 := n0_; have HO725 := n1_; have HO728 := n2_; have HO734 := n3_; have BK718 := n4_; have HB := n5_; clear n0_ n1_ n2_ n3_ n4_ n5_; (try clear hb); (try clear hb2); (try clear hk); (try clear hi)))
  (try simp only [Act.put, List.setIfInBounds_toArray, List.set_cons_zero, List.set_cons_succ])
  go_cut [91] (fun v91 wc => ∃ (kq : Nat) (x91_8 : Bool), v91 = .bool x91_8 ∧ Aside0 (wogglelaw02_TrackSankoff.j0 kq l1 t719 t720 (wrap64 ((Int.tmod (wrap64 (a0_1)) 4) + 1)) t723 t726 t729 t731 x91_8 = some r) ∧ Aside0 (kq ≤ k) ∧ Aside0 (Kd.R k67 67 wc w.heap.size (fun _ => True) (.slice Ao17 t720.length co17) t720) ∧ Aside0 (Kd.S (Kd.slice 3 (Kd.int .i64)) 25 wc w.heap.size (fun k_ => some k_ ≠ ((.slice Ao19 t726.length co19) : Value).ownBlock ∧ some k_ ≠ (v733 : Value).ownBlock) (.slice Ao18 t723.length co18) t723) ∧ Aside0 (Kd.R (Kd.int .i64) 3 wc w.heap.size (fun k_ => some k_ ≠ (v733 : Value).ownBlock) (.slice Ao19 t726.length co19) t726) ∧ Aside0 (Kd.R (Kd.int .i64) 3 wc w.heap.size (fun k_ => some k_ ≠ ((.slice Ao19 t726.length co19) : Value).ownBlock) v733 t731) ∧ Aside0 (wc.heap[gb718]? = some (.cells #[.int .u8 a0_0, .int .u8 a0_1, (.slice A0_2 l0_2.length c0_2), (.slice A0_3 l0_3.length c0_3), (.slice A0_4 l0_4.length c0_4)] 56 (0, 0))) ∧ Aside0 (Below w.heap.size w wc))
  case first =>
    have H := HC9.out
    clear HC9
    by_cases c23 : t730 = 0
    · rw [if_pos c23] at H
      have c23b0 : (t730 == 0) = true := beq_iff_eq.mpr c23
      have c23b1 : (t730 != 0) = false := bne_eq_false_iff_eq.mpr c23
      clear c23
      (first | rw [c23b0] | (simp only [i64_w, i32_w]; rw [c23b0]) | skip)
      by_cases c24 : t732 = 0
      · rw [if_pos c24] at H
        have c24b0 : (t732 == 0) = true := beq_iff_eq.mpr c24
        have c24b1 : (t732 != 0) = false := bne_eq_false_iff_eq.mpr c24
        clear c24
        by_cases c25 : t736 = 0
        · rw [if_pos c25] at H
          have c25b0 : (t736 == 0) = true := beq_iff_eq.mpr c25
          have c25b1 : (t736 != 0) = false := bne_eq_false_iff_eq.mpr c25
          clear c25
          replace H := Option.bind_eq_some_iff.mp H
          obtain ⟨t737, A260, H⟩ := H
          replace H : (if t737 = true then (if t735 < 1 then (wogglelaw02_TrackSankoff.j0 k l1 t719 t720 (wrap64 ((Int.tmod (wrap64 (a0_1)) 4) + 1)) t723 t726 t729 t731 true) else ((wogglelaw02_lives.f k).bind fun t738 => (wogglelaw02_TrackSankoff.j0 k l1 t719 t720 (wrap64 ((Int.tmod (wrap64 (a0_1)) 4) + 1)) t723 t726 t729 t731 (!t738)))) else (wogglelaw02_TrackSankoff.j0 k l1 t719 t720 (wrap64 ((Int.tmod (wrap64 (a0_1)) 4) + 1)) t723 t726 t729 t731 true)) = some r := H
          have A26 := Aside0.mk A260
          clear A260
          by_cases c27 : t737 = true
          · subst c27
            have H1 : (if t735 < 1 then (wogglelaw02_TrackSankoff.j0 k l1 t719 t720 (wrap64 ((Int.tmod (wrap64 (a0_1)) 4) + 1)) t723 t726 t729 t731 true) else ((wogglelaw02_lives.f k).bind fun t738 => (wogglelaw02_TrackSankoff.j0 k l1 t719 t720 (wrap64 ((Int.tmod (wrap64 (a0_1)) 4) + 1)) t723 t726 t729 t731 (!t738)))) = some r := by rw [if_pos rfl] at H; exact H
            clear H
            have H := H1
            clear H1
            by_cases c28 : t735 < 1
            · rw [if_pos c28] at H
              have c28b0 : decide (t735 < 1) = true := decide_eq_true c28
              clear c28
              have H' := Aside0.mk H
              clear H
              obtain ⟨Ao29, co29, eo29⟩ := Kd.R_slice HO734.out
              subst eo29
              go_wp2_with (first | (go_at_call 21; (first | (with_reducible refine (woggleref02_States.calls k (wrap64 (t719 - 1)) (wrap64 ((Int.tmod (wrap64 (a0_1)) 4) + 1)) _ _ t731 true _ ?side1 ?side2 A26.out).mono ?_) | (simp only [i64_w, i32_w]; with_reducible refine (woggleref02_States.calls k (wrap64 (t719 - 1)) (wrap64 ((Int.tmod (wrap64 (a0_1)) 4) + 1)) _ _ t731 true _ ?side1 ?side2 A26.out).mono ?_)); (case side1 => repeat (first | exact (Kd.R_reads' HO734.out).2.2 | (with_reducible refine Kd.C_alloc ?_ _) | (with_reducible refine Kd.C_drewN ?_ _) | (with_reducible refine Kd.C_drew ?_))); (case side2 => exact (Kd.R_reads' HO734.out).2.1); rintro e w' ⟨rfl, ⟨nd, rfl⟩⟩))
              go_meet
              case rel => exact ⟨_, (true), (by first | rfl | (simp; done) | (simp [*]; done)), H', ⟨by first | omega | exact Nat.le_refl _⟩, ⟨by (with_reducible repeat (first | apply Kd.R_alloc | apply Kd.R_drewN | apply Kd.R_drew)); exact HO722.out⟩, ⟨by (with_reducible repeat (first | apply Kd.S_alloc | apply Kd.S_drewN | apply Kd.S_drew)); exact Kd.S_mono HO725.out (fun _ hk => ⟨hk.1.2, hk.2⟩)⟩, ⟨by (with_reducible repeat (first | apply Kd.R_alloc | apply Kd.R_drewN | apply Kd.R_drew)); exact Kd.R_mono HO728.out (fun _ hk => hk.2)⟩, ⟨by (with_reducible repeat (first | apply Kd.R_alloc | apply Kd.R_drewN | apply Kd.R_drew)); exact Kd.R_mono HO734.out (fun _ hk => hk.2)⟩, ⟨by (with_reducible repeat (first | refine blk_drewN ?_ _ | refine blk_drew ?_ | refine blk_alloc ?_ _)); exact BK718.out⟩, ⟨by repeat (first | (with_reducible first | exact HB.out | apply below_alloc | apply pw_below_drewN | apply below_drew1 | refine below_set ?_ GE718.out) | exact HB.out)⟩⟩
            · rw [if_neg c28] at H
              have c28b0 : decide (t735 < 1) = false := decide_eq_false c28
              clear c28
              replace H := Option.bind_eq_some_iff.mp H
              obtain ⟨t738, A300, H⟩ := H
              replace H : (wogglelaw02_TrackSankoff.j0 k l1 t719 t720 (wrap64 ((Int.tmod (wrap64 (a0_1)) 4) + 1)) t723 t726 t729 t731 (!t738)) = some r := H
              have A30 := Aside0.mk A300
              clear A300
              have H' := Aside0.mk H
              clear H
              obtain ⟨Ao31, co31, eo31⟩ := Kd.R_slice HO734.out
              subst eo31
              go_wp2_with (first | (go_at_call 21; (first | (with_reducible refine (woggleref02_States.calls k (wrap64 (t719 - 1)) (wrap64 ((Int.tmod (wrap64 (a0_1)) 4) + 1)) _ _ t731 true _ ?side1 ?side2 A26.out).mono ?_) | (simp only [i64_w, i32_w]; with_reducible refine (woggleref02_States.calls k (wrap64 (t719 - 1)) (wrap64 ((Int.tmod (wrap64 (a0_1)) 4) + 1)) _ _ t731 true _ ?side1 ?side2 A26.out).mono ?_)); (case side1 => repeat (first | exact (Kd.R_reads' HO734.out).2.2 | (with_reducible refine Kd.C_alloc ?_ _) | (with_reducible refine Kd.C_drewN ?_ _) | (with_reducible refine Kd.C_drew ?_))); (case side2 => exact (Kd.R_reads' HO734.out).2.1); rintro e w' ⟨rfl, ⟨nd, rfl⟩⟩) | (go_at_call 22; (with_reducible refine (wogglelaw02_lives.calls k  t738 _ A30.out).mono ?_); rintro e w32 ⟨rfl, hb⟩; have n0_ := Aside0.mk (Kd.R_below (by (with_reducible repeat (first | apply Kd.R_alloc | apply Kd.R_drewN | apply Kd.R_drew)); exact HO722.out) hb); have n1_ := Aside0.mk (Kd.S_below (by (with_reducible repeat (first | apply Kd.S_alloc | apply Kd.S_drewN | apply Kd.S_drew)); exact HO725.out) hb); have n2_ := Aside0.mk (Kd.R_below (by (with_reducible repeat (first | apply Kd.R_alloc | apply Kd.R_drewN | apply Kd.R_drew)); exact HO728.out) hb); have n3_ := Aside0.mk (Kd.R_below (by (with_reducible repeat (first | apply Kd.R_alloc | apply Kd.R_drewN | apply Kd.R_drew)); exact HO734.out) hb); have n4_ := Aside0.mk (blk_below (g := gb718) (o := .cells #[.int .u8 a0_0, .int .u8 a0_1, .slice A0_2 l0_2.length c0_2, .slice A0_3 l0_3.length c0_3, .slice A0_4 l0_4.length c0_4] 56 (0, 0)) (by (with_reducible repeat (first | refine blk_drewN ?_ _ | refine blk_drew ?_ | refine blk_alloc ?_ _)); exact BK718.out) hb); have n5_ := Aside0.mk (below_step (by repeat (first | (with_reducible first | exact HB.out | apply below_alloc | apply pw_below_drewN | apply below_drew1 | refine below_set ?_ GE718.out) | exact HB.out)) hb); clear HO722; clear HO725; clear HO728; clear HO734; clear BK718; clear HB; have HO722 := n0_; have HO725 := n1_; have HO728 := n2_; have HO734 := n3_; have BK718 := n4_; have HB := n5_; clear n0_ n1_ n2_ n3_ n4_ n5_; (try clear hb); (try clear hb2); (try clear hk); (try clear hi)))
              go_meet
              case rel => exact ⟨_, (!t738), (by first | rfl | (simp; done) | (simp [*]; done)), H', ⟨by first | omega | exact Nat.le_refl _⟩, ⟨by (with_reducible repeat (first | apply Kd.R_alloc | apply Kd.R_drewN | apply Kd.R_drew)); exact HO722.out⟩, ⟨by (with_reducible repeat (first | apply Kd.S_alloc | apply Kd.S_drewN | apply Kd.S_drew)); exact Kd.S_mono HO725.out (fun _ hk => ⟨hk.1.2, hk.2⟩)⟩, ⟨by (with_reducible repeat (first | apply Kd.R_alloc | apply Kd.R_drewN | apply Kd.R_drew)); exact Kd.R_mono HO728.out (fun _ hk => hk.2)⟩, ⟨by (with_reducible repeat (first | apply Kd.R_alloc | apply Kd.R_drewN | apply Kd.R_drew)); exact Kd.R_mono HO734.out (fun _ hk => hk.2)⟩, ⟨by (with_reducible repeat (first | refine blk_drewN ?_ _ | refine blk_drew ?_ | refine blk_alloc ?_ _)); exact BK718.out⟩, ⟨by repeat (first | (with_reducible first | exact HB.out | apply below_alloc | apply pw_below_drewN | apply below_drew1 | refine below_set ?_ GE718.out) | exact HB.out)⟩⟩
          · replace c27 := Bool.eq_false_iff.mpr c27
            subst c27
            have H1 : (wogglelaw02_TrackSankoff.j0 k l1 t719 t720 (wrap64 ((Int.tmod (wrap64 (a0_1)) 4) + 1)) t723 t726 t729 t731 true) = some r := by rw [if_neg (show ¬ (false = true) by decide)] at H; exact H
            clear H
            have H := H1
            clear H1
            have H' := Aside0.mk H
            clear H
            obtain ⟨Ao33, co33, eo33⟩ := Kd.R_slice HO734.out
            subst eo33
            go_wp2_with (first | (go_at_call 21; (first | (with_reducible refine (woggleref02_States.calls k (wrap64 (t719 - 1)) (wrap64 ((Int.tmod (wrap64 (a0_1)) 4) + 1)) _ _ t731 false _ ?side1 ?side2 A26.out).mono ?_) | (simp only [i64_w, i32_w]; with_reducible refine (woggleref02_States.calls k (wrap64 (t719 - 1)) (wrap64 ((Int.tmod (wrap64 (a0_1)) 4) + 1)) _ _ t731 false _ ?side1 ?side2 A26.out).mono ?_)); (case side1 => repeat (first | exact (Kd.R_reads' HO734.out).2.2 | (with_reducible refine Kd.C_alloc ?_ _) | (with_reducible refine Kd.C_drewN ?_ _) | (with_reducible refine Kd.C_drew ?_))); (case side2 => exact (Kd.R_reads' HO734.out).2.1); rintro e w' ⟨rfl, ⟨nd, rfl⟩⟩))
            go_meet
            case rel => exact ⟨_, (true), (by first | rfl | (simp; done) | (simp [*]; done)), H', ⟨by first | omega | exact Nat.le_refl _⟩, ⟨by (with_reducible repeat (first | apply Kd.R_alloc | apply Kd.R_drewN | apply Kd.R_drew)); exact HO722.out⟩, ⟨by (with_reducible repeat (first | apply Kd.S_alloc | apply Kd.S_drewN | apply Kd.S_drew)); exact Kd.S_mono HO725.out (fun _ hk => ⟨hk.1.2, hk.2⟩)⟩, ⟨by (with_reducible repeat (first | apply Kd.R_alloc | apply Kd.R_drewN | apply Kd.R_drew)); exact Kd.R_mono HO728.out (fun _ hk => hk.2)⟩, ⟨by (with_reducible repeat (first | apply Kd.R_alloc | apply Kd.R_drewN | apply Kd.R_drew)); exact Kd.R_mono HO734.out (fun _ hk => hk.2)⟩, ⟨by (with_reducible repeat (first | refine blk_drewN ?_ _ | refine blk_drew ?_ | refine blk_alloc ?_ _)); exact BK718.out⟩, ⟨by repeat (first | (with_reducible first | exact HB.out | apply below_alloc | apply pw_below_drewN | apply below_drew1 | refine below_set ?_ GE718.out) | exact HB.out)⟩⟩
        · rw [if_neg c25] at H
          have c25b0 : (t736 == 0) = false := beq_eq_false_iff_ne.mpr c25
          have c25b1 : (t736 != 0) = true := bne_iff_ne.mpr c25
          have H' := Aside0.mk H
          clear H
          go_wp2
          go_meet
          case rel => exact ⟨_, (true), (by first | rfl | (simp; done) | (simp [*]; done)), H', ⟨by first | omega | exact Nat.le_refl _⟩, ⟨by (with_reducible repeat (first | apply Kd.R_alloc | apply Kd.R_drewN | apply Kd.R_drew)); exact HO722.out⟩, ⟨by (with_reducible repeat (first | apply Kd.S_alloc | apply Kd.S_drewN | apply Kd.S_drew)); exact Kd.S_mono HO725.out (fun _ hk => ⟨hk.1.2, hk.2⟩)⟩, ⟨by (with_reducible repeat (first | apply Kd.R_alloc | apply Kd.R_drewN | apply Kd.R_drew)); exact Kd.R_mono HO728.out (fun _ hk => hk.2)⟩, ⟨by (with_reducible repeat (first | apply Kd.R_alloc | apply Kd.R_drewN | apply Kd.R_drew)); exact Kd.R_mono HO734.out (fun _ hk => hk.2)⟩, ⟨by (with_reducible repeat (first | refine blk_drewN ?_ _ | refine blk_drew ?_ | refine blk_alloc ?_ _)); exact BK718.out⟩, ⟨by repeat (first | (with_reducible first | exact HB.out | apply below_alloc | apply pw_below_drewN | apply below_drew1 | refine below_set ?_ GE718.out) | exact HB.out)⟩⟩
      · rw [if_neg c24] at H
        have c24b0 : (t732 == 0) = false := beq_eq_false_iff_ne.mpr c24
        have c24b1 : (t732 != 0) = true := bne_iff_ne.mpr c24
        have H' := Aside0.mk H
        clear H
        go_wp2
        go_meet
        case rel => exact ⟨_, (true), (by first | rfl | (simp; done) | (simp [*]; done)), H', ⟨by first | omega | exact Nat.le_refl _⟩, ⟨by (with_reducible repeat (first | apply Kd.R_alloc | apply Kd.R_drewN | apply Kd.R_drew)); exact HO722.out⟩, ⟨by (with_reducible repeat (first | apply Kd.S_alloc | apply Kd.S_drewN | apply Kd.S_drew)); exact Kd.S_mono HO725.out (fun _ hk => ⟨hk.1.2, hk.2⟩)⟩, ⟨by (with_reducible repeat (first | apply Kd.R_alloc | apply Kd.R_drewN | apply Kd.R_drew)); exact Kd.R_mono HO728.out (fun _ hk => hk.2)⟩, ⟨by (with_reducible repeat (first | apply Kd.R_alloc | apply Kd.R_drewN | apply Kd.R_drew)); exact Kd.R_mono HO734.out (fun _ hk => hk.2)⟩, ⟨by (with_reducible repeat (first | refine blk_drewN ?_ _ | refine blk_drew ?_ | refine blk_alloc ?_ _)); exact BK718.out⟩, ⟨by repeat (first | (with_reducible first | exact HB.out | apply below_alloc | apply pw_below_drewN | apply below_drew1 | refine below_set ?_ GE718.out) | exact HB.out)⟩⟩
    · rw [if_neg c23] at H
      have c23b0 : (t730 == 0) = false := beq_eq_false_iff_ne.mpr c23
      have c23b1 : (t730 != 0) = true := bne_iff_ne.mpr c23
      (first | rw [c23b0] | (simp only [i64_w, i32_w]; rw [c23b0]) | skip)
      have H' := Aside0.mk H
      clear H
      go_wp2
      go_meet
      case rel => exact ⟨_, (true), (by first | rfl | (simp; done) | (simp [*]; done)), H', ⟨by first | omega | exact Nat.le_refl _⟩, ⟨by (with_reducible repeat (first | apply Kd.R_alloc | apply Kd.R_drewN | apply Kd.R_drew)); exact HO722.out⟩, ⟨by (with_reducible repeat (first | apply Kd.S_alloc | apply Kd.S_drewN | apply Kd.S_drew)); exact Kd.S_mono HO725.out (fun _ hk => ⟨hk.1.2, hk.2⟩)⟩, ⟨by (with_reducible repeat (first | apply Kd.R_alloc | apply Kd.R_drewN | apply Kd.R_drew)); exact Kd.R_mono HO728.out (fun _ hk => hk.2)⟩, ⟨by (with_reducible repeat (first | apply Kd.R_alloc | apply Kd.R_drewN | apply Kd.R_drew)); exact Kd.R_mono HO734.out (fun _ hk => hk.2)⟩, ⟨by (with_reducible repeat (first | refine blk_drewN ?_ _ | refine blk_drew ?_ | refine blk_alloc ?_ _)); exact BK718.out⟩, ⟨by repeat (first | (with_reducible first | exact HB.out | apply below_alloc | apply pw_below_drewN | apply below_drew1 | refine below_set ?_ GE718.out) | exact HB.out)⟩⟩
  case rest =>
    clear HC9
    try clear c1
    try clear c2
    try clear p2
    try clear c3
    try clear p6
    try clear c13
    try clear c23
    try clear c23b0
    try clear c23b1
    try clear c24
    try clear c24b0
    try clear c24b1
    try clear c25
    try clear c25b0
    try clear c25b1
    try clear c27
    try clear c28
    try clear c28b0
    try clear c32
    try clear c33
    try clear hcz11_0
    try clear hcz11_1
    try clear hcz11_2
    try clear hcz11_3
    try clear hcz11_4
    try clear hcz13_0
    try clear hcz13_1
    try clear hcz13_2
    try clear hcz13_3
    try clear hcz13_4
    try clear hfz11_0
    try clear hfz11_1
    try clear hfz11_2
    try clear hfz11_3
    try clear hfz11_4
    try clear hfz13_0
    try clear hfz13_1
    try clear hfz13_2
    try clear hfz13_3
    try clear hfz13_4
    obtain ⟨kq, x91_8, rfl, HA, HJ8, HO_6, HO_8, HO_9, HO_12, BK718, HB⟩ := hcut
    cases kq with
    | zero => exact absurd HA.out (by simp [wogglelaw02_TrackSankoff.j0])
    | succ kj8 =>
      have H := HA.out
      clear HA
      simp only [wogglelaw02_TrackSankoff.j0] at H
      by_cases c34 : x91_8 = true
      · subst c34
        have H1 : (some false) = some r := by rw [if_pos rfl] at H; exact H
        clear H
        have H := H1
        clear H1
        obtain rfl := Option.some.inj H
        go_wp2
        go_ret
        exact ⟨by first | rfl | (simp [errW_none, errW_some] <;> rfl) | (simp [*, errW_none, errW_some] <;> rfl), by repeat (first | (with_reducible first | exact HB.out | apply below_alloc | apply pw_below_drewN | apply below_drew1 | refine below_set ?_ GE718.out) | exact HB.out)⟩
      · replace c34 := Bool.eq_false_iff.mpr c34
        subst c34
        have H1 : ((track_Cost.f kj8 t719 t720 t723 t726 t731).bind fun bt739 => ((wogglelaw02_states.f kj8 (wrap64 (t719 - 1)) (wrap64 ((Int.tmod (wrap64 (a0_1)) 4) + 1)) l1).bind fun t741 => ((track_Cost.f kj8 t719 t720 t723 t726 t741).bind fun bt744 => (if bt739.1 = t729 then (if bt739.2 = 0 then (if bt744.1 ≥ t729 then (some (bt744.2 == 0)) else (some false)) else (some false)) else (some false))))) = some r := by rw [if_neg (show ¬ (false = true) by decide)] at H; exact H
        clear H
        have H := H1
        clear H1
        replace H := Option.bind_eq_some_iff.mp H
        obtain ⟨⟨t739, t740⟩, A350, H⟩ := H
        replace H : ((wogglelaw02_states.f kj8 (wrap64 (t719 - 1)) (wrap64 ((Int.tmod (wrap64 (a0_1)) 4) + 1)) l1).bind fun t741 => ((track_Cost.f kj8 t719 t720 t723 t726 t741).bind fun bt744 => (if t739 = t729 then (if t740 = 0 then (if bt744.1 ≥ t729 then (some (bt744.2 == 0)) else (some false)) else (some false)) else (some false)))) = some r := H
        have A35 := Aside0.mk A350
        clear A350
        replace H := Option.bind_eq_some_iff.mp H
        obtain ⟨t741, A360, H⟩ := H
        replace H : ((track_Cost.f kj8 t719 t720 t723 t726 t741).bind fun bt744 => (if t739 = t729 then (if t740 = 0 then (if bt744.1 ≥ t729 then (some (bt744.2 == 0)) else (some false)) else (some false)) else (some false))) = some r := H
        have A36 := Aside0.mk A360
        clear A360
        replace H := Option.bind_eq_some_iff.mp H
        obtain ⟨⟨t744, t745⟩, A370, H⟩ := H
        replace H : (if t739 = t729 then (if t740 = 0 then (if t744 ≥ t729 then (some (t745 == 0)) else (some false)) else (some false)) else (some false)) = some r := H
        have A37 := Aside0.mk A370
        clear A370
        by_cases c38 : t739 = t729
        · rw [if_pos c38] at H
          have c38b0 : (t739 == t729) = true := beq_iff_eq.mpr c38
          have c38b1 : (t739 != t729) = false := bne_eq_false_iff_eq.mpr c38
          clear c38
          by_cases c39 : t740 = 0
          · rw [if_pos c39] at H
            have c39b0 : (t740 == 0) = true := beq_iff_eq.mpr c39
            have c39b1 : (t740 != 0) = false := bne_eq_false_iff_eq.mpr c39
            clear c39
            by_cases c40 : t744 ≥ t729
            · rw [if_pos c40] at H
              have c40b0 : decide (t729 ≤ t744) = true := decide_eq_true c40
              clear c40
              obtain rfl := Option.some.inj H
              obtain ⟨Ao41, co41, eo41⟩ := Kd.R_slice HO_12.out
              subst eo41
              go_wp2_with (first | ((with_reducible refine gate_callee (f := 41) rfl ?_); refine goesL_ (some 98) rfl rfl Try.func41 (by kernel_rfl) rfl #[.int .i64 t719, .slice Ao17 t720.length co17, .slice Ao18 t723.length co18, .slice Ao19 t726.length co19, .slice Ao41 t731.length co41] rfl (by (try simp only [List.map_toArray, List.map_cons, List.map_nil]); first | done | rfl | (simp only [List.length_drop, List.length_take]; rfl)) ?_; (with_reducible refine (track_Cost.calls kj8 t719 _ _ t720 _ _ t723 _ _ t726 _ _ t731 t739 t740 _ ?side1 ?side2 ?side3 ?side4 ?side5 ?side6 ?side7 ?side8 A35.out).mono ?_); (case side1 => repeat (first | exact (Kd.R_reads' HO_6.out).2.2 | (with_reducible refine Kd.C_alloc ?_ _) | (with_reducible refine Kd.C_drewN ?_ _) | (with_reducible refine Kd.C_drew ?_))); (case side2 => exact (Kd.R_reads' HO_6.out).2.1); (case side3 => repeat (first | exact (Kd.S_reads' HO_8.out).2.2 | (with_reducible refine Kd.C_alloc ?_ _) | (with_reducible refine Kd.C_drewN ?_ _) | (with_reducible refine Kd.C_drew ?_))); (case side4 => exact (Kd.S_reads' HO_8.out).2.1); (case side5 => repeat (first | exact (Kd.R_reads' HO_9.out).2.2 | (with_reducible refine Kd.C_alloc ?_ _) | (with_reducible refine Kd.C_drewN ?_ _) | (with_reducible refine Kd.C_drew ?_))); (case side6 => exact (Kd.R_reads' HO_9.out).2.1); (case side7 => repeat (first | exact (Kd.R_reads' HO_12.out).2.2 | (with_reducible refine Kd.C_alloc ?_ _) | (with_reducible refine Kd.C_drewN ?_ _) | (with_reducible refine Kd.C_drew ?_))); (case side8 => exact (Kd.R_reads' HO_12.out).2.1); rintro e w42 ⟨rfl, hb⟩; refine ⟨_, rfl, ?_⟩; have n0_ := Aside0.mk (Kd.R_below (by (with_reducible repeat (first | apply Kd.R_alloc | apply Kd.R_drewN | apply Kd.R_drew)); exact HO_6.out) hb); have n1_ := Aside0.mk (Kd.S_below (by (with_reducible repeat (first | apply Kd.S_alloc | apply Kd.S_drewN | apply Kd.S_drew)); exact HO_8.out) hb); have n2_ := Aside0.mk (Kd.R_below (by (with_reducible repeat (first | apply Kd.R_alloc | apply Kd.R_drewN | apply Kd.R_drew)); exact HO_9.out) hb); have n3_ := Aside0.mk (Kd.R_below (by (with_reducible repeat (first | apply Kd.R_alloc | apply Kd.R_drewN | apply Kd.R_drew)); exact HO_12.out) hb); have n4_ := Aside0.mk (blk_below (g := gb718) (o := .cells #[.int .u8 a0_0, .int .u8 a0_1, .slice A0_2 l0_2.length c0_2, .slice A0_3 l0_3.length c0_3, .slice A0_4 l0_4.length c0_4] 56 (0, 0)) (by (with_reducible repeat (first | refine blk_drewN ?_ _ | refine blk_drew ?_ | refine blk_alloc ?_ _)); exact BK718.out) hb); have n5_ := Aside0.mk (below_step (by repeat (first | (with_reducible first | exact HB.out | apply below_alloc | apply pw_below_drewN | apply below_drew1 | refine below_set ?_ GE718.out) | exact HB.out)) hb); clear HO_6; clear HO_8; clear HO_9; clear HO_12; clear BK718; clear HB; have HO_6 := n0_; have HO_8 := n1_; have HO_9 := n2_; have HO_12 := n3_; have BK718 := n4_; have HB := n5_; clear n0_ n1_ n2_ n3_ n4_ n5_; (try clear hb); (try clear hb2); (try clear hk); (try clear hi)) | ((with_reducible refine gate_callee (f := 36) rfl ?_); refine goesL_ (some 110) rfl rfl Try.func36 (by kernel_rfl) rfl #[.int .i64 (wrap64 (t719 - 1)), .int .i64 (wrap64 ((Int.tmod (wrap64 (a0_1)) 4) + 1)), .slice A1 l1.length c1] rfl (by (try simp only [List.map_toArray, List.map_cons, List.map_nil]); first | done | rfl | (simp only [List.length_drop, List.length_take]; rfl)) ?_; (first | (with_reducible refine (wogglelaw02_states.calls kj8 (wrap64 (t719 - 1)) (wrap64 ((Int.tmod (wrap64 (a0_1)) 4) + 1)) _ _ l1 t741 _ ?side1 ?side2 A36.out).mono ?_) | (simp only [i64_w, i32_w]; with_reducible refine (wogglelaw02_states.calls kj8 (wrap64 (t719 - 1)) (wrap64 ((Int.tmod (wrap64 (a0_1)) 4) + 1)) _ _ l1 t741 _ ?side1 ?side2 A36.out).mono ?_)); (case side1 => repeat (first | exact (Kd.C_below HR1.out HB.out) | (with_reducible refine Kd.C_alloc ?_ _) | (with_reducible refine Kd.C_drewN ?_ _) | (with_reducible refine Kd.C_drew ?_))); (case side2 => exact HC1.out); rintro e w43 ⟨v742, rfl, ho0, hb⟩; refine ⟨_, rfl, ?_⟩; have n0_ := Aside0.mk (Kd.R_below (by (with_reducible repeat (first | apply Kd.R_alloc | apply Kd.R_drewN | apply Kd.R_drew)); exact HO_6.out) hb); have n1_ := Aside0.mk (Kd.S_elder' (by (with_reducible repeat (first | apply Kd.S_alloc | apply Kd.S_drewN | apply Kd.S_drew)); exact HO_8.out) (Kd.R_base ho0) hb); have n2_ := Aside0.mk (Kd.R_elder' (by (with_reducible repeat (first | apply Kd.R_alloc | apply Kd.R_drewN | apply Kd.R_drew)); exact HO_9.out) (Kd.R_base ho0) hb); have n3_ := Aside0.mk (Kd.R_elder' (by (with_reducible repeat (first | apply Kd.R_alloc | apply Kd.R_drewN | apply Kd.R_drew)); exact HO_12.out) (Kd.R_base ho0) hb); have n4_ := Aside0.mk (Kd.R_lower (Kd.R_new' (Kd.R_new' ho0 (Kd.R_lt (by (with_reducible repeat (first | apply Kd.R_alloc | apply Kd.R_drewN | apply Kd.R_drew)); exact HO_9.out))) (Kd.R_lt (by (with_reducible repeat (first | apply Kd.R_alloc | apply Kd.R_drewN | apply Kd.R_drew)); exact HO_12.out))) (below_size (by repeat (first | (with_reducible first | exact HB.out | apply below_alloc | apply pw_below_drewN | apply below_drew1 | refine below_set ?_ GE718.out) | exact HB.out)))); have n5_ := Aside0.mk (blk_below (g := gb718) (o := .cells #[.int .u8 a0_0, .int .u8 a0_1, .slice A0_2 l0_2.length c0_2, .slice A0_3 l0_3.length c0_3, .slice A0_4 l0_4.length c0_4] 56 (0, 0)) (by (with_reducible repeat (first | refine blk_drewN ?_ _ | refine blk_drew ?_ | refine blk_alloc ?_ _)); exact BK718.out) hb); have n6_ := Aside0.mk (below_step (by repeat (first | (with_reducible first | exact HB.out | apply below_alloc | apply pw_below_drewN | apply below_drew1 | refine below_set ?_ GE718.out) | exact HB.out)) hb); clear HO_6; clear HO_8; clear HO_9; clear HO_12; clear BK718; clear HB; have HO_6 := n0_; have HO_8 := n1_; have HO_9 := n2_; have HO_12 := n3_; have HO743 := n4_; have BK718 := n5_; have HB := n6_; clear n0_ n1_ n2_ n3_ n4_ n5_ n6_; (try clear hb); (try clear hb2); (try clear hk); (try clear hi); (try clear ho0); obtain ⟨Ao44, co44, eo44⟩ := Kd.R_slice HO743.out; subst eo44) | ((with_reducible refine gate_callee (f := 41) rfl ?_); refine goesL_ (some 111) rfl rfl Try.func41 (by kernel_rfl) rfl #[.int .i64 t719, .slice Ao17 t720.length co17, .slice Ao18 t723.length co18, .slice Ao19 t726.length co19, .slice Ao44 t741.length co44] rfl (by (try simp only [List.map_toArray, List.map_cons, List.map_nil]); first | done | rfl | (simp only [List.length_drop, List.length_take]; rfl)) ?_; (with_reducible refine (track_Cost.calls kj8 t719 _ _ t720 _ _ t723 _ _ t726 _ _ t741 t744 t745 _ ?side1 ?side2 ?side3 ?side4 ?side5 ?side6 ?side7 ?side8 A37.out).mono ?_); (case side1 => repeat (first | exact (Kd.R_reads' HO_6.out).2.2 | (with_reducible refine Kd.C_alloc ?_ _) | (with_reducible refine Kd.C_drewN ?_ _) | (with_reducible refine Kd.C_drew ?_))); (case side2 => exact (Kd.R_reads' HO_6.out).2.1); (case side3 => repeat (first | exact (Kd.S_reads' HO_8.out).2.2 | (with_reducible refine Kd.C_alloc ?_ _) | (with_reducible refine Kd.C_drewN ?_ _) | (with_reducible refine Kd.C_drew ?_))); (case side4 => exact (Kd.S_reads' HO_8.out).2.1); (case side5 => repeat (first | exact (Kd.R_reads' HO_9.out).2.2 | (with_reducible refine Kd.C_alloc ?_ _) | (with_reducible refine Kd.C_drewN ?_ _) | (with_reducible refine Kd.C_drew ?_))); (case side6 => exact (Kd.R_reads' HO_9.out).2.1); (case side7 => repeat (first | exact (Kd.R_reads' HO743.out).2.2 | (with_reducible refine Kd.C_alloc ?_ _) | (with_reducible refine Kd.C_drewN ?_ _) | (with_reducible refine Kd.C_drew ?_))); (case side8 => exact (Kd.R_reads' HO743.out).2.1); rintro e w45 ⟨rfl, hb⟩; refine ⟨_, rfl, ?_⟩; have n0_ := Aside0.mk (Kd.R_below (by (with_reducible repeat (first | apply Kd.R_alloc | apply Kd.R_drewN | apply Kd.R_drew)); exact HO_6.out) hb); have n1_ := Aside0.mk (Kd.S_below (by (with_reducible repeat (first | apply Kd.S_alloc | apply Kd.S_drewN | apply Kd.S_drew)); exact HO_8.out) hb); have n2_ := Aside0.mk (Kd.R_below (by (with_reducible repeat (first | apply Kd.R_alloc | apply Kd.R_drewN | apply Kd.R_drew)); exact HO_9.out) hb); have n3_ := Aside0.mk (Kd.R_below (by (with_reducible repeat (first | apply Kd.R_alloc | apply Kd.R_drewN | apply Kd.R_drew)); exact HO_12.out) hb); have n4_ := Aside0.mk (Kd.R_below (by (with_reducible repeat (first | apply Kd.R_alloc | apply Kd.R_drewN | apply Kd.R_drew)); exact HO743.out) hb); have n5_ := Aside0.mk (blk_below (g := gb718) (o := .cells #[.int .u8 a0_0, .int .u8 a0_1, .slice A0_2 l0_2.length c0_2, .slice A0_3 l0_3.length c0_3, .slice A0_4 l0_4.length c0_4] 56 (0, 0)) (by (with_reducible repeat (first | refine blk_drewN ?_ _ | refine blk_drew ?_ | refine blk_alloc ?_ _)); exact BK718.out) hb); have n6_ := Aside0.mk (below_step (by repeat (first | (with_reducible first | exact HB.out | apply below_alloc | apply pw_below_drewN | apply below_drew1 | refine below_set ?_ GE718.out) | exact HB.out)) hb); clear HO_6; clear HO_8; clear HO_9; clear HO_12; clear HO743; clear BK718; clear HB; have HO_6 := n0_; have HO_8 := n1_; have HO_9 := n2_; have HO_12 := n3_; have HO743 := n4_; have BK718 := n5_; have HB := n6_; clear n0_ n1_ n2_ n3_ n4_ n5_ n6_; (try clear hb); (try clear hb2); (try clear hk); (try clear hi)))
              go_ret
              exact ⟨by first | rfl | (simp [errW_none, errW_some] <;> rfl) | (simp [*, errW_none, errW_some] <;> rfl), by repeat (first | (with_reducible first | exact HB.out | apply below_alloc | apply pw_below_drewN | apply below_drew1 | refine below_set ?_ GE718.out) | exact HB.out)⟩
            · rw [if_neg c40] at H
              have c40b0 : decide (t729 ≤ t744) = false := decide_eq_false c40
              clear c40
              obtain rfl := Option.some.inj H
              obtain ⟨Ao46, co46, eo46⟩ := Kd.R_slice HO_12.out
              subst eo46
              go_wp2_with (first | ((with_reducible refine gate_callee (f := 41) rfl ?_); refine goesL_ (some 98) rfl rfl Try.func41 (by kernel_rfl) rfl #[.int .i64 t719, .slice Ao17 t720.length co17, .slice Ao18 t723.length co18, .slice Ao19 t726.length co19, .slice Ao46 t731.length co46] rfl (by (try simp only [List.map_toArray, List.map_cons, List.map_nil]); first | done | rfl | (simp only [List.length_drop, List.length_take]; rfl)) ?_; (with_reducible refine (track_Cost.calls kj8 t719 _ _ t720 _ _ t723 _ _ t726 _ _ t731 t739 t740 _ ?side1 ?side2 ?side3 ?side4 ?side5 ?side6 ?side7 ?side8 A35.out).mono ?_); (case side1 => repeat (first | exact (Kd.R_reads' HO_6.out).2.2 | (with_reducible refine Kd.C_alloc ?_ _) | (with_reducible refine Kd.C_drewN ?_ _) | (with_reducible refine Kd.C_drew ?_))); (case side2 => exact (Kd.R_reads' HO_6.out).2.1); (case side3 => repeat (first | exact (Kd.S_reads' HO_8.out).2.2 | (with_reducible refine Kd.C_alloc ?_ _) | (with_reducible refine Kd.C_drewN ?_ _) | (with_reducible refine Kd.C_drew ?_))); (case side4 => exact (Kd.S_reads' HO_8.out).2.1); (case side5 => repeat (first | exact (Kd.R_reads' HO_9.out).2.2 | (with_reducible refine Kd.C_alloc ?_ _) | (with_reducible refine Kd.C_drewN ?_ _) | (with_reducible refine Kd.C_drew ?_))); (case side6 => exact (Kd.R_reads' HO_9.out).2.1); (case side7 => repeat (first | exact (Kd.R_reads' HO_12.out).2.2 | (with_reducible refine Kd.C_alloc ?_ _) | (with_reducible refine Kd.C_drewN ?_ _) | (with_reducible refine Kd.C_drew ?_))); (case side8 => exact (Kd.R_reads' HO_12.out).2.1); rintro e w47 ⟨rfl, hb⟩; refine ⟨_, rfl, ?_⟩; have n0_ := Aside0.mk (Kd.R_below (by (with_reducible repeat (first | apply Kd.R_alloc | apply Kd.R_drewN | apply Kd.R_drew)); exact HO_6.out) hb); have n1_ := Aside0.mk (Kd.S_below (by (with_reducible repeat (first | apply Kd.S_alloc | apply Kd.S_drewN | apply Kd.S_drew)); exact HO_8.out) hb); have n2_ := Aside0.mk (Kd.R_below (by (with_reducible repeat (first | apply Kd.R_alloc | apply Kd.R_drewN | apply Kd.R_drew)); exact HO_9.out) hb); have n3_ := Aside0.mk (Kd.R_below (by (with_reducible repeat (first | apply Kd.R_alloc | apply Kd.R_drewN | apply Kd.R_drew)); exact HO_12.out) hb); have n4_ := Aside0.mk (blk_below (g := gb718) (o := .cells #[.int .u8 a0_0, .int .u8 a0_1, .slice A0_2 l0_2.length c0_2, .slice A0_3 l0_3.length c0_3, .slice A0_4 l0_4.length c0_4] 56 (0, 0)) (by (with_reducible repeat (first | refine blk_drewN ?_ _ | refine blk_drew ?_ | refine blk_alloc ?_ _)); exact BK718.out) hb); have n5_ := Aside0.mk (below_step (by repeat (first | (with_reducible first | exact HB.out | apply below_alloc | apply pw_below_drewN | apply below_drew1 | refine below_set ?_ GE718.out) | exact HB.out)) hb); clear HO_6; clear HO_8; clear HO_9; clear HO_12; clear BK718; clear HB; have HO_6 := n0_; have HO_8 := n1_; have HO_9 := n2_; have HO_12 := n3_; have BK718 := n4_; have HB := n5_; clear n0_ n1_ n2_ n3_ n4_ n5_; (try clear hb); (try clear hb2); (try clear hk); (try clear hi)) | ((with_reducible refine gate_callee (f := 36) rfl ?_); refine goesL_ (some 110) rfl rfl Try.func36 (by kernel_rfl) rfl #[.int .i64 (wrap64 (t719 - 1)), .int .i64 (wrap64 ((Int.tmod (wrap64 (a0_1)) 4) + 1)), .slice A1 l1.length c1] rfl (by (try simp only [List.map_toArray, List.map_cons, List.map_nil]); first | done | rfl | (simp only [List.length_drop, List.length_take]; rfl)) ?_; (first | (with_reducible refine (wogglelaw02_states.calls kj8 (wrap64 (t719 - 1)) (wrap64 ((Int.tmod (wrap64 (a0_1)) 4) + 1)) _ _ l1 t741 _ ?side1 ?side2 A36.out).mono ?_) | (simp only [i64_w, i32_w]; with_reducible refine (wogglelaw02_states.calls kj8 (wrap64 (t719 - 1)) (wrap64 ((Int.tmod (wrap64 (a0_1)) 4) + 1)) _ _ l1 t741 _ ?side1 ?side2 A36.out).mono ?_)); (case side1 => repeat (first | exact (Kd.C_below HR1.out HB.out) | (with_reducible refine Kd.C_alloc ?_ _) | (with_reducible refine Kd.C_drewN ?_ _) | (with_reducible refine Kd.C_drew ?_))); (case side2 => exact HC1.out); rintro e w48 ⟨v742, rfl, ho0, hb⟩; refine ⟨_, rfl, ?_⟩; have n0_ := Aside0.mk (Kd.R_below (by (with_reducible repeat (first | apply Kd.R_alloc | apply Kd.R_drewN | apply Kd.R_drew)); exact HO_6.out) hb); have n1_ := Aside0.mk (Kd.S_elder' (by (with_reducible repeat (first | apply Kd.S_alloc | apply Kd.S_drewN | apply Kd.S_drew)); exact HO_8.out) (Kd.R_base ho0) hb); have n2_ := Aside0.mk (Kd.R_elder' (by (with_reducible repeat (first | apply Kd.R_alloc | apply Kd.R_drewN | apply Kd.R_drew)); exact HO_9.out) (Kd.R_base ho0) hb); have n3_ := Aside0.mk (Kd.R_elder' (by (with_reducible repeat (first | apply Kd.R_alloc | apply Kd.R_drewN | apply Kd.R_drew)); exact HO_12.out) (Kd.R_base ho0) hb); have n4_ := Aside0.mk (Kd.R_lower (Kd.R_new' (Kd.R_new' ho0 (Kd.R_lt (by (with_reducible repeat (first | apply Kd.R_alloc | apply Kd.R_drewN | apply Kd.R_drew)); exact HO_9.out))) (Kd.R_lt (by (with_reducible repeat (first | apply Kd.R_alloc | apply Kd.R_drewN | apply Kd.R_drew)); exact HO_12.out))) (below_size (by repeat (first | (with_reducible first | exact HB.out | apply below_alloc | apply pw_below_drewN | apply below_drew1 | refine below_set ?_ GE718.out) | exact HB.out)))); have n5_ := Aside0.mk (blk_below (g := gb718) (o := .cells #[.int .u8 a0_0, .int .u8 a0_1, .slice A0_2 l0_2.length c0_2, .slice A0_3 l0_3.length c0_3, .slice A0_4 l0_4.length c0_4] 56 (0, 0)) (by (with_reducible repeat (first | refine blk_drewN ?_ _ | refine blk_drew ?_ | refine blk_alloc ?_ _)); exact BK718.out) hb); have n6_ := Aside0.mk (below_step (by repeat (first | (with_reducible first | exact HB.out | apply below_alloc | apply pw_below_drewN | apply below_drew1 | refine below_set ?_ GE718.out) | exact HB.out)) hb); clear HO_6; clear HO_8; clear HO_9; clear HO_12; clear BK718; clear HB; have HO_6 := n0_; have HO_8 := n1_; have HO_9 := n2_; have HO_12 := n3_; have HO743 := n4_; have BK718 := n5_; have HB := n6_; clear n0_ n1_ n2_ n3_ n4_ n5_ n6_; (try clear hb); (try clear hb2); (try clear hk); (try clear hi); (try clear ho0); obtain ⟨Ao49, co49, eo49⟩ := Kd.R_slice HO743.out; subst eo49) | ((with_reducible refine gate_callee (f := 41) rfl ?_); refine goesL_ (some 111) rfl rfl Try.func41 (by kernel_rfl) rfl #[.int .i64 t719, .slice Ao17 t720.length co17, .slice Ao18 t723.length co18, .slice Ao19 t726.length co19, .slice Ao49 t741.length co49] rfl (by (try simp only [List.map_toArray, List.map_cons, List.map_nil]); first | done | rfl | (simp only [List.length_drop, List.length_take]; rfl)) ?_; (with_reducible refine (track_Cost.calls kj8 t719 _ _ t720 _ _ t723 _ _ t726 _ _ t741 t744 t745 _ ?side1 ?side2 ?side3 ?side4 ?side5 ?side6 ?side7 ?side8 A37.out).mono ?_); (case side1 => repeat (first | exact (Kd.R_reads' HO_6.out).2.2 | (with_reducible refine Kd.C_alloc ?_ _) | (with_reducible refine Kd.C_drewN ?_ _) | (with_reducible refine Kd.C_drew ?_))); (case side2 => exact (Kd.R_reads' HO_6.out).2.1); (case side3 => repeat (first | exact (Kd.S_reads' HO_8.out).2.2 | (with_reducible refine Kd.C_alloc ?_ _) | (with_reducible refine Kd.C_drewN ?_ _) | (with_reducible refine Kd.C_drew ?_))); (case side4 => exact (Kd.S_reads' HO_8.out).2.1); (case side5 => repeat (first | exact (Kd.R_reads' HO_9.out).2.2 | (with_reducible refine Kd.C_alloc ?_ _) | (with_reducible refine Kd.C_drewN ?_ _) | (with_reducible refine Kd.C_drew ?_))); (case side6 => exact (Kd.R_reads' HO_9.out).2.1); (case side7 => repeat (first | exact (Kd.R_reads' HO743.out).2.2 | (with_reducible refine Kd.C_alloc ?_ _) | (with_reducible refine Kd.C_drewN ?_ _) | (with_reducible refine Kd.C_drew ?_))); (case side8 => exact (Kd.R_reads' HO743.out).2.1); rintro e w50 ⟨rfl, hb⟩; refine ⟨_, rfl, ?_⟩; have n0_ := Aside0.mk (Kd.R_below (by (with_reducible repeat (first | apply Kd.R_alloc | apply Kd.R_drewN | apply Kd.R_drew)); exact HO_6.out) hb); have n1_ := Aside0.mk (Kd.S_below (by (with_reducible repeat (first | apply Kd.S_alloc | apply Kd.S_drewN | apply Kd.S_drew)); exact HO_8.out) hb); have n2_ := Aside0.mk (Kd.R_below (by (with_reducible repeat (first | apply Kd.R_alloc | apply Kd.R_drewN | apply Kd.R_drew)); exact HO_9.out) hb); have n3_ := Aside0.mk (Kd.R_below (by (with_reducible repeat (first | apply Kd.R_alloc | apply Kd.R_drewN | apply Kd.R_drew)); exact HO_12.out) hb); have n4_ := Aside0.mk (Kd.R_below (by (with_reducible repeat (first | apply Kd.R_alloc | apply Kd.R_drewN | apply Kd.R_drew)); exact HO743.out) hb); have n5_ := Aside0.mk (blk_below (g := gb718) (o := .cells #[.int .u8 a0_0, .int .u8 a0_1, .slice A0_2 l0_2.length c0_2, .slice A0_3 l0_3.length c0_3, .slice A0_4 l0_4.length c0_4] 56 (0, 0)) (by (with_reducible repeat (first | refine blk_drewN ?_ _ | refine blk_drew ?_ | refine blk_alloc ?_ _)); exact BK718.out) hb); have n6_ := Aside0.mk (below_step (by repeat (first | (with_reducible first | exact HB.out | apply below_alloc | apply pw_below_drewN | apply below_drew1 | refine below_set ?_ GE718.out) | exact HB.out)) hb); clear HO_6; clear HO_8; clear HO_9; clear HO_12; clear HO743; clear BK718; clear HB; have HO_6 := n0_; have HO_8 := n1_; have HO_9 := n2_; have HO_12 := n3_; have HO743 := n4_; have BK718 := n5_; have HB := n6_; clear n0_ n1_ n2_ n3_ n4_ n5_ n6_; (try clear hb); (try clear hb2); (try clear hk); (try clear hi)))
              go_ret
              exact ⟨by first | rfl | (simp [errW_none, errW_some] <;> rfl) | (simp [*, errW_none, errW_some] <;> rfl), by repeat (first | (with_reducible first | exact HB.out | apply below_alloc | apply pw_below_drewN | apply below_drew1 | refine below_set ?_ GE718.out) | exact HB.out)⟩
          · rw [if_neg c39] at H
            have c39b0 : (t740 == 0) = false := beq_eq_false_iff_ne.mpr c39
            have c39b1 : (t740 != 0) = true := bne_iff_ne.mpr c39
            obtain rfl := Option.some.inj H
            obtain ⟨Ao51, co51, eo51⟩ := Kd.R_slice HO_12.out
            subst eo51
            go_wp2_with (first | ((with_reducible refine gate_callee (f := 41) rfl ?_); refine goesL_ (some 98) rfl rfl Try.func41 (by kernel_rfl) rfl #[.int .i64 t719, .slice Ao17 t720.length co17, .slice Ao18 t723.length co18, .slice Ao19 t726.length co19, .slice Ao51 t731.length co51] rfl (by (try simp only [List.map_toArray, List.map_cons, List.map_nil]); first | done | rfl | (simp only [List.length_drop, List.length_take]; rfl)) ?_; (with_reducible refine (track_Cost.calls kj8 t719 _ _ t720 _ _ t723 _ _ t726 _ _ t731 t739 t740 _ ?side1 ?side2 ?side3 ?side4 ?side5 ?side6 ?side7 ?side8 A35.out).mono ?_); (case side1 => repeat (first | exact (Kd.R_reads' HO_6.out).2.2 | (with_reducible refine Kd.C_alloc ?_ _) | (with_reducible refine Kd.C_drewN ?_ _) | (with_reducible refine Kd.C_drew ?_))); (case side2 => exact (Kd.R_reads' HO_6.out).2.1); (case side3 => repeat (first | exact (Kd.S_reads' HO_8.out).2.2 | (with_reducible refine Kd.C_alloc ?_ _) | (with_reducible refine Kd.C_drewN ?_ _) | (with_reducible refine Kd.C_drew ?_))); (case side4 => exact (Kd.S_reads' HO_8.out).2.1); (case side5 => repeat (first | exact (Kd.R_reads' HO_9.out).2.2 | (with_reducible refine Kd.C_alloc ?_ _) | (with_reducible refine Kd.C_drewN ?_ _) | (with_reducible refine Kd.C_drew ?_))); (case side6 => exact (Kd.R_reads' HO_9.out).2.1); (case side7 => repeat (first | exact (Kd.R_reads' HO_12.out).2.2 | (with_reducible refine Kd.C_alloc ?_ _) | (with_reducible refine Kd.C_drewN ?_ _) | (with_reducible refine Kd.C_drew ?_))); (case side8 => exact (Kd.R_reads' HO_12.out).2.1); rintro e w52 ⟨rfl, hb⟩; refine ⟨_, rfl, ?_⟩; have n0_ := Aside0.mk (Kd.R_below (by (with_reducible repeat (first | apply Kd.R_alloc | apply Kd.R_drewN | apply Kd.R_drew)); exact HO_6.out) hb); have n1_ := Aside0.mk (Kd.S_below (by (with_reducible repeat (first | apply Kd.S_alloc | apply Kd.S_drewN | apply Kd.S_drew)); exact HO_8.out) hb); have n2_ := Aside0.mk (Kd.R_below (by (with_reducible repeat (first | apply Kd.R_alloc | apply Kd.R_drewN | apply Kd.R_drew)); exact HO_9.out) hb); have n3_ := Aside0.mk (Kd.R_below (by (with_reducible repeat (first | apply Kd.R_alloc | apply Kd.R_drewN | apply Kd.R_drew)); exact HO_12.out) hb); have n4_ := Aside0.mk (blk_below (g := gb718) (o := .cells #[.int .u8 a0_0, .int .u8 a0_1, .slice A0_2 l0_2.length c0_2, .slice A0_3 l0_3.length c0_3, .slice A0_4 l0_4.length c0_4] 56 (0, 0)) (by (with_reducible repeat (first | refine blk_drewN ?_ _ | refine blk_drew ?_ | refine blk_alloc ?_ _)); exact BK718.out) hb); have n5_ := Aside0.mk (below_step (by repeat (first | (with_reducible first | exact HB.out | apply below_alloc | apply pw_below_drewN | apply below_drew1 | refine below_set ?_ GE718.out) | exact HB.out)) hb); clear HO_6; clear HO_8; clear HO_9; clear HO_12; clear BK718; clear HB; have HO_6 := n0_; have HO_8 := n1_; have HO_9 := n2_; have HO_12 := n3_; have BK718 := n4_; have HB := n5_; clear n0_ n1_ n2_ n3_ n4_ n5_; (try clear hb); (try clear hb2); (try clear hk); (try clear hi)) | ((with_reducible refine gate_callee (f := 36) rfl ?_); refine goesL_ (some 110) rfl rfl Try.func36 (by kernel_rfl) rfl #[.int .i64 (wrap64 (t719 - 1)), .int .i64 (wrap64 ((Int.tmod (wrap64 (a0_1)) 4) + 1)), .slice A1 l1.length c1] rfl (by (try simp only [List.map_toArray, List.map_cons, List.map_nil]); first | done | rfl | (simp only [List.length_drop, List.length_take]; rfl)) ?_; (first | (with_reducible refine (wogglelaw02_states.calls kj8 (wrap64 (t719 - 1)) (wrap64 ((Int.tmod (wrap64 (a0_1)) 4) + 1)) _ _ l1 t741 _ ?side1 ?side2 A36.out).mono ?_) | (simp only [i64_w, i32_w]; with_reducible refine (wogglelaw02_states.calls kj8 (wrap64 (t719 - 1)) (wrap64 ((Int.tmod (wrap64 (a0_1)) 4) + 1)) _ _ l1 t741 _ ?side1 ?side2 A36.out).mono ?_)); (case side1 => repeat (first | exact (Kd.C_below HR1.out HB.out) | (with_reducible refine Kd.C_alloc ?_ _) | (with_reducible refine Kd.C_drewN ?_ _) | (with_reducible refine Kd.C_drew ?_))); (case side2 => exact HC1.out); rintro e w53 ⟨v742, rfl, ho0, hb⟩; refine ⟨_, rfl, ?_⟩; have n0_ := Aside0.mk (Kd.R_below (by (with_reducible repeat (first | apply Kd.R_alloc | apply Kd.R_drewN | apply Kd.R_drew)); exact HO_6.out) hb); have n1_ := Aside0.mk (Kd.S_elder' (by (with_reducible repeat (first | apply Kd.S_alloc | apply Kd.S_drewN | apply Kd.S_drew)); exact HO_8.out) (Kd.R_base ho0) hb); have n2_ := Aside0.mk (Kd.R_elder' (by (with_reducible repeat (first | apply Kd.R_alloc | apply Kd.R_drewN | apply Kd.R_drew)); exact HO_9.out) (Kd.R_base ho0) hb); have n3_ := Aside0.mk (Kd.R_elder' (by (with_reducible repeat (first | apply Kd.R_alloc | apply Kd.R_drewN | apply Kd.R_drew)); exact HO_12.out) (Kd.R_base ho0) hb); have n4_ := Aside0.mk (Kd.R_lower (Kd.R_new' (Kd.R_new' ho0 (Kd.R_lt (by (with_reducible repeat (first | apply Kd.R_alloc | apply Kd.R_drewN | apply Kd.R_drew)); exact HO_9.out))) (Kd.R_lt (by (with_reducible repeat (first | apply Kd.R_alloc | apply Kd.R_drewN | apply Kd.R_drew)); exact HO_12.out))) (below_size (by repeat (first | (with_reducible first | exact HB.out | apply below_alloc | apply pw_below_drewN | apply below_drew1 | refine below_set ?_ GE718.out) | exact HB.out)))); have n5_ := Aside0.mk (blk_below (g := gb718) (o := .cells #[.int .u8 a0_0, .int .u8 a0_1, .slice A0_2 l0_2.length c0_2, .slice A0_3 l0_3.length c0_3, .slice A0_4 l0_4.length c0_4] 56 (0, 0)) (by (with_reducible repeat (first | refine blk_drewN ?_ _ | refine blk_drew ?_ | refine blk_alloc ?_ _)); exact BK718.out) hb); have n6_ := Aside0.mk (below_step (by repeat (first | (with_reducible first | exact HB.out | apply below_alloc | apply pw_below_drewN | apply below_drew1 | refine below_set ?_ GE718.out) | exact HB.out)) hb); clear HO_6; clear HO_8; clear HO_9; clear HO_12; clear BK718; clear HB; have HO_6 := n0_; have HO_8 := n1_; have HO_9 := n2_; have HO_12 := n3_; have HO743 := n4_; have BK718 := n5_; have HB := n6_; clear n0_ n1_ n2_ n3_ n4_ n5_ n6_; (try clear hb); (try clear hb2); (try clear hk); (try clear hi); (try clear ho0); obtain ⟨Ao54, co54, eo54⟩ := Kd.R_slice HO743.out; subst eo54) | ((with_reducible refine gate_callee (f := 41) rfl ?_); refine goesL_ (some 111) rfl rfl Try.func41 (by kernel_rfl) rfl #[.int .i64 t719, .slice Ao17 t720.length co17, .slice Ao18 t723.length co18, .slice Ao19 t726.length co19, .slice Ao54 t741.length co54] rfl (by (try simp only [List.map_toArray, List.map_cons, List.map_nil]); first | done | rfl | (simp only [List.length_drop, List.length_take]; rfl)) ?_; (with_reducible refine (track_Cost.calls kj8 t719 _ _ t720 _ _ t723 _ _ t726 _ _ t741 t744 t745 _ ?side1 ?side2 ?side3 ?side4 ?side5 ?side6 ?side7 ?side8 A37.out).mono ?_); (case side1 => repeat (first | exact (Kd.R_reads' HO_6.out).2.2 | (with_reducible refine Kd.C_alloc ?_ _) | (with_reducible refine Kd.C_drewN ?_ _) | (with_reducible refine Kd.C_drew ?_))); (case side2 => exact (Kd.R_reads' HO_6.out).2.1); (case side3 => repeat (first | exact (Kd.S_reads' HO_8.out).2.2 | (with_reducible refine Kd.C_alloc ?_ _) | (with_reducible refine Kd.C_drewN ?_ _) | (with_reducible refine Kd.C_drew ?_))); (case side4 => exact (Kd.S_reads' HO_8.out).2.1); (case side5 => repeat (first | exact (Kd.R_reads' HO_9.out).2.2 | (with_reducible refine Kd.C_alloc ?_ _) | (with_reducible refine Kd.C_drewN ?_ _) | (with_reducible refine Kd.C_drew ?_))); (case side6 => exact (Kd.R_reads' HO_9.out).2.1); (case side7 => repeat (first | exact (Kd.R_reads' HO743.out).2.2 | (with_reducible refine Kd.C_alloc ?_ _) | (with_reducible refine Kd.C_drewN ?_ _) | (with_reducible refine Kd.C_drew ?_))); (case side8 => exact (Kd.R_reads' HO743.out).2.1); rintro e w55 ⟨rfl, hb⟩; refine ⟨_, rfl, ?_⟩; have n0_ := Aside0.mk (Kd.R_below (by (with_reducible repeat (first | apply Kd.R_alloc | apply Kd.R_drewN | apply Kd.R_drew)); exact HO_6.out) hb); have n1_ := Aside0.mk (Kd.S_below (by (with_reducible repeat (first | apply Kd.S_alloc | apply Kd.S_drewN | apply Kd.S_drew)); exact HO_8.out) hb); have n2_ := Aside0.mk (Kd.R_below (by (with_reducible repeat (first | apply Kd.R_alloc | apply Kd.R_drewN | apply Kd.R_drew)); exact HO_9.out) hb); have n3_ := Aside0.mk (Kd.R_below (by (with_reducible repeat (first | apply Kd.R_alloc | apply Kd.R_drewN | apply Kd.R_drew)); exact HO_12.out) hb); have n4_ := Aside0.mk (Kd.R_below (by (with_reducible repeat (first | apply Kd.R_alloc | apply Kd.R_drewN | apply Kd.R_drew)); exact HO743.out) hb); have n5_ := Aside0.mk (blk_below (g := gb718) (o := .cells #[.int .u8 a0_0, .int .u8 a0_1, .slice A0_2 l0_2.length c0_2, .slice A0_3 l0_3.length c0_3, .slice A0_4 l0_4.length c0_4] 56 (0, 0)) (by (with_reducible repeat (first | refine blk_drewN ?_ _ | refine blk_drew ?_ | refine blk_alloc ?_ _)); exact BK718.out) hb); have n6_ := Aside0.mk (below_step (by repeat (first | (with_reducible first | exact HB.out | apply below_alloc | apply pw_below_drewN | apply below_drew1 | refine below_set ?_ GE718.out) | exact HB.out)) hb); clear HO_6; clear HO_8; clear HO_9; clear HO_12; clear HO743; clear BK718; clear HB; have HO_6 := n0_; have HO_8 := n1_; have HO_9 := n2_; have HO_12 := n3_; have HO743 := n4_; have BK718 := n5_; have HB := n6_; clear n0_ n1_ n2_ n3_ n4_ n5_ n6_; (try clear hb); (try clear hb2); (try clear hk); (try clear hi)))
            go_ret
            exact ⟨by first | rfl | (simp [errW_none, errW_some] <;> rfl) | (simp [*, errW_none, errW_some] <;> rfl), by repeat (first | (with_reducible first | exact HB.out | apply below_alloc | apply pw_below_drewN | apply below_drew1 | refine below_set ?_ GE718.out) | exact HB.out)⟩
        · rw [if_neg c38] at H
          have c38b0 : (t739 == t729) = false := beq_eq_false_iff_ne.mpr c38
          have c38b1 : (t739 != t729) = true := bne_iff_ne.mpr c38
          obtain rfl := Option.some.inj H
          obtain ⟨Ao56, co56, eo56⟩ := Kd.R_slice HO_12.out
          subst eo56
          go_wp2_with (first | ((with_reducible refine gate_callee (f := 41) rfl ?_); refine goesL_ (some 98) rfl rfl Try.func41 (by kernel_rfl) rfl #[.int .i64 t719, .slice Ao17 t720.length co17, .slice Ao18 t723.length co18, .slice Ao19 t726.length co19, .slice Ao56 t731.length co56] rfl (by (try simp only [List.map_toArray, List.map_cons, List.map_nil]); first | done | rfl | (simp only [List.length_drop, List.length_take]; rfl)) ?_; (with_reducible refine (track_Cost.calls kj8 t719 _ _ t720 _ _ t723 _ _ t726 _ _ t731 t739 t740 _ ?side1 ?side2 ?side3 ?side4 ?side5 ?side6 ?side7 ?side8 A35.out).mono ?_); (case side1 => repeat (first | exact (Kd.R_reads' HO_6.out).2.2 | (with_reducible refine Kd.C_alloc ?_ _) | (with_reducible refine Kd.C_drewN ?_ _) | (with_reducible refine Kd.C_drew ?_))); (case side2 => exact (Kd.R_reads' HO_6.out).2.1); (case side3 => repeat (first | exact (Kd.S_reads' HO_8.out).2.2 | (with_reducible refine Kd.C_alloc ?_ _) | (with_reducible refine Kd.C_drewN ?_ _) | (with_reducible refine Kd.C_drew ?_))); (case side4 => exact (Kd.S_reads' HO_8.out).2.1); (case side5 => repeat (first | exact (Kd.R_reads' HO_9.out).2.2 | (with_reducible refine Kd.C_alloc ?_ _) | (with_reducible refine Kd.C_drewN ?_ _) | (with_reducible refine Kd.C_drew ?_))); (case side6 => exact (Kd.R_reads' HO_9.out).2.1); (case side7 => repeat (first | exact (Kd.R_reads' HO_12.out).2.2 | (with_reducible refine Kd.C_alloc ?_ _) | (with_reducible refine Kd.C_drewN ?_ _) | (with_reducible refine Kd.C_drew ?_))); (case side8 => exact (Kd.R_reads' HO_12.out).2.1); rintro e w57 ⟨rfl, hb⟩; refine ⟨_, rfl, ?_⟩; have n0_ := Aside0.mk (Kd.R_below (by (with_reducible repeat (first | apply Kd.R_alloc | apply Kd.R_drewN | apply Kd.R_drew)); exact HO_6.out) hb); have n1_ := Aside0.mk (Kd.S_below (by (with_reducible repeat (first | apply Kd.S_alloc | apply Kd.S_drewN | apply Kd.S_drew)); exact HO_8.out) hb); have n2_ := Aside0.mk (Kd.R_below (by (with_reducible repeat (first | apply Kd.R_alloc | apply Kd.R_drewN | apply Kd.R_drew)); exact HO_9.out) hb); have n3_ := Aside0.mk (Kd.R_below (by (with_reducible repeat (first | apply Kd.R_alloc | apply Kd.R_drewN | apply Kd.R_drew)); exact HO_12.out) hb); have n4_ := Aside0.mk (blk_below (g := gb718) (o := .cells #[.int .u8 a0_0, .int .u8 a0_1, .slice A0_2 l0_2.length c0_2, .slice A0_3 l0_3.length c0_3, .slice A0_4 l0_4.length c0_4] 56 (0, 0)) (by (with_reducible repeat (first | refine blk_drewN ?_ _ | refine blk_drew ?_ | refine blk_alloc ?_ _)); exact BK718.out) hb); have n5_ := Aside0.mk (below_step (by repeat (first | (with_reducible first | exact HB.out | apply below_alloc | apply pw_below_drewN | apply below_drew1 | refine below_set ?_ GE718.out) | exact HB.out)) hb); clear HO_6; clear HO_8; clear HO_9; clear HO_12; clear BK718; clear HB; have HO_6 := n0_; have HO_8 := n1_; have HO_9 := n2_; have HO_12 := n3_; have BK718 := n4_; have HB := n5_; clear n0_ n1_ n2_ n3_ n4_ n5_; (try clear hb); (try clear hb2); (try clear hk); (try clear hi)) | ((with_reducible refine gate_callee (f := 36) rfl ?_); refine goesL_ (some 110) rfl rfl Try.func36 (by kernel_rfl) rfl #[.int .i64 (wrap64 (t719 - 1)), .int .i64 (wrap64 ((Int.tmod (wrap64 (a0_1)) 4) + 1)), .slice A1 l1.length c1] rfl (by (try simp only [List.map_toArray, List.map_cons, List.map_nil]); first | done | rfl | (simp only [List.length_drop, List.length_take]; rfl)) ?_; (first | (with_reducible refine (wogglelaw02_states.calls kj8 (wrap64 (t719 - 1)) (wrap64 ((Int.tmod (wrap64 (a0_1)) 4) + 1)) _ _ l1 t741 _ ?side1 ?side2 A36.out).mono ?_) | (simp only [i64_w, i32_w]; with_reducible refine (wogglelaw02_states.calls kj8 (wrap64 (t719 - 1)) (wrap64 ((Int.tmod (wrap64 (a0_1)) 4) + 1)) _ _ l1 t741 _ ?side1 ?side2 A36.out).mono ?_)); (case side1 => repeat (first | exact (Kd.C_below HR1.out HB.out) | (with_reducible refine Kd.C_alloc ?_ _) | (with_reducible refine Kd.C_drewN ?_ _) | (with_reducible refine Kd.C_drew ?_))); (case side2 => exact HC1.out); rintro e w58 ⟨v742, rfl, ho0, hb⟩; refine ⟨_, rfl, ?_⟩; have n0_ := Aside0.mk (Kd.R_below (by (with_reducible repeat (first | apply Kd.R_alloc | apply Kd.R_drewN | apply Kd.R_drew)); exact HO_6.out) hb); have n1_ := Aside0.mk (Kd.S_elder' (by (with_reducible repeat (first | apply Kd.S_alloc | apply Kd.S_drewN | apply Kd.S_drew)); exact HO_8.out) (Kd.R_base ho0) hb); have n2_ := Aside0.mk (Kd.R_elder' (by (with_reducible repeat (first | apply Kd.R_alloc | apply Kd.R_drewN | apply Kd.R_drew)); exact HO_9.out) (Kd.R_base ho0) hb); have n3_ := Aside0.mk (Kd.R_elder' (by (with_reducible repeat (first | apply Kd.R_alloc | apply Kd.R_drewN | apply Kd.R_drew)); exact HO_12.out) (Kd.R_base ho0) hb); have n4_ := Aside0.mk (Kd.R_lower (Kd.R_new' (Kd.R_new' ho0 (Kd.R_lt (by (with_reducible repeat (first | apply Kd.R_alloc | apply Kd.R_drewN | apply Kd.R_drew)); exact HO_9.out))) (Kd.R_lt (by (with_reducible repeat (first | apply Kd.R_alloc | apply Kd.R_drewN | apply Kd.R_drew)); exact HO_12.out))) (below_size (by repeat (first | (with_reducible first | exact HB.out | apply below_alloc | apply pw_below_drewN | apply below_drew1 | refine below_set ?_ GE718.out) | exact HB.out)))); have n5_ := Aside0.mk (blk_below (g := gb718) (o := .cells #[.int .u8 a0_0, .int .u8 a0_1, .slice A0_2 l0_2.length c0_2, .slice A0_3 l0_3.length c0_3, .slice A0_4 l0_4.length c0_4] 56 (0, 0)) (by (with_reducible repeat (first | refine blk_drewN ?_ _ | refine blk_drew ?_ | refine blk_alloc ?_ _)); exact BK718.out) hb); have n6_ := Aside0.mk (below_step (by repeat (first | (with_reducible first | exact HB.out | apply below_alloc | apply pw_below_drewN | apply below_drew1 | refine below_set ?_ GE718.out) | exact HB.out)) hb); clear HO_6; clear HO_8; clear HO_9; clear HO_12; clear BK718; clear HB; have HO_6 := n0_; have HO_8 := n1_; have HO_9 := n2_; have HO_12 := n3_; have HO743 := n4_; have BK718 := n5_; have HB := n6_; clear n0_ n1_ n2_ n3_ n4_ n5_ n6_; (try clear hb); (try clear hb2); (try clear hk); (try clear hi); (try clear ho0); obtain ⟨Ao59, co59, eo59⟩ := Kd.R_slice HO743.out; subst eo59) | ((with_reducible refine gate_callee (f := 41) rfl ?_); refine goesL_ (some 111) rfl rfl Try.func41 (by kernel_rfl) rfl #[.int .i64 t719, .slice Ao17 t720.length co17, .slice Ao18 t723.length co18, .slice Ao19 t726.length co19, .slice Ao59 t741.length co59] rfl (by (try simp only [List.map_toArray, List.map_cons, List.map_nil]); first | done | rfl | (simp only [List.length_drop, List.length_take]; rfl)) ?_; (with_reducible refine (track_Cost.calls kj8 t719 _ _ t720 _ _ t723 _ _ t726 _ _ t741 t744 t745 _ ?side1 ?side2 ?side3 ?side4 ?side5 ?side6 ?side7 ?side8 A37.out).mono ?_); (case side1 => repeat (first | exact (Kd.R_reads' HO_6.out).2.2 | (with_reducible refine Kd.C_alloc ?_ _) | (with_reducible refine Kd.C_drewN ?_ _) | (with_reducible refine Kd.C_drew ?_))); (case side2 => exact (Kd.R_reads' HO_6.out).2.1); (case side3 => repeat (first | exact (Kd.S_reads' HO_8.out).2.2 | (with_reducible refine Kd.C_alloc ?_ _) | (with_reducible refine Kd.C_drewN ?_ _) | (with_reducible refine Kd.C_drew ?_))); (case side4 => exact (Kd.S_reads' HO_8.out).2.1); (case side5 => repeat (first | exact (Kd.R_reads' HO_9.out).2.2 | (with_reducible refine Kd.C_alloc ?_ _) | (with_reducible refine Kd.C_drewN ?_ _) | (with_reducible refine Kd.C_drew ?_))); (case side6 => exact (Kd.R_reads' HO_9.out).2.1); (case side7 => repeat (first | exact (Kd.R_reads' HO743.out).2.2 | (with_reducible refine Kd.C_alloc ?_ _) | (with_reducible refine Kd.C_drewN ?_ _) | (with_reducible refine Kd.C_drew ?_))); (case side8 => exact (Kd.R_reads' HO743.out).2.1); rintro e w60 ⟨rfl, hb⟩; refine ⟨_, rfl, ?_⟩; have n0_ := Aside0.mk (Kd.R_below (by (with_reducible repeat (first | apply Kd.R_alloc | apply Kd.R_drewN | apply Kd.R_drew)); exact HO_6.out) hb); have n1_ := Aside0.mk (Kd.S_below (by (with_reducible repeat (first | apply Kd.S_alloc | apply Kd.S_drewN | apply Kd.S_drew)); exact HO_8.out) hb); have n2_ := Aside0.mk (Kd.R_below (by (with_reducible repeat (first | apply Kd.R_alloc | apply Kd.R_drewN | apply Kd.R_drew)); exact HO_9.out) hb); have n3_ := Aside0.mk (Kd.R_below (by (with_reducible repeat (first | apply Kd.R_alloc | apply Kd.R_drewN | apply Kd.R_drew)); exact HO_12.out) hb); have n4_ := Aside0.mk (Kd.R_below (by (with_reducible repeat (first | apply Kd.R_alloc | apply Kd.R_drewN | apply Kd.R_drew)); exact HO743.out) hb); have n5_ := Aside0.mk (blk_below (g := gb718) (o := .cells #[.int .u8 a0_0, .int .u8 a0_1, .slice A0_2 l0_2.length c0_2, .slice A0_3 l0_3.length c0_3, .slice A0_4 l0_4.length c0_4] 56 (0, 0)) (by (with_reducible repeat (first | refine blk_drewN ?_ _ | refine blk_drew ?_ | refine blk_alloc ?_ _)); exact BK718.out) hb); have n6_ := Aside0.mk (below_step (by repeat (first | (with_reducible first | exact HB.out | apply below_alloc | apply pw_below_drewN | apply below_drew1 | refine below_set ?_ GE718.out) | exact HB.out)) hb); clear HO_6; clear HO_8; clear HO_9; clear HO_12; clear HO743; clear BK718; clear HB; have HO_6 := n0_; have HO_8 := n1_; have HO_9 := n2_; have HO_12 := n3_; have HO743 := n4_; have BK718 := n5_; have HB := n6_; clear n0_ n1_ n2_ n3_ n4_ n5_ n6_; (try clear hb); (try clear hb2); (try clear hk); (try clear hi)))
          go_ret
          exact ⟨by first | rfl | (simp [errW_none, errW_some] <;> rfl) | (simp [*, errW_none, errW_some] <;> rfl), by repeat (first | (with_reducible first | exact HB.out | apply below_alloc | apply pw_below_drewN | apply below_drew1 | refine below_set ?_ GE718.out) | exact HB.out)⟩

/-- THE ONE PURE STATEMENT of wogglelaw02_TrackSankoff: yours. -/
def wogglelaw02_TrackSankoff.Pure : Prop := ∀ (a0_0 : Int) (a0_1 : Int) (l0_2 : List Int) (l0_3 : List Int) (l0_4 : List Int) (l1 : List Int), (Lit.int .u8 a0_0).wf = true → (Lit.int .u8 a0_1).wf = true → (l0_2.length ≤ maxLen ∧ ∀ x0_ ∈ l0_2, (Lit.int .u8 x0_).wf = true) → (l0_3.length ≤ maxLen ∧ ∀ x0_ ∈ l0_3, (Lit.int .u8 x0_).wf = true) → (l0_4.length ≤ maxLen ∧ ∀ x0_ ∈ l0_4, (Lit.int .u8 x0_).wf = true) → (l1.length ≤ maxLen ∧ ∀ x0_ ∈ l1, (Lit.int .u8 x0_).wf = true) → ∃ k, wogglelaw02_TrackSankoff.f k a0_0 a0_1 l0_2 l0_3 l0_4 l1 = some true

end Go.Proofs.Ytcphmeeighhdjaa.P
