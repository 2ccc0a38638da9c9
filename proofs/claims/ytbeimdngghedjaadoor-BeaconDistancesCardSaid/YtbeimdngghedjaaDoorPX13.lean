-- written by a program of this session
import Derived.Test.YtbeimdngghedjaaDoorPK
import Derived.Test.YtbeimdngghedjaaDoorPK2
import Derived.Test.YtbeimdngghedjaaDoorPM3
import Derived.Test.YtbeimdngghedjaaDoorPX16
import Derived.Test.YtbeimdngghedjaaDoorPX16d
import Derived.Test.YtbeimdngghedjaaDoorPM2
import Derived.Test.YtbeimdngghedjaaDoorPF25
import Derived.Test.YtbeimdngghedjaaDoorPF26
import Derived.Test.YtbeimdngghedjaaDoorPF39
import Derived.Test.YtbeimdngghedjaaDoorPF42
import Derived.Test.YtbeimdngghedjaaDoorPF43
import Derived.Test.YtbeimdngghedjaaDoorBId
import Derived.Test.YtbeimdngghedjaaDoorGD
import Derived.Test.YtbeimdngghedjaaDoorBZ
namespace Go.Proofs.YtbeimdngghedjaaDoor.P
open Go.RowKit Go.Proofs.YtbeimdngghedjaaDoorW.PrintWords Go.Proofs.YtbeimdngghedjaaDoorW.PrintLast Go.Proofs.YtbeimdngghedjaaDoorW.PrintMore
attribute [local go_sem] max2_int min2_int max_two min_two max_three min_three max_four min_four   -- for this text's walks alone
set_option linter.unusedVariables false
set_option linter.unusedSimpArgs false

/-! ### wogglelaw07_BeaconDistances: function 13 -/
def wogglelaw07_BeaconDistances.j0 : Nat → Int → Int → List Int → Bool → Option (Bool)
  | 0, _, _, _, _ => none
  | k + 1, x10, x11, x12, x90 => if x90 = true then (some false) else ((woggleref06_IsTree.f k x12).bind fun t656 => (if t656 = true then ((woggleref07_IsPath.f k x12).bind fun t657 => (if t657 = true then (if x10 = 0 then (some (x11 == 5)) else (some false)) else ((woggleref07_Slater.f k x12).bind fun t658 => (if x10 = t658 then (some (x11 == 0)) else (some false))))) else (if x10 = 0 then (some (x11 == 5)) else (some false))))
def wogglelaw07_BeaconDistances.f (k : Nat) (a0_0 : Int) (l0_1 : List (S47)) : Option (Bool) := (wogglelaw07_Graph_few.f k a0_0 l0_1).bind fun bt628 => ((beacon_Distances.f bt628.1 bt628.2.1).bind fun bt633 => ((beacon_Twins.f k bt628.1 bt628.2.1).bind fun bt637 => ((beacon_Slater.f k bt628.1 bt628.2.1).bind fun bt641 => (if bt628.2.2 = true then ((woggleref06_Near.f k bt628.1 bt628.2.1).bind fun t644 => ((woggleref07_Distances.f k t644).bind fun t647 => ((woggleref01_SameLists.f k bt633.1 t647).bind fun t650 => (if t650 = true then (if bt633.2 = 0 then ((woggleref07_Classes.f k t644).bind fun t651 => ((woggleref01_SameLists.f k bt637.1 t651).bind fun t654 => (if t654 = true then (if bt637.2 = 0 then ((wogglelaw07_lives.f k).bind fun t655 => (wogglelaw07_BeaconDistances.j0 k bt641.1 bt641.2 t644 (!t655))) else (wogglelaw07_BeaconDistances.j0 k bt641.1 bt641.2 t644 true)) else (wogglelaw07_BeaconDistances.j0 k bt641.1 bt641.2 t644 true)))) else (wogglelaw07_BeaconDistances.j0 k bt641.1 bt641.2 t644 true)) else (wogglelaw07_BeaconDistances.j0 k bt641.1 bt641.2 t644 true))))) else (if (wrap64 ((bt633.1.length : Int) + (bt637.1.length : Int))) = 0 then (if bt641.1 = 0 then (if bt633.2 = 1 then (if bt637.2 = 1 then (if bt641.2 = 1 then ((wogglelaw07_lives.f k).bind fun t643 => (some t643)) else (some false)) else (some false)) else (some false)) else (some false)) else (some false))))))
theorem wogglelaw07_BeaconDistances.mono_l : ∀ k, (∀ y0 y1 y2 y3, LeO (wogglelaw07_BeaconDistances.j0 k y0 y1 y2 y3) (wogglelaw07_BeaconDistances.j0 (k + 1) y0 y1 y2 y3))
  | 0 => fun _ _ _ _ r h => by simp [wogglelaw07_BeaconDistances.j0] at h
  | k + 1 => by
    have ih0 := wogglelaw07_BeaconDistances.mono_l k
    · intro y0 y1 y2 y3
      unfold wogglelaw07_BeaconDistances.j0
      repeat' first
      | (with_reducible exact ih0 _ _ _ _)
      | (with_reducible exact beacon_Slater.mono _ _ _)
      | (with_reducible exact beacon_Twins.mono _ _ _)
      | (with_reducible exact wogglelaw07_Graph_few.mono _ _ _)
      | (with_reducible exact wogglelaw07_lives.mono _)
      | (with_reducible exact woggleref01_SameLists.mono _ _ _)
      | (with_reducible exact woggleref06_IsTree.mono _ _)
      | (with_reducible exact woggleref06_Near.mono _ _ _)
      | (with_reducible exact woggleref07_Classes.mono _ _)
      | (with_reducible exact woggleref07_Distances.mono _ _)
      | (with_reducible exact woggleref07_IsPath.mono _ _)
      | (with_reducible exact woggleref07_Slater.mono _ _)
      | (with_reducible exact LeO.refl _)
      | (with_reducible exact LeO.none _)
      | (with_reducible refine LeO.ite ?_ ?_)
      | (with_reducible refine LeO.bind ?_ (fun _ => ?_))
      | exact ih0 _ _ _ _
      | exact beacon_Slater.mono _ _ _
      | exact beacon_Twins.mono _ _ _
      | exact wogglelaw07_Graph_few.mono _ _ _
      | exact wogglelaw07_lives.mono _
      | exact woggleref01_SameLists.mono _ _ _
      | exact woggleref06_IsTree.mono _ _
      | exact woggleref06_Near.mono _ _ _
      | exact woggleref07_Classes.mono _ _
      | exact woggleref07_Distances.mono _ _
      | exact woggleref07_IsPath.mono _ _
      | exact woggleref07_Slater.mono _ _
      | exact LeO.none _
      | refine LeO.ite ?_ ?_
      | refine LeO.bind ?_ (fun _ => ?_)
theorem wogglelaw07_BeaconDistances.mono : ∀ a0 a1 k, LeO (wogglelaw07_BeaconDistances.f k a0 a1) (wogglelaw07_BeaconDistances.f (k + 1) a0 a1) := by
  intro a0 a1 k
  have ih0 := wogglelaw07_BeaconDistances.mono_l k
  unfold wogglelaw07_BeaconDistances.f
  repeat' first
      | (with_reducible exact ih0 _ _ _ _)
      | (with_reducible exact beacon_Slater.mono _ _ _)
      | (with_reducible exact beacon_Twins.mono _ _ _)
      | (with_reducible exact wogglelaw07_Graph_few.mono _ _ _)
      | (with_reducible exact wogglelaw07_lives.mono _)
      | (with_reducible exact woggleref01_SameLists.mono _ _ _)
      | (with_reducible exact woggleref06_IsTree.mono _ _)
      | (with_reducible exact woggleref06_Near.mono _ _ _)
      | (with_reducible exact woggleref07_Classes.mono _ _)
      | (with_reducible exact woggleref07_Distances.mono _ _)
      | (with_reducible exact woggleref07_IsPath.mono _ _)
      | (with_reducible exact woggleref07_Slater.mono _ _)
      | (with_reducible exact LeO.refl _)
      | (with_reducible exact LeO.none _)
      | (with_reducible refine LeO.ite ?_ ?_)
      | (with_reducible refine LeO.bind ?_ (fun _ => ?_))
      | exact ih0 _ _ _ _
      | exact beacon_Slater.mono _ _ _
      | exact beacon_Twins.mono _ _ _
      | exact wogglelaw07_Graph_few.mono _ _ _
      | exact wogglelaw07_lives.mono _
      | exact woggleref01_SameLists.mono _ _ _
      | exact woggleref06_IsTree.mono _ _
      | exact woggleref06_Near.mono _ _ _
      | exact woggleref07_Classes.mono _ _
      | exact woggleref07_Distances.mono _ _
      | exact woggleref07_IsPath.mono _ _
      | exact woggleref07_Slater.mono _ _
      | exact LeO.none _
      | refine LeO.ite ?_ ?_
      | refine LeO.bind ?_ (fun _ => ?_)
theorem no_true_ {r : Bool} (h : some false = some r) (hr : r = true) : False := by subst hr; cases h
theorem wogglelaw07_BeaconDistances.j0_no {k : Nat} {a0} {a1} {a2} {r : Bool} (h : wogglelaw07_BeaconDistances.j0 k a0 a1 a2 true = some r) (hr : r = true) : False := by subst hr; cases k <;> simp [wogglelaw07_BeaconDistances.j0] at h
set_option maxHeartbeats 8000000 in
set_option maxRecDepth 100000 in
theorem wogglelaw07_BeaconDistances.calls (k : Nat) (a0_0 : Int) (A0_1 : Option Addr) (c0_1 : Nat) (l0_1 : List (S47)) (r : Bool) (w : World) (hr0_1 : Kd.C k47 w A0_1 l0_1.length l0_1) (hc0_1 : l0_1.length ≤ c0_1) (hdoor : Door w) (h : wogglelaw07_BeaconDistances.f k a0_0 l0_1 = some r) (hrr : r = true) :
    Calls Tryd.prog 13 #[.agg #[.int .i64 a0_0, .slice A0_1 l0_1.length c0_1]] w fun e w' => e = .returned (.bool r) ∧ Below w.heap.size w w' := by
  have HRR := Aside0.mk hrr
  clear hrr
  have HDOOR := Aside0.mk hdoor
  clear hdoor
  have hu24 := Tryd.underlying24
  have HR0_1 := Aside0.mk hr0_1
  have HC0_1 := Aside0.mk hc0_1
  clear hr0_1 hc0_1
  have HB := Aside0.mk (Below.refl w.heap.size w)
  have H : ((wogglelaw07_Graph_few.f k a0_0 l0_1).bind fun bt628 => ((beacon_Distances.f bt628.1 bt628.2.1).bind fun bt633 => ((beacon_Twins.f k bt628.1 bt628.2.1).bind fun bt637 => ((beacon_Slater.f k bt628.1 bt628.2.1).bind fun bt641 => (if bt628.2.2 = true then ((woggleref06_Near.f k bt628.1 bt628.2.1).bind fun t644 => ((woggleref07_Distances.f k t644).bind fun t647 => ((woggleref01_SameLists.f k bt633.1 t647).bind fun t650 => (if t650 = true then (if bt633.2 = 0 then ((woggleref07_Classes.f k t644).bind fun t651 => ((woggleref01_SameLists.f k bt637.1 t651).bind fun t654 => (if t654 = true then (if bt637.2 = 0 then ((wogglelaw07_lives.f k).bind fun t655 => (wogglelaw07_BeaconDistances.j0 k bt641.1 bt641.2 t644 (!t655))) else (wogglelaw07_BeaconDistances.j0 k bt641.1 bt641.2 t644 true)) else (wogglelaw07_BeaconDistances.j0 k bt641.1 bt641.2 t644 true)))) else (wogglelaw07_BeaconDistances.j0 k bt641.1 bt641.2 t644 true)) else (wogglelaw07_BeaconDistances.j0 k bt641.1 bt641.2 t644 true))))) else (if (wrap64 ((bt633.1.length : Int) + (bt637.1.length : Int))) = 0 then (if bt641.1 = 0 then (if bt633.2 = 1 then (if bt637.2 = 1 then (if bt641.2 = 1 then ((wogglelaw07_lives.f k).bind fun t643 => (some t643)) else (some false)) else (some false)) else (some false)) else (some false)) else (some false))))))) = some r := h
  clear h
  replace H := Option.bind_eq_some_iff.mp H
  obtain ⟨⟨t628, t629, t632⟩, A20, H⟩ := H
  replace H : ((beacon_Distances.f t628 t629).bind fun bt633 => ((beacon_Twins.f k t628 t629).bind fun bt637 => ((beacon_Slater.f k t628 t629).bind fun bt641 => (if t632 = true then ((woggleref06_Near.f k t628 t629).bind fun t644 => ((woggleref07_Distances.f k t644).bind fun t647 => ((woggleref01_SameLists.f k bt633.1 t647).bind fun t650 => (if t650 = true then (if bt633.2 = 0 then ((woggleref07_Classes.f k t644).bind fun t651 => ((woggleref01_SameLists.f k bt637.1 t651).bind fun t654 => (if t654 = true then (if bt637.2 = 0 then ((wogglelaw07_lives.f k).bind fun t655 => (wogglelaw07_BeaconDistances.j0 k bt641.1 bt641.2 t644 (!t655))) else (wogglelaw07_BeaconDistances.j0 k bt641.1 bt641.2 t644 true)) else (wogglelaw07_BeaconDistances.j0 k bt641.1 bt641.2 t644 true)))) else (wogglelaw07_BeaconDistances.j0 k bt641.1 bt641.2 t644 true)) else (wogglelaw07_BeaconDistances.j0 k bt641.1 bt641.2 t644 true))))) else (if (wrap64 ((bt633.1.length : Int) + (bt637.1.length : Int))) = 0 then (if bt641.1 = 0 then (if bt633.2 = 1 then (if bt637.2 = 1 then (if bt641.2 = 1 then ((wogglelaw07_lives.f k).bind fun t643 => (some t643)) else (some false)) else (some false)) else (some false)) else (some false)) else (some false)))))) = some r := H
  have A2 := Aside0.mk A20
  clear A20
  replace H := Option.bind_eq_some_iff.mp H
  obtain ⟨⟨t633, t634⟩, A30, H⟩ := H
  replace H : ((beacon_Twins.f k t628 t629).bind fun bt637 => ((beacon_Slater.f k t628 t629).bind fun bt641 => (if t632 = true then ((woggleref06_Near.f k t628 t629).bind fun t644 => ((woggleref07_Distances.f k t644).bind fun t647 => ((woggleref01_SameLists.f k t633 t647).bind fun t650 => (if t650 = true then (if t634 = 0 then ((woggleref07_Classes.f k t644).bind fun t651 => ((woggleref01_SameLists.f k bt637.1 t651).bind fun t654 => (if t654 = true then (if bt637.2 = 0 then ((wogglelaw07_lives.f k).bind fun t655 => (wogglelaw07_BeaconDistances.j0 k bt641.1 bt641.2 t644 (!t655))) else (wogglelaw07_BeaconDistances.j0 k bt641.1 bt641.2 t644 true)) else (wogglelaw07_BeaconDistances.j0 k bt641.1 bt641.2 t644 true)))) else (wogglelaw07_BeaconDistances.j0 k bt641.1 bt641.2 t644 true)) else (wogglelaw07_BeaconDistances.j0 k bt641.1 bt641.2 t644 true))))) else (if (wrap64 ((t633.length : Int) + (bt637.1.length : Int))) = 0 then (if bt641.1 = 0 then (if t634 = 1 then (if bt637.2 = 1 then (if bt641.2 = 1 then ((wogglelaw07_lives.f k).bind fun t643 => (some t643)) else (some false)) else (some false)) else (some false)) else (some false)) else (some false))))) = some r := H
  have A3 := Aside0.mk A30
  clear A30
  replace H := Option.bind_eq_some_iff.mp H
  obtain ⟨⟨t637, t638⟩, A40, H⟩ := H
  replace H : ((beacon_Slater.f k t628 t629).bind fun bt641 => (if t632 = true then ((woggleref06_Near.f k t628 t629).bind fun t644 => ((woggleref07_Distances.f k t644).bind fun t647 => ((woggleref01_SameLists.f k t633 t647).bind fun t650 => (if t650 = true then (if t634 = 0 then ((woggleref07_Classes.f k t644).bind fun t651 => ((woggleref01_SameLists.f k t637 t651).bind fun t654 => (if t654 = true then (if t638 = 0 then ((wogglelaw07_lives.f k).bind fun t655 => (wogglelaw07_BeaconDistances.j0 k bt641.1 bt641.2 t644 (!t655))) else (wogglelaw07_BeaconDistances.j0 k bt641.1 bt641.2 t644 true)) else (wogglelaw07_BeaconDistances.j0 k bt641.1 bt641.2 t644 true)))) else (wogglelaw07_BeaconDistances.j0 k bt641.1 bt641.2 t644 true)) else (wogglelaw07_BeaconDistances.j0 k bt641.1 bt641.2 t644 true))))) else (if (wrap64 ((t633.length : Int) + (t637.length : Int))) = 0 then (if bt641.1 = 0 then (if t634 = 1 then (if t638 = 1 then (if bt641.2 = 1 then ((wogglelaw07_lives.f k).bind fun t643 => (some t643)) else (some false)) else (some false)) else (some false)) else (some false)) else (some false)))) = some r := H
  have A4 := Aside0.mk A40
  clear A40
  replace H := Option.bind_eq_some_iff.mp H
  obtain ⟨⟨t641, t642⟩, A50, H⟩ := H
  replace H : (if t632 = true then ((woggleref06_Near.f k t628 t629).bind fun t644 => ((woggleref07_Distances.f k t644).bind fun t647 => ((woggleref01_SameLists.f k t633 t647).bind fun t650 => (if t650 = true then (if t634 = 0 then ((woggleref07_Classes.f k t644).bind fun t651 => ((woggleref01_SameLists.f k t637 t651).bind fun t654 => (if t654 = true then (if t638 = 0 then ((wogglelaw07_lives.f k).bind fun t655 => (wogglelaw07_BeaconDistances.j0 k t641 t642 t644 (!t655))) else (wogglelaw07_BeaconDistances.j0 k t641 t642 t644 true)) else (wogglelaw07_BeaconDistances.j0 k t641 t642 t644 true)))) else (wogglelaw07_BeaconDistances.j0 k t641 t642 t644 true)) else (wogglelaw07_BeaconDistances.j0 k t641 t642 t644 true))))) else (if (wrap64 ((t633.length : Int) + (t637.length : Int))) = 0 then (if t641 = 0 then (if t634 = 1 then (if t638 = 1 then (if t642 = 1 then ((wogglelaw07_lives.f k).bind fun t643 => (some t643)) else (some false)) else (some false)) else (some false)) else (some false)) else (some false))) = some r := H
  have A5 := Aside0.mk A50
  clear A50
  by_cases c6 : t632 = true
  · subst c6
    have H1 : ((woggleref06_Near.f k t628 t629).bind fun t644 => ((woggleref07_Distances.f k t644).bind fun t647 => ((woggleref01_SameLists.f k t633 t647).bind fun t650 => (if t650 = true then (if t634 = 0 then ((woggleref07_Classes.f k t644).bind fun t651 => ((woggleref01_SameLists.f k t637 t651).bind fun t654 => (if t654 = true then (if t638 = 0 then ((wogglelaw07_lives.f k).bind fun t655 => (wogglelaw07_BeaconDistances.j0 k t641 t642 t644 (!t655))) else (wogglelaw07_BeaconDistances.j0 k t641 t642 t644 true)) else (wogglelaw07_BeaconDistances.j0 k t641 t642 t644 true)))) else (wogglelaw07_BeaconDistances.j0 k t641 t642 t644 true)) else (wogglelaw07_BeaconDistances.j0 k t641 t642 t644 true))))) = some r := by rw [if_pos rfl] at H; exact H
    clear H
    have H := H1
    clear H1
    replace H := Option.bind_eq_some_iff.mp H
    obtain ⟨t644, A70, H⟩ := H
    replace H : ((woggleref07_Distances.f k t644).bind fun t647 => ((woggleref01_SameLists.f k t633 t647).bind fun t650 => (if t650 = true then (if t634 = 0 then ((woggleref07_Classes.f k t644).bind fun t651 => ((woggleref01_SameLists.f k t637 t651).bind fun t654 => (if t654 = true then (if t638 = 0 then ((wogglelaw07_lives.f k).bind fun t655 => (wogglelaw07_BeaconDistances.j0 k t641 t642 t644 (!t655))) else (wogglelaw07_BeaconDistances.j0 k t641 t642 t644 true)) else (wogglelaw07_BeaconDistances.j0 k t641 t642 t644 true)))) else (wogglelaw07_BeaconDistances.j0 k t641 t642 t644 true)) else (wogglelaw07_BeaconDistances.j0 k t641 t642 t644 true)))) = some r := H
    have A7 := Aside0.mk A70
    clear A70
    have HC8 := Aside0.mk H
    clear H
    go_enter Tryd.func13, Tryd.ntmps13
    go_upto_region 8 with (first | ((with_reducible refine gate_dst (N := 1) rfl ?_); refine box_event ?hg (N := 1) ?hd (cs := #[.int .i64 a0_0, .slice A0_1 l0_1.length c0_1]) (t := 24) ?hr ?_; (case hd => rfl); (case hg => rfl); (case hr => first | (go_simp; done) | (go_simp; rfl)); intro gb627 hg w9 hbox hb; have n0_ := Aside0.mk (below_step (by repeat (first | (with_reducible first | exact HB.out | apply below_alloc | apply pw_below_drewN | apply below_drew1) | exact HB.out)) hb); have n1_ := Aside0.mk (hbox); have n2_ := Aside0.mk ((by rw [hg]; exact (below_size (by repeat (first | (with_reducible first | exact HB.out | apply below_alloc | apply pw_below_drewN | apply below_drew1) | exact HB.out))) : w.heap.size ≤ gb627)); have n3_ := Aside0.mk ((by rw [hg]; exact (below_size (by repeat (first | (with_reducible first | exact HB.out | apply below_alloc | apply pw_below_drewN | apply below_drew1) | exact HB.out))) : w.heap.size ≤ gb627)); clear HB; have HB := n0_; have BK627 := n1_; have GW627 := n2_; have GE627 := n3_; clear n0_ n1_ n2_ n3_; clear hb hbox hg; have hcz10_0 : w9.cell? ⟨gb627, 0, none⟩ = some (.int .i64 a0_0) := (blk_cell BK627.out 0).trans rfl; have hcz10_1 : w9.cell? ⟨gb627, 1, none⟩ = some (.slice A0_1 l0_1.length c0_1) := (blk_cell BK627.out 1).trans rfl; have hfz10_0 := blk_frozen BK627.out 0; have hfz10_1 := blk_frozen BK627.out 1) | ((with_reducible refine gate_callee (f := 15) rfl ?_); refine goesL_ (some 15) rfl rfl Tryd.func15 (by kernel_rfl) rfl #[.agg #[.int .i64 a0_0, .slice A0_1 l0_1.length c0_1]] rfl (by (try simp only [List.map_toArray, List.map_cons, List.map_nil]); first | done | rfl | (simp only [List.length_drop, List.length_take]; rfl)) ?_; (with_reducible refine (wogglelaw07_Graph_few.calls k a0_0 _ _ l0_1 t628 t629 true _ ?side1 ?side2 A2.out).mono ?_); (case side1 => repeat (first | exact (Kd.C_below HR0_1.out HB.out) | (with_reducible refine Kd.C_alloc ?_ _) | (with_reducible refine Kd.C_drewN ?_ _) | (with_reducible refine Kd.C_drew ?_))); (case side2 => exact HC0_1.out); rintro e w11 ⟨v630, rfl, ho0, hb⟩; refine ⟨_, rfl, ?_⟩; have n0_ := Aside0.mk (Kd.R_lower ho0 (below_size (by repeat (first | (with_reducible first | exact HB.out | apply below_alloc | apply pw_below_drewN | apply below_drew1 | refine below_set ?_ GE627.out) | exact HB.out)))); have n1_ := Aside0.mk (blk_below (g := gb627) (o := .cells #[.int .i64 a0_0, .slice A0_1 l0_1.length c0_1] 24 (0, 0)) (by (with_reducible repeat (first | refine blk_drewN ?_ _ | refine blk_drew ?_ | refine blk_alloc ?_ _)); exact BK627.out) hb); have n2_ := Aside0.mk (below_step (by repeat (first | (with_reducible first | exact HB.out | apply below_alloc | apply pw_below_drewN | apply below_drew1 | refine below_set ?_ GE627.out) | exact HB.out)) hb); clear BK627; clear HB; have HO631 := n0_; have BK627 := n1_; have HB := n2_; clear n0_ n1_ n2_; (try clear hb); (try clear hb2); (try clear hk); (try clear hi); (try clear ho0); obtain ⟨Ao12, co12, eo12⟩ := Kd.R_slice HO631.out; subst eo12) | ((with_reducible refine gate_callee (f := 32) rfl ?_); refine goesL_ (some 22) rfl rfl Tryd.func32 (by kernel_rfl) rfl #[.int .i64 t628, .slice Ao12 t629.length co12] rfl (by (try simp only [List.map_toArray, List.map_cons, List.map_nil]); first | done | rfl | (simp only [List.length_drop, List.length_take]; rfl)) ?_; (with_reducible refine (beacon_Distances.calls t628 _ _ t629 t633 t634 _ ?side1 ?side2 A3.out).mono ?_); (case side1 => repeat (first | exact (Kd.R_reads' HO631.out).2.2 | (with_reducible refine Kd.C_alloc ?_ _) | (with_reducible refine Kd.C_drewN ?_ _) | (with_reducible refine Kd.C_drew ?_))); (case side2 => exact (Kd.R_reads' HO631.out).2.1); rintro e w13 ⟨v635, rfl, ho0, hb⟩; refine ⟨_, rfl, ?_⟩; have n0_ := Aside0.mk (Kd.R_below (by (with_reducible repeat (first | apply Kd.R_alloc | apply Kd.R_drewN | apply Kd.R_drew)); exact HO631.out) hb); have n1_ := Aside0.mk (Kd.S_lower ho0 (below_size (by repeat (first | (with_reducible first | exact HB.out | apply below_alloc | apply pw_below_drewN | apply below_drew1 | refine below_set ?_ GE627.out) | exact HB.out)))); have n2_ := Aside0.mk (blk_below (g := gb627) (o := .cells #[.int .i64 a0_0, .slice A0_1 l0_1.length c0_1] 24 (0, 0)) (by (with_reducible repeat (first | refine blk_drewN ?_ _ | refine blk_drew ?_ | refine blk_alloc ?_ _)); exact BK627.out) hb); have n3_ := Aside0.mk (below_step (by repeat (first | (with_reducible first | exact HB.out | apply below_alloc | apply pw_below_drewN | apply below_drew1 | refine below_set ?_ GE627.out) | exact HB.out)) hb); clear HO631; clear BK627; clear HB; have HO631 := n0_; have HO636 := n1_; have BK627 := n2_; have HB := n3_; clear n0_ n1_ n2_ n3_; (try clear hb); (try clear hb2); (try clear hk); (try clear hi); (try clear ho0)) | ((with_reducible refine gate_callee (f := 41) rfl ?_); refine goesL_ (some 28) rfl rfl Tryd.func41 (by kernel_rfl) rfl #[.int .i64 t628, .slice Ao12 t629.length co12] rfl (by (try simp only [List.map_toArray, List.map_cons, List.map_nil]); first | done | rfl | (simp only [List.length_drop, List.length_take]; rfl)) ?_; (with_reducible refine (beacon_Twins.calls k t628 _ _ t629 t637 t638 _ ?side1 ?side2 A4.out).mono ?_); (case side1 => repeat (first | exact (Kd.R_reads' HO631.out).2.2 | (with_reducible refine Kd.C_alloc ?_ _) | (with_reducible refine Kd.C_drewN ?_ _) | (with_reducible refine Kd.C_drew ?_))); (case side2 => exact (Kd.R_reads' HO631.out).2.1); rintro e w14 ⟨v639, rfl, ho0, hb⟩; refine ⟨_, rfl, ?_⟩; have n0_ := Aside0.mk (Kd.R_below (by (with_reducible repeat (first | apply Kd.R_alloc | apply Kd.R_drewN | apply Kd.R_drew)); exact HO631.out) hb); have n1_ := Aside0.mk (Kd.S_elder' (by (with_reducible repeat (first | apply Kd.S_alloc | apply Kd.S_drewN | apply Kd.S_drew)); exact HO636.out) (Kd.S_base ho0) hb); have n2_ := Aside0.mk (Kd.S_lower (Kd.S_new' ho0 (Kd.S_lt (by (with_reducible repeat (first | apply Kd.S_alloc | apply Kd.S_drewN | apply Kd.S_drew)); exact HO636.out))) (below_size (by repeat (first | (with_reducible first | exact HB.out | apply below_alloc | apply pw_below_drewN | apply below_drew1 | refine below_set ?_ GE627.out) | exact HB.out)))); have n3_ := Aside0.mk (blk_below (g := gb627) (o := .cells #[.int .i64 a0_0, .slice A0_1 l0_1.length c0_1] 24 (0, 0)) (by (with_reducible repeat (first | refine blk_drewN ?_ _ | refine blk_drew ?_ | refine blk_alloc ?_ _)); exact BK627.out) hb); have n4_ := Aside0.mk (below_step (by repeat (first | (with_reducible first | exact HB.out | apply below_alloc | apply pw_below_drewN | apply below_drew1 | refine below_set ?_ GE627.out) | exact HB.out)) hb); clear HO631; clear HO636; clear BK627; clear HB; have HO631 := n0_; have HO636 := n1_; have HO640 := n2_; have BK627 := n3_; have HB := n4_; clear n0_ n1_ n2_ n3_ n4_; (try clear hb); (try clear hb2); (try clear hk); (try clear hi); (try clear ho0)) | ((with_reducible refine gate_callee (f := 24) rfl ?_); refine goesL_ (some 34) rfl rfl Tryd.func24 (by kernel_rfl) rfl #[.int .i64 t628, .slice Ao12 t629.length co12] rfl (by (try simp only [List.map_toArray, List.map_cons, List.map_nil]); first | done | rfl | (simp only [List.length_drop, List.length_take]; rfl)) ?_; (with_reducible refine (beacon_Slater.calls k t628 _ _ t629 t641 t642 _ ?side1 ?side2 A5.out).mono ?_); (case side1 => repeat (first | exact (Kd.R_reads' HO631.out).2.2 | (with_reducible refine Kd.C_alloc ?_ _) | (with_reducible refine Kd.C_drewN ?_ _) | (with_reducible refine Kd.C_drew ?_))); (case side2 => exact (Kd.R_reads' HO631.out).2.1); rintro e w15 ⟨rfl, hb⟩; refine ⟨_, rfl, ?_⟩; have n0_ := Aside0.mk (Kd.R_below (by (with_reducible repeat (first | apply Kd.R_alloc | apply Kd.R_drewN | apply Kd.R_drew)); exact HO631.out) hb); have n1_ := Aside0.mk (Kd.S_below (by (with_reducible repeat (first | apply Kd.S_alloc | apply Kd.S_drewN | apply Kd.S_drew)); exact HO636.out) hb); have n2_ := Aside0.mk (Kd.S_below (by (with_reducible repeat (first | apply Kd.S_alloc | apply Kd.S_drewN | apply Kd.S_drew)); exact HO640.out) hb); have n3_ := Aside0.mk (blk_below (g := gb627) (o := .cells #[.int .i64 a0_0, .slice A0_1 l0_1.length c0_1] 24 (0, 0)) (by (with_reducible repeat (first | refine blk_drewN ?_ _ | refine blk_drew ?_ | refine blk_alloc ?_ _)); exact BK627.out) hb); have n4_ := Aside0.mk (below_step (by repeat (first | (with_reducible first | exact HB.out | apply below_alloc | apply pw_below_drewN | apply below_drew1 | refine below_set ?_ GE627.out) | exact HB.out)) hb); clear HO631; clear HO636; clear HO640; clear BK627; clear HB; have HO631 := n0_; have HO636 := n1_; have HO640 := n2_; have BK627 := n3_; have HB := n4_; clear n0_ n1_ n2_ n3_ n4_; (try clear hb); (try clear hb2); (try clear hk); (try clear hi)) | ((with_reducible refine gate_callee (f := 20) rfl ?_); refine goesL_ (some 66) rfl rfl Tryd.func20 (by kernel_rfl) rfl #[.int .i64 t628, .slice Ao12 t629.length co12] rfl (by (try simp only [List.map_toArray, List.map_cons, List.map_nil]); first | done | rfl | (simp only [List.length_drop, List.length_take]; rfl)) ?_; (with_reducible refine (woggleref06_Near.calls k t628 _ _ t629 t644 _ ?side1 ?side2 A7.out).mono ?_); (case side1 => repeat (first | exact (Kd.R_reads' HO631.out).2.2 | (with_reducible refine Kd.C_alloc ?_ _) | (with_reducible refine Kd.C_drewN ?_ _) | (with_reducible refine Kd.C_drew ?_))); (case side2 => exact (Kd.R_reads' HO631.out).2.1); rintro e w16 ⟨v645, rfl, ho0, hb⟩; refine ⟨_, rfl, ?_⟩; have n0_ := Aside0.mk (Kd.R_below (by (with_reducible repeat (first | apply Kd.R_alloc | apply Kd.R_drewN | apply Kd.R_drew)); exact HO631.out) hb); have n1_ := Aside0.mk (Kd.S_elder' (by (with_reducible repeat (first | apply Kd.S_alloc | apply Kd.S_drewN | apply Kd.S_drew)); exact HO636.out) (Kd.R_base ho0) hb); have n2_ := Aside0.mk (Kd.S_elder' (by (with_reducible repeat (first | apply Kd.S_alloc | apply Kd.S_drewN | apply Kd.S_drew)); exact HO640.out) (Kd.R_base ho0) hb); have n3_ := Aside0.mk (Kd.R_lower ho0 (below_size (by repeat (first | (with_reducible first | exact HB.out | apply below_alloc | apply pw_below_drewN | apply below_drew1 | refine below_set ?_ GE627.out) | exact HB.out)))); have n4_ := Aside0.mk (blk_below (g := gb627) (o := .cells #[.int .i64 a0_0, .slice A0_1 l0_1.length c0_1] 24 (0, 0)) (by (with_reducible repeat (first | refine blk_drewN ?_ _ | refine blk_drew ?_ | refine blk_alloc ?_ _)); exact BK627.out) hb); have n5_ := Aside0.mk (below_step (by repeat (first | (with_reducible first | exact HB.out | apply below_alloc | apply pw_below_drewN | apply below_drew1 | refine below_set ?_ GE627.out) | exact HB.out)) hb); clear HO631; clear HO636; clear HO640; clear BK627; clear HB; have HO631 := n0_; have HO636 := n1_; have HO640 := n2_; have HO646 := n3_; have BK627 := n4_; have HB := n5_; clear n0_ n1_ n2_ n3_ n4_ n5_; (try clear hb); (try clear hb2); (try clear hk); (try clear hi); (try clear ho0)))
    (try simp only [Act.put, List.setIfInBounds_toArray, List.set_cons_zero, List.set_cons_succ])
    go_cut [90] (fun v90 wc => ∃ (kq : Nat) (x90_7 : Bool), v90 = .bool x90_7 ∧ Aside0 (wogglelaw07_BeaconDistances.j0 kq t641 t642 t644 x90_7 = some r) ∧ Aside0 (kq ≤ k) ∧ Aside0 (Kd.R (Kd.int .i64) 3 wc w.heap.size (fun _ => True) v645 t644) ∧ Aside0 (wc.heap[gb627]? = some (.cells #[.int .i64 a0_0, (.slice A0_1 l0_1.length c0_1)] 24 (0, 0))) ∧ Aside0 (Below w.heap.size w wc))
    case first =>
      have H := HC8.out
      clear HC8
      replace H := Option.bind_eq_some_iff.mp H
      obtain ⟨t647, A170, H⟩ := H
      replace H : ((woggleref01_SameLists.f k t633 t647).bind fun t650 => (if t650 = true then (if t634 = 0 then ((woggleref07_Classes.f k t644).bind fun t651 => ((woggleref01_SameLists.f k t637 t651).bind fun t654 => (if t654 = true then (if t638 = 0 then ((wogglelaw07_lives.f k).bind fun t655 => (wogglelaw07_BeaconDistances.j0 k t641 t642 t644 (!t655))) else (wogglelaw07_BeaconDistances.j0 k t641 t642 t644 true)) else (wogglelaw07_BeaconDistances.j0 k t641 t642 t644 true)))) else (wogglelaw07_BeaconDistances.j0 k t641 t642 t644 true)) else (wogglelaw07_BeaconDistances.j0 k t641 t642 t644 true))) = some r := H
      have A17 := Aside0.mk A170
      clear A170
      replace H := Option.bind_eq_some_iff.mp H
      obtain ⟨t650, A180, H⟩ := H
      replace H : (if t650 = true then (if t634 = 0 then ((woggleref07_Classes.f k t644).bind fun t651 => ((woggleref01_SameLists.f k t637 t651).bind fun t654 => (if t654 = true then (if t638 = 0 then ((wogglelaw07_lives.f k).bind fun t655 => (wogglelaw07_BeaconDistances.j0 k t641 t642 t644 (!t655))) else (wogglelaw07_BeaconDistances.j0 k t641 t642 t644 true)) else (wogglelaw07_BeaconDistances.j0 k t641 t642 t644 true)))) else (wogglelaw07_BeaconDistances.j0 k t641 t642 t644 true)) else (wogglelaw07_BeaconDistances.j0 k t641 t642 t644 true)) = some r := H
      have A18 := Aside0.mk A180
      clear A180
      by_cases c19 : t650 = true
      · subst c19
        have H1 : (if t634 = 0 then ((woggleref07_Classes.f k t644).bind fun t651 => ((woggleref01_SameLists.f k t637 t651).bind fun t654 => (if t654 = true then (if t638 = 0 then ((wogglelaw07_lives.f k).bind fun t655 => (wogglelaw07_BeaconDistances.j0 k t641 t642 t644 (!t655))) else (wogglelaw07_BeaconDistances.j0 k t641 t642 t644 true)) else (wogglelaw07_BeaconDistances.j0 k t641 t642 t644 true)))) else (wogglelaw07_BeaconDistances.j0 k t641 t642 t644 true)) = some r := by rw [if_pos rfl] at H; exact H
        clear H
        have H := H1
        clear H1
        by_cases c20 : t634 = 0
        · rw [if_pos c20] at H
          have c20b0 : (t634 == 0) = true := beq_iff_eq.mpr c20
          have c20b1 : (t634 != 0) = false := bne_eq_false_iff_eq.mpr c20
          clear c20
          (first | rw [c20b0] | (simp only [i64_w, i32_w]; rw [c20b0]) | skip)
          replace H := Option.bind_eq_some_iff.mp H
          obtain ⟨t651, A210, H⟩ := H
          replace H : ((woggleref01_SameLists.f k t637 t651).bind fun t654 => (if t654 = true then (if t638 = 0 then ((wogglelaw07_lives.f k).bind fun t655 => (wogglelaw07_BeaconDistances.j0 k t641 t642 t644 (!t655))) else (wogglelaw07_BeaconDistances.j0 k t641 t642 t644 true)) else (wogglelaw07_BeaconDistances.j0 k t641 t642 t644 true))) = some r := H
          have A21 := Aside0.mk A210
          clear A210
          replace H := Option.bind_eq_some_iff.mp H
          obtain ⟨t654, A220, H⟩ := H
          replace H : (if t654 = true then (if t638 = 0 then ((wogglelaw07_lives.f k).bind fun t655 => (wogglelaw07_BeaconDistances.j0 k t641 t642 t644 (!t655))) else (wogglelaw07_BeaconDistances.j0 k t641 t642 t644 true)) else (wogglelaw07_BeaconDistances.j0 k t641 t642 t644 true)) = some r := H
          have A22 := Aside0.mk A220
          clear A220
          by_cases c23 : t654 = true
          · subst c23
            have H1 : (if t638 = 0 then ((wogglelaw07_lives.f k).bind fun t655 => (wogglelaw07_BeaconDistances.j0 k t641 t642 t644 (!t655))) else (wogglelaw07_BeaconDistances.j0 k t641 t642 t644 true)) = some r := by rw [if_pos rfl] at H; exact H
            clear H
            have H := H1
            clear H1
            by_cases c24 : t638 = 0
            · rw [if_pos c24] at H
              have c24b0 : (t638 == 0) = true := beq_iff_eq.mpr c24
              have c24b1 : (t638 != 0) = false := bne_eq_false_iff_eq.mpr c24
              clear c24
              replace H := Option.bind_eq_some_iff.mp H
              obtain ⟨t655, A250, H⟩ := H
              replace H : (wogglelaw07_BeaconDistances.j0 k t641 t642 t644 (!t655)) = some r := H
              have A25 := Aside0.mk A250
              clear A250
              have H' := Aside0.mk H
              clear H
              obtain ⟨Ao26, co26, eo26⟩ := Kd.R_slice HO646.out
              subst eo26
              go_wp2_with (first | ((with_reducible refine gate_callee (f := 19) rfl ?_); refine goesL_ (some 69) rfl rfl Tryd.func19 (by kernel_rfl) rfl #[.slice Ao26 t644.length co26] rfl (by (try simp only [List.map_toArray, List.map_cons, List.map_nil]); first | done | rfl | (simp only [List.length_drop, List.length_take]; rfl)) ?_; (with_reducible refine (woggleref07_Distances.calls k _ _ t644 t647 _ ?side1 ?side2 A17.out).mono ?_); (case side1 => repeat (first | exact (Kd.R_reads' HO646.out).2.2 | (with_reducible refine Kd.C_alloc ?_ _) | (with_reducible refine Kd.C_drewN ?_ _) | (with_reducible refine Kd.C_drew ?_))); (case side2 => exact (Kd.R_reads' HO646.out).2.1); rintro e w27 ⟨v648, rfl, ho0, hb⟩; refine ⟨_, rfl, ?_⟩; have n0_ := Aside0.mk (Kd.R_below (by (with_reducible repeat (first | apply Kd.R_alloc | apply Kd.R_drewN | apply Kd.R_drew)); exact HO631.out) hb); have n1_ := Aside0.mk (Kd.S_elder' (by (with_reducible repeat (first | apply Kd.S_alloc | apply Kd.S_drewN | apply Kd.S_drew)); exact HO636.out) (Kd.S_base ho0) hb); have n2_ := Aside0.mk (Kd.S_elder' (by (with_reducible repeat (first | apply Kd.S_alloc | apply Kd.S_drewN | apply Kd.S_drew)); exact HO640.out) (Kd.S_base ho0) hb); have n3_ := Aside0.mk (Kd.R_below (by (with_reducible repeat (first | apply Kd.R_alloc | apply Kd.R_drewN | apply Kd.R_drew)); exact HO646.out) hb); have n4_ := Aside0.mk (Kd.S_lower (Kd.S_new' (Kd.S_new' (Kd.S_new' ho0 (Kd.S_lt (by (with_reducible repeat (first | apply Kd.S_alloc | apply Kd.S_drewN | apply Kd.S_drew)); exact HO636.out))) (Kd.S_lt (by (with_reducible repeat (first | apply Kd.S_alloc | apply Kd.S_drewN | apply Kd.S_drew)); exact HO640.out))) (Kd.R_lt (by (with_reducible repeat (first | apply Kd.R_alloc | apply Kd.R_drewN | apply Kd.R_drew)); exact HO646.out))) (below_size (by repeat (first | (with_reducible first | exact HB.out | apply below_alloc | apply pw_below_drewN | apply below_drew1 | refine below_set ?_ GE627.out) | exact HB.out)))); have n5_ := Aside0.mk (blk_below (g := gb627) (o := .cells #[.int .i64 a0_0, .slice A0_1 l0_1.length c0_1] 24 (0, 0)) (by (with_reducible repeat (first | refine blk_drewN ?_ _ | refine blk_drew ?_ | refine blk_alloc ?_ _)); exact BK627.out) hb); have n6_ := Aside0.mk (below_step (by repeat (first | (with_reducible first | exact HB.out | apply below_alloc | apply pw_below_drewN | apply below_drew1 | refine below_set ?_ GE627.out) | exact HB.out)) hb); clear HO631; clear HO636; clear HO640; clear HO646; clear BK627; clear HB; have HO631 := n0_; have HO636 := n1_; have HO640 := n2_; have HO646 := n3_; have HO649 := n4_; have BK627 := n5_; have HB := n6_; clear n0_ n1_ n2_ n3_ n4_ n5_ n6_; (try clear hb); (try clear hb2); (try clear hk); (try clear hi); (try clear ho0); obtain ⟨Ao28, co28, eo28⟩ := Kd.S_slice HO636.out; subst eo28; obtain ⟨Ao29, co29, eo29⟩ := Kd.S_slice HO649.out; subst eo29) | ((with_reducible refine gate_callee (f := 39) rfl ?_); refine goesL_ (some 70) rfl rfl Tryd.func39 (by kernel_rfl) rfl #[.slice Ao28 t633.length co28, .slice Ao29 t647.length co29] rfl (by (try simp only [List.map_toArray, List.map_cons, List.map_nil]); first | done | rfl | (simp only [List.length_drop, List.length_take]; rfl)) ?_; (with_reducible refine (woggleref01_SameLists.calls k _ _ t633 _ _ t647 true _ ?side1 ?side2 ?side3 ?side4 A18.out).mono ?_); (case side1 => repeat (first | exact (Kd.S_reads' HO636.out).2.2 | (with_reducible refine Kd.C_alloc ?_ _) | (with_reducible refine Kd.C_drewN ?_ _) | (with_reducible refine Kd.C_drew ?_))); (case side2 => exact (Kd.S_reads' HO636.out).2.1); (case side3 => repeat (first | exact (Kd.S_reads' HO649.out).2.2 | (with_reducible refine Kd.C_alloc ?_ _) | (with_reducible refine Kd.C_drewN ?_ _) | (with_reducible refine Kd.C_drew ?_))); (case side4 => exact (Kd.S_reads' HO649.out).2.1); rintro e w' ⟨rfl, ⟨nd, rfl⟩⟩; refine ⟨_, rfl, ?_⟩) | (go_at_call 42; (with_reducible refine (woggleref07_Classes.calls k _ _ t644 t651 _ ?side1 ?side2 A21.out).mono ?_); (case side1 => repeat (first | exact (Kd.R_reads' HO646.out).2.2 | (with_reducible refine Kd.C_alloc ?_ _) | (with_reducible refine Kd.C_drewN ?_ _) | (with_reducible refine Kd.C_drew ?_))); (case side2 => exact (Kd.R_reads' HO646.out).2.1); rintro e w30 ⟨v652, rfl, ho0, hb⟩; have n0_ := Aside0.mk (Kd.R_below (by (with_reducible repeat (first | apply Kd.R_alloc | apply Kd.R_drewN | apply Kd.R_drew)); exact HO631.out) hb); have n1_ := Aside0.mk (Kd.S_elder' (by (with_reducible repeat (first | apply Kd.S_alloc | apply Kd.S_drewN | apply Kd.S_drew)); exact HO636.out) (Kd.S_base ho0) hb); have n2_ := Aside0.mk (Kd.S_elder' (by (with_reducible repeat (first | apply Kd.S_alloc | apply Kd.S_drewN | apply Kd.S_drew)); exact HO640.out) (Kd.S_base ho0) hb); have n3_ := Aside0.mk (Kd.R_below (by (with_reducible repeat (first | apply Kd.R_alloc | apply Kd.R_drewN | apply Kd.R_drew)); exact HO646.out) hb); have n4_ := Aside0.mk (Kd.S_elder' (by (with_reducible repeat (first | apply Kd.S_alloc | apply Kd.S_drewN | apply Kd.S_drew)); exact HO649.out) (Kd.S_base ho0) hb); have n5_ := Aside0.mk (Kd.S_lower (Kd.S_new' (Kd.S_new' (Kd.S_new' (Kd.S_new' ho0 (Kd.S_lt (by (with_reducible repeat (first | apply Kd.S_alloc | apply Kd.S_drewN | apply Kd.S_drew)); exact HO636.out))) (Kd.S_lt (by (with_reducible repeat (first | apply Kd.S_alloc | apply Kd.S_drewN | apply Kd.S_drew)); exact HO640.out))) (Kd.R_lt (by (with_reducible repeat (first | apply Kd.R_alloc | apply Kd.R_drewN | apply Kd.R_drew)); exact HO646.out))) (Kd.S_lt (by (with_reducible repeat (first | apply Kd.S_alloc | apply Kd.S_drewN | apply Kd.S_drew)); exact HO649.out))) (below_size (by repeat (first | (with_reducible first | exact HB.out | apply below_alloc | apply pw_below_drewN | apply below_drew1 | refine below_set ?_ GE627.out) | exact HB.out)))); have n6_ := Aside0.mk (blk_below (g := gb627) (o := .cells #[.int .i64 a0_0, .slice A0_1 l0_1.length c0_1] 24 (0, 0)) (by (with_reducible repeat (first | refine blk_drewN ?_ _ | refine blk_drew ?_ | refine blk_alloc ?_ _)); exact BK627.out) hb); have n7_ := Aside0.mk (below_step (by repeat (first | (with_reducible first | exact HB.out | apply below_alloc | apply pw_below_drewN | apply below_drew1 | refine below_set ?_ GE627.out) | exact HB.out)) hb); clear HO631; clear HO636; clear HO640; clear HO646; clear HO649; clear BK627; clear HB; have HO631 := n0_; have HO636 := n1_; have HO640 := n2_; have HO646 := n3_; have HO649 := n4_; have HO653 := n5_; have BK627 := n6_; have HB := n7_; clear n0_ n1_ n2_ n3_ n4_ n5_ n6_ n7_; (try clear hb); (try clear hb2); (try clear hk); (try clear hi); (try clear ho0); obtain ⟨Ao31, co31, eo31⟩ := Kd.S_slice HO640.out; subst eo31; obtain ⟨Ao32, co32, eo32⟩ := Kd.S_slice HO653.out; subst eo32) | (go_at_call 39; (with_reducible refine (woggleref01_SameLists.calls k _ _ t637 _ _ t651 true _ ?side1 ?side2 ?side3 ?side4 A22.out).mono ?_); (case side1 => repeat (first | exact (Kd.S_reads' HO640.out).2.2 | (with_reducible refine Kd.C_alloc ?_ _) | (with_reducible refine Kd.C_drewN ?_ _) | (with_reducible refine Kd.C_drew ?_))); (case side2 => exact (Kd.S_reads' HO640.out).2.1); (case side3 => repeat (first | exact (Kd.S_reads' HO653.out).2.2 | (with_reducible refine Kd.C_alloc ?_ _) | (with_reducible refine Kd.C_drewN ?_ _) | (with_reducible refine Kd.C_drew ?_))); (case side4 => exact (Kd.S_reads' HO653.out).2.1); rintro e w' ⟨rfl, ⟨nd, rfl⟩⟩) | (go_at_call 16; (with_reducible refine (wogglelaw07_lives.calls k  t655 _ ?sideD A25.out).mono ?_); (case sideD => repeat (first | exact (Door.below HDOOR.out HB.out) | exact HDOOR.out | (with_reducible refine Door.alloc ?_ _) | (with_reducible refine Door.drewN ?_ _) | (with_reducible refine Door.drew ?_))); rintro e w33 ⟨rfl, hb⟩; have n0_ := Aside0.mk (Kd.R_below (by (with_reducible repeat (first | apply Kd.R_alloc | apply Kd.R_drewN | apply Kd.R_drew)); exact HO631.out) hb); have n1_ := Aside0.mk (Kd.S_below (by (with_reducible repeat (first | apply Kd.S_alloc | apply Kd.S_drewN | apply Kd.S_drew)); exact HO636.out) hb); have n2_ := Aside0.mk (Kd.S_below (by (with_reducible repeat (first | apply Kd.S_alloc | apply Kd.S_drewN | apply Kd.S_drew)); exact HO640.out) hb); have n3_ := Aside0.mk (Kd.R_below (by (with_reducible repeat (first | apply Kd.R_alloc | apply Kd.R_drewN | apply Kd.R_drew)); exact HO646.out) hb); have n4_ := Aside0.mk (Kd.S_below (by (with_reducible repeat (first | apply Kd.S_alloc | apply Kd.S_drewN | apply Kd.S_drew)); exact HO649.out) hb); have n5_ := Aside0.mk (Kd.S_below (by (with_reducible repeat (first | apply Kd.S_alloc | apply Kd.S_drewN | apply Kd.S_drew)); exact HO653.out) hb); have n6_ := Aside0.mk (blk_below (g := gb627) (o := .cells #[.int .i64 a0_0, .slice A0_1 l0_1.length c0_1] 24 (0, 0)) (by (with_reducible repeat (first | refine blk_drewN ?_ _ | refine blk_drew ?_ | refine blk_alloc ?_ _)); exact BK627.out) hb); have n7_ := Aside0.mk (below_step (by repeat (first | (with_reducible first | exact HB.out | apply below_alloc | apply pw_below_drewN | apply below_drew1 | refine below_set ?_ GE627.out) | exact HB.out)) hb); clear HO631; clear HO636; clear HO640; clear HO646; clear HO649; clear HO653; clear BK627; clear HB; have HO631 := n0_; have HO636 := n1_; have HO640 := n2_; have HO646 := n3_; have HO649 := n4_; have HO653 := n5_; have BK627 := n6_; have HB := n7_; clear n0_ n1_ n2_ n3_ n4_ n5_ n6_ n7_; (try clear hb); (try clear hb2); (try clear hk); (try clear hi)))
              go_meet
              case rel => exact ⟨_, (!t655), (by first | rfl | (simp; done) | (simp [*]; done)), H', ⟨by first | omega | exact Nat.le_refl _⟩, ⟨by (with_reducible repeat (first | apply Kd.R_alloc | apply Kd.R_drewN | apply Kd.R_drew)); exact HO646.out⟩, ⟨by (with_reducible repeat (first | refine blk_drewN ?_ _ | refine blk_drew ?_ | refine blk_alloc ?_ _)); exact BK627.out⟩, ⟨by repeat (first | (with_reducible first | exact HB.out | apply below_alloc | apply pw_below_drewN | apply below_drew1 | refine below_set ?_ GE627.out) | exact HB.out)⟩⟩
            · rw [if_neg c24] at H
              exact (wogglelaw07_BeaconDistances.j0_no H HRR.out).elim
          · replace c23 := Bool.eq_false_iff.mpr c23
            subst c23
            have H1 : (wogglelaw07_BeaconDistances.j0 k t641 t642 t644 true) = some r := by rw [if_neg (show ¬ (false = true) by decide)] at H; exact H
            clear H
            have H := H1
            clear H1
            exact (wogglelaw07_BeaconDistances.j0_no H HRR.out).elim
        · rw [if_neg c20] at H
          exact (wogglelaw07_BeaconDistances.j0_no H HRR.out).elim
      · replace c19 := Bool.eq_false_iff.mpr c19
        subst c19
        have H1 : (wogglelaw07_BeaconDistances.j0 k t641 t642 t644 true) = some r := by rw [if_neg (show ¬ (false = true) by decide)] at H; exact H
        clear H
        have H := H1
        clear H1
        exact (wogglelaw07_BeaconDistances.j0_no H HRR.out).elim
    case rest =>
      clear HC8
      try clear c1
      try clear c2
      try clear p2
      try clear c3
      try clear c4
      try clear c6
      try clear p6
      try clear c13
      try clear c15
      try clear c19
      try clear c20
      try clear c20b0
      try clear c20b1
      try clear c23
      try clear c24
      try clear c24b0
      try clear c24b1
      try clear c32
      try clear c39
      try clear c41
      try clear hcz10_0
      try clear hcz10_1
      try clear hfz10_0
      try clear hfz10_1
      obtain ⟨kq, x90_7, rfl, HA, HJ7, HO_12, BK627, HB⟩ := hcut
      cases kq with
      | zero => exact absurd HA.out (by simp [wogglelaw07_BeaconDistances.j0])
      | succ kj7 =>
        have H := HA.out
        clear HA
        simp only [wogglelaw07_BeaconDistances.j0] at H
        by_cases c56 : x90_7 = true
        · subst c56
          have H1 : (some false) = some r := by rw [if_pos rfl] at H; exact H
          clear H
          have H := H1
          clear H1
          exact (no_true_ H HRR.out).elim
        · replace c56 := Bool.eq_false_iff.mpr c56
          subst c56
          have H1 : ((woggleref06_IsTree.f kj7 t644).bind fun t656 => (if t656 = true then ((woggleref07_IsPath.f kj7 t644).bind fun t657 => (if t657 = true then (if t641 = 0 then (some (t642 == 5)) else (some false)) else ((woggleref07_Slater.f kj7 t644).bind fun t658 => (if t641 = t658 then (some (t642 == 0)) else (some false))))) else (if t641 = 0 then (some (t642 == 5)) else (some false)))) = some r := by rw [if_neg (show ¬ (false = true) by decide)] at H; exact H
          clear H
          have H := H1
          clear H1
          replace H := Option.bind_eq_some_iff.mp H
          obtain ⟨t656, A570, H⟩ := H
          replace H : (if t656 = true then ((woggleref07_IsPath.f kj7 t644).bind fun t657 => (if t657 = true then (if t641 = 0 then (some (t642 == 5)) else (some false)) else ((woggleref07_Slater.f kj7 t644).bind fun t658 => (if t641 = t658 then (some (t642 == 0)) else (some false))))) else (if t641 = 0 then (some (t642 == 5)) else (some false))) = some r := H
          have A57 := Aside0.mk A570
          clear A570
          by_cases c58 : t656 = true
          · subst c58
            have H1 : ((woggleref07_IsPath.f kj7 t644).bind fun t657 => (if t657 = true then (if t641 = 0 then (some (t642 == 5)) else (some false)) else ((woggleref07_Slater.f kj7 t644).bind fun t658 => (if t641 = t658 then (some (t642 == 0)) else (some false))))) = some r := by rw [if_pos rfl] at H; exact H
            clear H
            have H := H1
            clear H1
            replace H := Option.bind_eq_some_iff.mp H
            obtain ⟨t657, A590, H⟩ := H
            replace H : (if t657 = true then (if t641 = 0 then (some (t642 == 5)) else (some false)) else ((woggleref07_Slater.f kj7 t644).bind fun t658 => (if t641 = t658 then (some (t642 == 0)) else (some false)))) = some r := H
            have A59 := Aside0.mk A590
            clear A590
            by_cases c60 : t657 = true
            · subst c60
              have H1 : (if t641 = 0 then (some (t642 == 5)) else (some false)) = some r := by rw [if_pos rfl] at H; exact H
              clear H
              have H := H1
              clear H1
              by_cases c61 : t641 = 0
              · rw [if_pos c61] at H
                have c61b0 : (t641 == 0) = true := beq_iff_eq.mpr c61
                have c61b1 : (t641 != 0) = false := bne_eq_false_iff_eq.mpr c61
                clear c61
                obtain rfl := Option.some.inj H
                obtain ⟨Ao62, co62, eo62⟩ := Kd.R_slice HO_12.out
                subst eo62
                go_wp2_with (first | ((with_reducible refine gate_callee (f := 25) rfl ?_); refine goesL_ (some 92) rfl rfl Tryd.func25 (by kernel_rfl) rfl #[.slice Ao62 t644.length co62] rfl (by (try simp only [List.map_toArray, List.map_cons, List.map_nil]); first | done | rfl | (simp only [List.length_drop, List.length_take]; rfl)) ?_; (with_reducible refine (woggleref06_IsTree.calls kj7 _ _ t644 true _ ?side1 ?side2 A57.out).mono ?_); (case side1 => repeat (first | exact (Kd.R_reads' HO_12.out).2.2 | (with_reducible refine Kd.C_alloc ?_ _) | (with_reducible refine Kd.C_drewN ?_ _) | (with_reducible refine Kd.C_drew ?_))); (case side2 => exact (Kd.R_reads' HO_12.out).2.1); rintro e w63 ⟨rfl, hb⟩; refine ⟨_, rfl, ?_⟩; have n0_ := Aside0.mk (Kd.R_below (by (with_reducible repeat (first | apply Kd.R_alloc | apply Kd.R_drewN | apply Kd.R_drew)); exact HO_12.out) hb); have n1_ := Aside0.mk (blk_below (g := gb627) (o := .cells #[.int .i64 a0_0, .slice A0_1 l0_1.length c0_1] 24 (0, 0)) (by (with_reducible repeat (first | refine blk_drewN ?_ _ | refine blk_drew ?_ | refine blk_alloc ?_ _)); exact BK627.out) hb); have n2_ := Aside0.mk (below_step (by repeat (first | (with_reducible first | exact HB.out | apply below_alloc | apply pw_below_drewN | apply below_drew1 | refine below_set ?_ GE627.out) | exact HB.out)) hb); clear HO_12; clear BK627; clear HB; have HO_12 := n0_; have BK627 := n1_; have HB := n2_; clear n0_ n1_ n2_; (try clear hb); (try clear hb2); (try clear hk); (try clear hi)) | (go_at_call 26; (with_reducible refine (woggleref07_IsPath.calls kj7 _ _ t644 true _ ?side1 ?side2 A59.out).mono ?_); (case side1 => repeat (first | exact (Kd.R_reads' HO_12.out).2.2 | (with_reducible refine Kd.C_alloc ?_ _) | (with_reducible refine Kd.C_drewN ?_ _) | (with_reducible refine Kd.C_drew ?_))); (case side2 => exact (Kd.R_reads' HO_12.out).2.1); rintro e w64 ⟨rfl, hb⟩; have n0_ := Aside0.mk (Kd.R_below (by (with_reducible repeat (first | apply Kd.R_alloc | apply Kd.R_drewN | apply Kd.R_drew)); exact HO_12.out) hb); have n1_ := Aside0.mk (blk_below (g := gb627) (o := .cells #[.int .i64 a0_0, .slice A0_1 l0_1.length c0_1] 24 (0, 0)) (by (with_reducible repeat (first | refine blk_drewN ?_ _ | refine blk_drew ?_ | refine blk_alloc ?_ _)); exact BK627.out) hb); have n2_ := Aside0.mk (below_step (by repeat (first | (with_reducible first | exact HB.out | apply below_alloc | apply pw_below_drewN | apply below_drew1 | refine below_set ?_ GE627.out) | exact HB.out)) hb); clear HO_12; clear BK627; clear HB; have HO_12 := n0_; have BK627 := n1_; have HB := n2_; clear n0_ n1_ n2_; (try clear hb); (try clear hb2); (try clear hk); (try clear hi)))
                go_ret
                exact ⟨by first | rfl | (simp [errW_none, errW_some] <;> rfl) | (simp [*, errW_none, errW_some] <;> rfl), by repeat (first | (with_reducible first | exact HB.out | apply below_alloc | apply pw_below_drewN | apply below_drew1 | refine below_set ?_ GE627.out) | exact HB.out)⟩
              · rw [if_neg c61] at H
                exact (no_true_ H HRR.out).elim
            · replace c60 := Bool.eq_false_iff.mpr c60
              subst c60
              have H1 : ((woggleref07_Slater.f kj7 t644).bind fun t658 => (if t641 = t658 then (some (t642 == 0)) else (some false))) = some r := by rw [if_neg (show ¬ (false = true) by decide)] at H; exact H
              clear H
              have H := H1
              clear H1
              replace H := Option.bind_eq_some_iff.mp H
              obtain ⟨t658, A680, H⟩ := H
              replace H : (if t641 = t658 then (some (t642 == 0)) else (some false)) = some r := H
              have A68 := Aside0.mk A680
              clear A680
              by_cases c69 : t641 = t658
              · rw [if_pos c69] at H
                have c69b0 : (t641 == t658) = true := beq_iff_eq.mpr c69
                have c69b1 : (t641 != t658) = false := bne_eq_false_iff_eq.mpr c69
                clear c69
                obtain rfl := Option.some.inj H
                obtain ⟨Ao70, co70, eo70⟩ := Kd.R_slice HO_12.out
                subst eo70
                go_wp2_with (first | ((with_reducible refine gate_callee (f := 25) rfl ?_); refine goesL_ (some 92) rfl rfl Tryd.func25 (by kernel_rfl) rfl #[.slice Ao70 t644.length co70] rfl (by (try simp only [List.map_toArray, List.map_cons, List.map_nil]); first | done | rfl | (simp only [List.length_drop, List.length_take]; rfl)) ?_; (with_reducible refine (woggleref06_IsTree.calls kj7 _ _ t644 true _ ?side1 ?side2 A57.out).mono ?_); (case side1 => repeat (first | exact (Kd.R_reads' HO_12.out).2.2 | (with_reducible refine Kd.C_alloc ?_ _) | (with_reducible refine Kd.C_drewN ?_ _) | (with_reducible refine Kd.C_drew ?_))); (case side2 => exact (Kd.R_reads' HO_12.out).2.1); rintro e w71 ⟨rfl, hb⟩; refine ⟨_, rfl, ?_⟩; have n0_ := Aside0.mk (Kd.R_below (by (with_reducible repeat (first | apply Kd.R_alloc | apply Kd.R_drewN | apply Kd.R_drew)); exact HO_12.out) hb); have n1_ := Aside0.mk (blk_below (g := gb627) (o := .cells #[.int .i64 a0_0, .slice A0_1 l0_1.length c0_1] 24 (0, 0)) (by (with_reducible repeat (first | refine blk_drewN ?_ _ | refine blk_drew ?_ | refine blk_alloc ?_ _)); exact BK627.out) hb); have n2_ := Aside0.mk (below_step (by repeat (first | (with_reducible first | exact HB.out | apply below_alloc | apply pw_below_drewN | apply below_drew1 | refine below_set ?_ GE627.out) | exact HB.out)) hb); clear HO_12; clear BK627; clear HB; have HO_12 := n0_; have BK627 := n1_; have HB := n2_; clear n0_ n1_ n2_; (try clear hb); (try clear hb2); (try clear hk); (try clear hi)) | (go_at_call 26; (with_reducible refine (woggleref07_IsPath.calls kj7 _ _ t644 false _ ?side1 ?side2 A59.out).mono ?_); (case side1 => repeat (first | exact (Kd.R_reads' HO_12.out).2.2 | (with_reducible refine Kd.C_alloc ?_ _) | (with_reducible refine Kd.C_drewN ?_ _) | (with_reducible refine Kd.C_drew ?_))); (case side2 => exact (Kd.R_reads' HO_12.out).2.1); rintro e w72 ⟨rfl, hb⟩; have n0_ := Aside0.mk (Kd.R_below (by (with_reducible repeat (first | apply Kd.R_alloc | apply Kd.R_drewN | apply Kd.R_drew)); exact HO_12.out) hb); have n1_ := Aside0.mk (blk_below (g := gb627) (o := .cells #[.int .i64 a0_0, .slice A0_1 l0_1.length c0_1] 24 (0, 0)) (by (with_reducible repeat (first | refine blk_drewN ?_ _ | refine blk_drew ?_ | refine blk_alloc ?_ _)); exact BK627.out) hb); have n2_ := Aside0.mk (below_step (by repeat (first | (with_reducible first | exact HB.out | apply below_alloc | apply pw_below_drewN | apply below_drew1 | refine below_set ?_ GE627.out) | exact HB.out)) hb); clear HO_12; clear BK627; clear HB; have HO_12 := n0_; have BK627 := n1_; have HB := n2_; clear n0_ n1_ n2_; (try clear hb); (try clear hb2); (try clear hk); (try clear hi)) | ((with_reducible refine gate_callee (f := 43) rfl ?_); refine goesL_ (some 106) rfl rfl Tryd.func43 (by kernel_rfl) rfl #[.slice Ao70 t644.length co70] rfl (by (try simp only [List.map_toArray, List.map_cons, List.map_nil]); first | done | rfl | (simp only [List.length_drop, List.length_take]; rfl)) ?_; (with_reducible refine (woggleref07_Slater.calls kj7 _ _ t644 t658 _ ?side1 ?side2 A68.out).mono ?_); (case side1 => repeat (first | exact (Kd.R_reads' HO_12.out).2.2 | (with_reducible refine Kd.C_alloc ?_ _) | (with_reducible refine Kd.C_drewN ?_ _) | (with_reducible refine Kd.C_drew ?_))); (case side2 => exact (Kd.R_reads' HO_12.out).2.1); rintro e w73 ⟨rfl, hb⟩; refine ⟨_, rfl, ?_⟩; have n0_ := Aside0.mk (Kd.R_below (by (with_reducible repeat (first | apply Kd.R_alloc | apply Kd.R_drewN | apply Kd.R_drew)); exact HO_12.out) hb); have n1_ := Aside0.mk (blk_below (g := gb627) (o := .cells #[.int .i64 a0_0, .slice A0_1 l0_1.length c0_1] 24 (0, 0)) (by (with_reducible repeat (first | refine blk_drewN ?_ _ | refine blk_drew ?_ | refine blk_alloc ?_ _)); exact BK627.out) hb); have n2_ := Aside0.mk (below_step (by repeat (first | (with_reducible first | exact HB.out | apply below_alloc | apply pw_below_drewN | apply below_drew1 | refine below_set ?_ GE627.out) | exact HB.out)) hb); clear HO_12; clear BK627; clear HB; have HO_12 := n0_; have BK627 := n1_; have HB := n2_; clear n0_ n1_ n2_; (try clear hb); (try clear hb2); (try clear hk); (try clear hi)))
                go_ret
                exact ⟨by first | rfl | (simp [errW_none, errW_some] <;> rfl) | (simp [*, errW_none, errW_some] <;> rfl), by repeat (first | (with_reducible first | exact HB.out | apply below_alloc | apply pw_below_drewN | apply below_drew1 | refine below_set ?_ GE627.out) | exact HB.out)⟩
              · rw [if_neg c69] at H
                exact (no_true_ H HRR.out).elim
          · replace c58 := Bool.eq_false_iff.mpr c58
            subst c58
            have H1 : (if t641 = 0 then (some (t642 == 5)) else (some false)) = some r := by rw [if_neg (show ¬ (false = true) by decide)] at H; exact H
            clear H
            have H := H1
            clear H1
            by_cases c78 : t641 = 0
            · rw [if_pos c78] at H
              have c78b0 : (t641 == 0) = true := beq_iff_eq.mpr c78
              have c78b1 : (t641 != 0) = false := bne_eq_false_iff_eq.mpr c78
              clear c78
              obtain rfl := Option.some.inj H
              obtain ⟨Ao79, co79, eo79⟩ := Kd.R_slice HO_12.out
              subst eo79
              go_wp2_with (first | ((with_reducible refine gate_callee (f := 25) rfl ?_); refine goesL_ (some 92) rfl rfl Tryd.func25 (by kernel_rfl) rfl #[.slice Ao79 t644.length co79] rfl (by (try simp only [List.map_toArray, List.map_cons, List.map_nil]); first | done | rfl | (simp only [List.length_drop, List.length_take]; rfl)) ?_; (with_reducible refine (woggleref06_IsTree.calls kj7 _ _ t644 false _ ?side1 ?side2 A57.out).mono ?_); (case side1 => repeat (first | exact (Kd.R_reads' HO_12.out).2.2 | (with_reducible refine Kd.C_alloc ?_ _) | (with_reducible refine Kd.C_drewN ?_ _) | (with_reducible refine Kd.C_drew ?_))); (case side2 => exact (Kd.R_reads' HO_12.out).2.1); rintro e w80 ⟨rfl, hb⟩; refine ⟨_, rfl, ?_⟩; have n0_ := Aside0.mk (Kd.R_below (by (with_reducible repeat (first | apply Kd.R_alloc | apply Kd.R_drewN | apply Kd.R_drew)); exact HO_12.out) hb); have n1_ := Aside0.mk (blk_below (g := gb627) (o := .cells #[.int .i64 a0_0, .slice A0_1 l0_1.length c0_1] 24 (0, 0)) (by (with_reducible repeat (first | refine blk_drewN ?_ _ | refine blk_drew ?_ | refine blk_alloc ?_ _)); exact BK627.out) hb); have n2_ := Aside0.mk (below_step (by repeat (first | (with_reducible first | exact HB.out | apply below_alloc | apply pw_below_drewN | apply below_drew1 | refine below_set ?_ GE627.out) | exact HB.out)) hb); clear HO_12; clear BK627; clear HB; have HO_12 := n0_; have BK627 := n1_; have HB := n2_; clear n0_ n1_ n2_; (try clear hb); (try clear hb2); (try clear hk); (try clear hi)))
              go_ret
              exact ⟨by first | rfl | (simp [errW_none, errW_some] <;> rfl) | (simp [*, errW_none, errW_some] <;> rfl), by repeat (first | (with_reducible first | exact HB.out | apply below_alloc | apply pw_below_drewN | apply below_drew1 | refine below_set ?_ GE627.out) | exact HB.out)⟩
            · rw [if_neg c78] at H
              exact (no_true_ H HRR.out).elim
  · replace c6 := Bool.eq_false_iff.mpr c6
    subst c6
    have H1 : (if (wrap64 ((t633.length : Int) + (t637.length : Int))) = 0 then (if t641 = 0 then (if t634 = 1 then (if t638 = 1 then (if t642 = 1 then ((wogglelaw07_lives.f k).bind fun t643 => (some t643)) else (some false)) else (some false)) else (some false)) else (some false)) else (some false)) = some r := by rw [if_neg (show ¬ (false = true) by decide)] at H; exact H
    clear H
    have H := H1
    clear H1
    by_cases c83 : (wrap64 ((t633.length : Int) + (t637.length : Int))) = 0
    · rw [if_pos c83] at H
      have c83b0 : ((wrap64 ((t633.length : Int) + (t637.length : Int))) == 0) = true := beq_iff_eq.mpr c83
      have c83b1 : ((wrap64 ((t633.length : Int) + (t637.length : Int))) != 0) = false := bne_eq_false_iff_eq.mpr c83
      clear c83
      by_cases c84 : t641 = 0
      · rw [if_pos c84] at H
        have c84b0 : (t641 == 0) = true := beq_iff_eq.mpr c84
        have c84b1 : (t641 != 0) = false := bne_eq_false_iff_eq.mpr c84
        clear c84
        by_cases c85 : t634 = 1
        · rw [if_pos c85] at H
          have c85b0 : (t634 == 1) = true := beq_iff_eq.mpr c85
          have c85b1 : (t634 != 1) = false := bne_eq_false_iff_eq.mpr c85
          clear c85
          by_cases c86 : t638 = 1
          · rw [if_pos c86] at H
            have c86b0 : (t638 == 1) = true := beq_iff_eq.mpr c86
            have c86b1 : (t638 != 1) = false := bne_eq_false_iff_eq.mpr c86
            clear c86
            by_cases c87 : t642 = 1
            · rw [if_pos c87] at H
              have c87b0 : (t642 == 1) = true := beq_iff_eq.mpr c87
              have c87b1 : (t642 != 1) = false := bne_eq_false_iff_eq.mpr c87
              clear c87
              replace H := Option.bind_eq_some_iff.mp H
              obtain ⟨t643, A880, H⟩ := H
              replace H : (some t643) = some r := H
              have A88 := Aside0.mk A880
              clear A880
              obtain rfl := Option.some.inj H
              go_enter Tryd.func13, Tryd.ntmps13
              go_wp2_with (first | ((with_reducible refine gate_dst (N := 1) rfl ?_); refine box_event ?hg (N := 1) ?hd (cs := #[.int .i64 a0_0, .slice A0_1 l0_1.length c0_1]) (t := 24) ?hr ?_; (case hd => rfl); (case hg => rfl); (case hr => first | (go_simp; done) | (go_simp; rfl)); intro gb627 hg w89 hbox hb; have n0_ := Aside0.mk (below_step (by repeat (first | (with_reducible first | exact HB.out | apply below_alloc | apply pw_below_drewN | apply below_drew1) | exact HB.out)) hb); have n1_ := Aside0.mk (hbox); have n2_ := Aside0.mk ((by rw [hg]; exact (below_size (by repeat (first | (with_reducible first | exact HB.out | apply below_alloc | apply pw_below_drewN | apply below_drew1) | exact HB.out))) : w.heap.size ≤ gb627)); have n3_ := Aside0.mk ((by rw [hg]; exact (below_size (by repeat (first | (with_reducible first | exact HB.out | apply below_alloc | apply pw_below_drewN | apply below_drew1) | exact HB.out))) : w.heap.size ≤ gb627)); clear HB; have HB := n0_; have BK627 := n1_; have GW627 := n2_; have GE627 := n3_; clear n0_ n1_ n2_ n3_; clear hb hbox hg; have hcz90_0 : w89.cell? ⟨gb627, 0, none⟩ = some (.int .i64 a0_0) := (blk_cell BK627.out 0).trans rfl; have hcz90_1 : w89.cell? ⟨gb627, 1, none⟩ = some (.slice A0_1 l0_1.length c0_1) := (blk_cell BK627.out 1).trans rfl; have hfz90_0 := blk_frozen BK627.out 0; have hfz90_1 := blk_frozen BK627.out 1) | ((with_reducible refine gate_callee (f := 15) rfl ?_); refine goesL_ (some 15) rfl rfl Tryd.func15 (by kernel_rfl) rfl #[.agg #[.int .i64 a0_0, .slice A0_1 l0_1.length c0_1]] rfl (by (try simp only [List.map_toArray, List.map_cons, List.map_nil]); first | done | rfl | (simp only [List.length_drop, List.length_take]; rfl)) ?_; (with_reducible refine (wogglelaw07_Graph_few.calls k a0_0 _ _ l0_1 t628 t629 false _ ?side1 ?side2 A2.out).mono ?_); (case side1 => repeat (first | exact (Kd.C_below HR0_1.out HB.out) | (with_reducible refine Kd.C_alloc ?_ _) | (with_reducible refine Kd.C_drewN ?_ _) | (with_reducible refine Kd.C_drew ?_))); (case side2 => exact HC0_1.out); rintro e w91 ⟨v630, rfl, ho0, hb⟩; refine ⟨_, rfl, ?_⟩; have n0_ := Aside0.mk (Kd.R_lower ho0 (below_size (by repeat (first | (with_reducible first | exact HB.out | apply below_alloc | apply pw_below_drewN | apply below_drew1 | refine below_set ?_ GE627.out) | exact HB.out)))); have n1_ := Aside0.mk (blk_below (g := gb627) (o := .cells #[.int .i64 a0_0, .slice A0_1 l0_1.length c0_1] 24 (0, 0)) (by (with_reducible repeat (first | refine blk_drewN ?_ _ | refine blk_drew ?_ | refine blk_alloc ?_ _)); exact BK627.out) hb); have n2_ := Aside0.mk (below_step (by repeat (first | (with_reducible first | exact HB.out | apply below_alloc | apply pw_below_drewN | apply below_drew1 | refine below_set ?_ GE627.out) | exact HB.out)) hb); clear BK627; clear HB; have HO631 := n0_; have BK627 := n1_; have HB := n2_; clear n0_ n1_ n2_; (try clear hb); (try clear hb2); (try clear hk); (try clear hi); (try clear ho0); obtain ⟨Ao92, co92, eo92⟩ := Kd.R_slice HO631.out; subst eo92) | ((with_reducible refine gate_callee (f := 32) rfl ?_); refine goesL_ (some 22) rfl rfl Tryd.func32 (by kernel_rfl) rfl #[.int .i64 t628, .slice Ao92 t629.length co92] rfl (by (try simp only [List.map_toArray, List.map_cons, List.map_nil]); first | done | rfl | (simp only [List.length_drop, List.length_take]; rfl)) ?_; (with_reducible refine (beacon_Distances.calls t628 _ _ t629 t633 t634 _ ?side1 ?side2 A3.out).mono ?_); (case side1 => repeat (first | exact (Kd.R_reads' HO631.out).2.2 | (with_reducible refine Kd.C_alloc ?_ _) | (with_reducible refine Kd.C_drewN ?_ _) | (with_reducible refine Kd.C_drew ?_))); (case side2 => exact (Kd.R_reads' HO631.out).2.1); rintro e w93 ⟨v635, rfl, ho0, hb⟩; refine ⟨_, rfl, ?_⟩; have n0_ := Aside0.mk (Kd.R_below (by (with_reducible repeat (first | apply Kd.R_alloc | apply Kd.R_drewN | apply Kd.R_drew)); exact HO631.out) hb); have n1_ := Aside0.mk (Kd.S_lower ho0 (below_size (by repeat (first | (with_reducible first | exact HB.out | apply below_alloc | apply pw_below_drewN | apply below_drew1 | refine below_set ?_ GE627.out) | exact HB.out)))); have n2_ := Aside0.mk (blk_below (g := gb627) (o := .cells #[.int .i64 a0_0, .slice A0_1 l0_1.length c0_1] 24 (0, 0)) (by (with_reducible repeat (first | refine blk_drewN ?_ _ | refine blk_drew ?_ | refine blk_alloc ?_ _)); exact BK627.out) hb); have n3_ := Aside0.mk (below_step (by repeat (first | (with_reducible first | exact HB.out | apply below_alloc | apply pw_below_drewN | apply below_drew1 | refine below_set ?_ GE627.out) | exact HB.out)) hb); clear HO631; clear BK627; clear HB; have HO631 := n0_; have HO636 := n1_; have BK627 := n2_; have HB := n3_; clear n0_ n1_ n2_ n3_; (try clear hb); (try clear hb2); (try clear hk); (try clear hi); (try clear ho0)) | ((with_reducible refine gate_callee (f := 41) rfl ?_); refine goesL_ (some 28) rfl rfl Tryd.func41 (by kernel_rfl) rfl #[.int .i64 t628, .slice Ao92 t629.length co92] rfl (by (try simp only [List.map_toArray, List.map_cons, List.map_nil]); first | done | rfl | (simp only [List.length_drop, List.length_take]; rfl)) ?_; (with_reducible refine (beacon_Twins.calls k t628 _ _ t629 t637 t638 _ ?side1 ?side2 A4.out).mono ?_); (case side1 => repeat (first | exact (Kd.R_reads' HO631.out).2.2 | (with_reducible refine Kd.C_alloc ?_ _) | (with_reducible refine Kd.C_drewN ?_ _) | (with_reducible refine Kd.C_drew ?_))); (case side2 => exact (Kd.R_reads' HO631.out).2.1); rintro e w94 ⟨v639, rfl, ho0, hb⟩; refine ⟨_, rfl, ?_⟩; have n0_ := Aside0.mk (Kd.R_below (by (with_reducible repeat (first | apply Kd.R_alloc | apply Kd.R_drewN | apply Kd.R_drew)); exact HO631.out) hb); have n1_ := Aside0.mk (Kd.S_elder' (by (with_reducible repeat (first | apply Kd.S_alloc | apply Kd.S_drewN | apply Kd.S_drew)); exact HO636.out) (Kd.S_base ho0) hb); have n2_ := Aside0.mk (Kd.S_lower (Kd.S_new' ho0 (Kd.S_lt (by (with_reducible repeat (first | apply Kd.S_alloc | apply Kd.S_drewN | apply Kd.S_drew)); exact HO636.out))) (below_size (by repeat (first | (with_reducible first | exact HB.out | apply below_alloc | apply pw_below_drewN | apply below_drew1 | refine below_set ?_ GE627.out) | exact HB.out)))); have n3_ := Aside0.mk (blk_below (g := gb627) (o := .cells #[.int .i64 a0_0, .slice A0_1 l0_1.length c0_1] 24 (0, 0)) (by (with_reducible repeat (first | refine blk_drewN ?_ _ | refine blk_drew ?_ | refine blk_alloc ?_ _)); exact BK627.out) hb); have n4_ := Aside0.mk (below_step (by repeat (first | (with_reducible first | exact HB.out | apply below_alloc | apply pw_below_drewN | apply below_drew1 | refine below_set ?_ GE627.out) | exact HB.out)) hb); clear HO631; clear HO636; clear BK627; clear HB; have HO631 := n0_; have HO636 := n1_; have HO640 := n2_; have BK627 := n3_; have HB := n4_; clear n0_ n1_ n2_ n3_ n4_; (try clear hb); (try clear hb2); (try clear hk); (try clear hi); (try clear ho0)) | ((with_reducible refine gate_callee (f := 24) rfl ?_); refine goesL_ (some 34) rfl rfl Tryd.func24 (by kernel_rfl) rfl #[.int .i64 t628, .slice Ao92 t629.length co92] rfl (by (try simp only [List.map_toArray, List.map_cons, List.map_nil]); first | done | rfl | (simp only [List.length_drop, List.length_take]; rfl)) ?_; (with_reducible refine (beacon_Slater.calls k t628 _ _ t629 t641 t642 _ ?side1 ?side2 A5.out).mono ?_); (case side1 => repeat (first | exact (Kd.R_reads' HO631.out).2.2 | (with_reducible refine Kd.C_alloc ?_ _) | (with_reducible refine Kd.C_drewN ?_ _) | (with_reducible refine Kd.C_drew ?_))); (case side2 => exact (Kd.R_reads' HO631.out).2.1); rintro e w95 ⟨rfl, hb⟩; refine ⟨_, rfl, ?_⟩; have n0_ := Aside0.mk (Kd.R_below (by (with_reducible repeat (first | apply Kd.R_alloc | apply Kd.R_drewN | apply Kd.R_drew)); exact HO631.out) hb); have n1_ := Aside0.mk (Kd.S_below (by (with_reducible repeat (first | apply Kd.S_alloc | apply Kd.S_drewN | apply Kd.S_drew)); exact HO636.out) hb); have n2_ := Aside0.mk (Kd.S_below (by (with_reducible repeat (first | apply Kd.S_alloc | apply Kd.S_drewN | apply Kd.S_drew)); exact HO640.out) hb); have n3_ := Aside0.mk (blk_below (g := gb627) (o := .cells #[.int .i64 a0_0, .slice A0_1 l0_1.length c0_1] 24 (0, 0)) (by (with_reducible repeat (first | refine blk_drewN ?_ _ | refine blk_drew ?_ | refine blk_alloc ?_ _)); exact BK627.out) hb); have n4_ := Aside0.mk (below_step (by repeat (first | (with_reducible first | exact HB.out | apply below_alloc | apply pw_below_drewN | apply below_drew1 | refine below_set ?_ GE627.out) | exact HB.out)) hb); clear HO631; clear HO636; clear HO640; clear BK627; clear HB; have HO631 := n0_; have HO636 := n1_; have HO640 := n2_; have BK627 := n3_; have HB := n4_; clear n0_ n1_ n2_ n3_ n4_; (try clear hb); (try clear hb2); (try clear hk); (try clear hi); obtain ⟨Ao96, co96, eo96⟩ := Kd.S_slice HO636.out; subst eo96; obtain ⟨Ao97, co97, eo97⟩ := Kd.S_slice HO640.out; subst eo97) | (go_at_call 16; (with_reducible refine (wogglelaw07_lives.calls k  t643 _ ?sideD A88.out).mono ?_); (case sideD => repeat (first | exact (Door.below HDOOR.out HB.out) | exact HDOOR.out | (with_reducible refine Door.alloc ?_ _) | (with_reducible refine Door.drewN ?_ _) | (with_reducible refine Door.drew ?_))); rintro e w98 ⟨rfl, hb⟩; have n0_ := Aside0.mk (Kd.R_below (by (with_reducible repeat (first | apply Kd.R_alloc | apply Kd.R_drewN | apply Kd.R_drew)); exact HO631.out) hb); have n1_ := Aside0.mk (Kd.S_below (by (with_reducible repeat (first | apply Kd.S_alloc | apply Kd.S_drewN | apply Kd.S_drew)); exact HO636.out) hb); have n2_ := Aside0.mk (Kd.S_below (by (with_reducible repeat (first | apply Kd.S_alloc | apply Kd.S_drewN | apply Kd.S_drew)); exact HO640.out) hb); have n3_ := Aside0.mk (blk_below (g := gb627) (o := .cells #[.int .i64 a0_0, .slice A0_1 l0_1.length c0_1] 24 (0, 0)) (by (with_reducible repeat (first | refine blk_drewN ?_ _ | refine blk_drew ?_ | refine blk_alloc ?_ _)); exact BK627.out) hb); have n4_ := Aside0.mk (below_step (by repeat (first | (with_reducible first | exact HB.out | apply below_alloc | apply pw_below_drewN | apply below_drew1 | refine below_set ?_ GE627.out) | exact HB.out)) hb); clear HO631; clear HO636; clear HO640; clear BK627; clear HB; have HO631 := n0_; have HO636 := n1_; have HO640 := n2_; have BK627 := n3_; have HB := n4_; clear n0_ n1_ n2_ n3_ n4_; (try clear hb); (try clear hb2); (try clear hk); (try clear hi)))
              go_ret
              exact ⟨by first | rfl | (simp [errW_none, errW_some] <;> rfl) | (simp [*, errW_none, errW_some] <;> rfl), by repeat (first | (with_reducible first | exact HB.out | apply below_alloc | apply pw_below_drewN | apply below_drew1 | refine below_set ?_ GE627.out) | exact HB.out)⟩
            · rw [if_neg c87] at H
              exact (no_true_ H HRR.out).elim
          · rw [if_neg c86] at H
            exact (no_true_ H HRR.out).elim
        · rw [if_neg c85] at H
          exact (no_true_ H HRR.out).elim
      · rw [if_neg c84] at H
        exact (no_true_ H HRR.out).elim
    · rw [if_neg c83] at H
      exact (no_true_ H HRR.out).elim
/-- THE ONE PURE STATEMENT of wogglelaw07_BeaconDistances: yours. -/
def wogglelaw07_BeaconDistances.Pure : Prop := ∀ (a0_0 : Int) (l0_1 : List (S47)), (Lit.int .i64 a0_0).wf = true → (l0_1.length ≤ maxLen ∧ ∀ x0_ ∈ l0_1, ((Lit.int .i64 x0_.f0).wf = true ∧ (Lit.int .i64 x0_.f1).wf = true)) → ∃ k, wogglelaw07_BeaconDistances.f k a0_0 l0_1 = some true

end Go.Proofs.YtbeimdngghedjaaDoor.P
