-- written by a program of this session
import Derived.Test.YtbeimdngghedjaaDoorBI
import Derived.Test.YtbeimdngghedjaaDoorPK
import Derived.Test.YtbeimdngghedjaaDoorPK2
import Derived.Test.YtbeimdngghedjaaDoorPM3
import Derived.Test.YtbeimdngghedjaaDoorPF16
import Derived.Test.YtbeimdngghedjaaDoorPF16d
import Derived.Test.YtbeimdngghedjaaDoorPM2
import Derived.Test.YtbeimdngghedjaaDoorPF21
import Derived.Test.YtbeimdngghedjaaDoorPF28
import Derived.Test.YtbeimdngghedjaaDoorPF39
import Derived.Test.YtbeimdngghedjaaDoorG38
import Derived.Test.YtbeimdngghedjaaDoorBZ
namespace Go.Proofs.YtbeimdngghedjaaDoor.P
set_option linter.unusedVariables false
set_option linter.unusedSimpArgs false
open Go Go.RowKit Go.Proofs.YtbeimdngghedjaaDoorW.PrintWords Go.Proofs.YtbeimdngghedjaaDoorW.PrintLast Go.Proofs.YtbeimdngghedjaaDoorW.PrintMore
attribute [local go_sem high] eqA47
/-! ### Confused -/
def beacon_Confused.f (k : Nat) (a0 : Int) (l1 : List S47) (l2 : List Int) : Option (List Int × Int) := if withErr a0 l1 l2 = 0 then ((beacon_graph_confused.f k [graphOf a0.toNat l1] l2).bind fun p => if p.1 = -1 ∧ p.2 = -1 then some ([], 5) else some ([p.1, p.2], 0)) else some ([], withErr a0 l1 l2)
theorem beacon_Confused.mono : ∀ a0 a1 a2 k, LeO (beacon_Confused.f k a0 a1 a2) (beacon_Confused.f (k + 1) a0 a1 a2) := fun a0 a1 a2 k => LeO.ite (LeO.bind (beacon_graph_confused.mono _ _ _) (fun _ => LeO.refl _)) (LeO.refl _)
set_option maxRecDepth 100000 in
set_option maxHeartbeats 4000000 in
theorem beacon_Confused.calls (k : Nat) (a0 : Int) (A1 : Option Addr) (c1 : Nat) (l1 : List S47) (A2 : Option Addr) (c2 : Nat) (l2 : List Int) (r1 : List Int) (r2 : Int) (w : World) (hr1 : Kd.C k47 w A1 l1.length l1) (hc1 : l1.length ≤ c1) (hr2 : Kd.C (Kd.int .i64) w A2 l2.length l2) (hc2 : l2.length ≤ c2) (hdoor : Door w) (h : beacon_Confused.f k a0 l1 l2 = some (r1, r2)) :
    Calls Tryd.prog 37 #[.int .i64 a0, .slice A1 l1.length c1, .slice A2 l2.length c2] w fun e w' => ∃ v0_ : Value, e = .returned (.tuple #[v0_, .int .i64 r2]) ∧ Kd.R (Kd.int .i64) 3 w' w.heap.size (fun _ => True) v0_ r1 ∧ Below w.heap.size w w' := by
  have hu47 := Tryd.underlying47
  unfold beacon_Confused.f at h
  by_cases he : withErr a0 l1 l2 = 0
  · rw [if_pos he] at h
    obtain ⟨⟨x, y⟩, hx, h⟩ := Option.bind_eq_some_iff.mp h
    have HW := Aside0.mk (with_ok (c2 := c2) hr1 hc1 hr2 he)
    have HCF := Aside0.mk (fun (B : Option Addr) (W : World) (hb : Below w.heap.size w W) (hg : Kd.C k82 W B [graphOf a0.toNat l1].length [graphOf a0.toNat l1]) => beacon_graph_confused.calls k B 1 [graphOf a0.toNat l1] A2 c2 l2 x y W hg (by simp) (Kd.C_below hr2 hb) hc2 (hdoor.below hb) hx)
    have HD := Aside0.mk hdoor
    have HRES := Aside0.mk (show (if x = -1 ∧ y = -1 then some ([], 5) else some ([x, y], 0)) = some (r1, r2) from h)
    clear h hx hr1 hc1 hr2 hc2 he hdoor
    go_enter Tryd.func37, Tryd.ntmps37
    go_wp2_with (fail)
    refine HW.out.mono ?_
    rintro e w1 ⟨B, rfl, hb1, hg⟩
    have HB1 := Aside0.mk hb1
    have HG := Aside0.mk hg
    have HC := Aside0.mk (HCF.out B w1 hb1 hg)
    have d0 := (HD.out.below hb1).c0
    have d1 := (HD.out.below hb1).c1
    clear HW hb1 hg HCF
    go_wp2_with (fail)
    refine HC.out.mono ?_
    rintro e w2 ⟨rfl, hb2⟩
    have HB2 := Aside0.mk (HB1.out.trans (hb2.mono HB1.out.size))
    have e0 := (HD.out.below HB2.out).c0
    have e1 := (HD.out.below HB2.out).c1
    clear HC HG hb2 d0 d1 h
    have f0 := ((HD.out.below HB2.out).alloc (.cells #[.int .i64 x, .int .i64 y] 47)).c0
    have f1 := ((HD.out.below HB2.out).alloc (.cells #[.int .i64 x, .int .i64 y] 47)).c1
    cases hxy : (x == -1 && (y == -1)) with
    | true =>
      obtain ⟨rfl, rfl⟩ : x = -1 ∧ y = -1 := by simpa using hxy
      have HR2 := HRES.out
      rw [if_pos ⟨rfl, rfl⟩] at HR2
      obtain ⟨rfl, rfl⟩ : [] = r1 ∧ (5 : Int) = r2 := by simpa using HR2
      clear HRES HR2 hxy
      go_wp2
      go_ret2
      exact ⟨_, rfl, Kd.R_nil _ _ _ _ _, below_alloc HB2.out _⟩
    | false =>
      have hn : ¬ (x = -1 ∧ y = -1) := by simpa using hxy
      have HR2 := HRES.out
      rw [if_neg hn] at HR2
      obtain ⟨rfl, rfl⟩ : [x, y] = r1 ∧ (0 : Int) = r2 := by simpa using HR2
      clear HRES HR2 hn
      go_wp2
      go_ret2
      have hs : w.heap.size ≤ (w2.alloc (.cells #[.int .i64 x, .int .i64 y] 47)).heap.size := by have := HB2.out.size; simp; omega
      have ho := World.ownsRow_lit (base := w.heap.size) (e := 3) (size := 1) (w2.alloc (.cells #[.int .i64 x, .int .i64 y] 47)) #[.int .i64 x, .int .i64 y] 2 hs (by decide) rfl
      rw [show (w2.alloc (.cells #[.int .i64 x, .int .i64 y] 47)).heap.size = w2.heap.size + 1 by simp] at ho
      exact ⟨_, rfl, Kd.R_of_own (xs := [x, y]) ho (fun _ _ => trivial), below_alloc (below_alloc HB2.out _) _⟩
  · rw [if_neg he] at h
    obtain ⟨rfl, rfl⟩ : [] = r1 ∧ withErr a0 l1 l2 = r2 := by simpa using h
    have HW := Aside0.mk (with_calls a0 A1 c1 l1 A2 c2 l2 w hr1 hc1 hr2)
    have hne : (withErr a0 l1 l2 != 0) = true := bne_iff_ne.2 he
    clear h hr1 hc1 hr2 hc2 he hdoor
    generalize withErr a0 l1 l2 = x at HW hne
    go_enter Tryd.func37, Tryd.ntmps37
    go_wp2_with (fail)
    refine HW.out.mono ?_
    rintro e w1 ⟨B, rfl, hb, _⟩
    go_wp2
    go_ret2
    exact ⟨_, rfl, Kd.R_nil _ _ _ _ _, hb⟩
end Go.Proofs.YtbeimdngghedjaaDoor.P
namespace Go.Proofs.YtbeimdngghedjaaDoor.P
open Go.RowKit Go.Proofs.YtbeimdngghedjaaDoorW.PrintWords Go.Proofs.YtbeimdngghedjaaDoorW.PrintLast Go.Proofs.YtbeimdngghedjaaDoorW.PrintMore
attribute [local go_sem] max2_int min2_int max_two min_two max_three min_three max_four min_four   -- for this text's walks alone
set_option linter.unusedVariables false
set_option linter.unusedSimpArgs false

/-! ### wogglelaw07_BeaconCodes: function 11 -/
mutual
def wogglelaw07_BeaconCodes.j0 : Nat → Int → List (S47) → List Int → List (List Int) → Int → Bool → Int → List Int → Int → Int → Option (Bool)
 | 0, _, _, _, _, _, _, _, _, _, _ => none
 | k + 1, x5, x6, x8, x9, x10, x11, x12, x13, x14, x15 => if x15 = 0 then ((woggleref06_Near.f k x5 x6).bind fun t549 => ((woggleref07_Distances.f k t549).bind fun t552 => ((woggleref07_Confused.f k t552 x8).bind fun t555 => ((woggleref07_Codes.f k t552 x8).bind fun t558 => ((woggleref01_SameLists.f k x9 t558).bind fun t561 => (if t561 = true then (if x10 = 0 then (if (t555.length : Int) = 0 then (if (x11 != true) = true then (wogglelaw07_BeaconCodes.j1 k x13 x14 t555 true) else (if x12 = 0 then ((wogglelaw07_lives.f k).bind fun t562 => (wogglelaw07_BeaconCodes.j1 k x13 x14 t555 (!t562))) else (wogglelaw07_BeaconCodes.j1 k x13 x14 t555 true))) else (if (x11 != false) = true then (wogglelaw07_BeaconCodes.j1 k x13 x14 t555 true) else (if x12 = 0 then ((wogglelaw07_lives.f k).bind fun t563 => (wogglelaw07_BeaconCodes.j1 k x13 x14 t555 (!t563))) else (wogglelaw07_BeaconCodes.j1 k x13 x14 t555 true)))) else (wogglelaw07_BeaconCodes.j1 k x13 x14 t555 true)) else (wogglelaw07_BeaconCodes.j1 k x13 x14 t555 true))))))) else (if (wrap64 ((x9.length : Int) + (x13.length : Int))) = 0 then (if x11 = true then (some false) else (if x10 = x15 then (if x12 = x15 then (if x14 = x15 then ((wogglelaw07_lives.f k).bind fun t548 => (some t548)) else (some false)) else (some false)) else (some false))) else (some false))
def wogglelaw07_BeaconCodes.j1 : Nat → List Int → Int → List Int → Bool → Option (Bool)
 | 0, _, _, _, _ => none
 | k + 1, x13, x14, x17, x113 => if x113 = true then (some false) else (if (x17.length : Int) = 0 then (if (x13.length : Int) = 0 then (some (x14 == 5)) else (some false)) else ((woggleref01_Same.f k x13 x17).bind fun t564 => (if t564 = true then (some (x14 == 0)) else (some false))))
end
def wogglelaw07_BeaconCodes.f (k : Nat) (a0_0 : Int) (l0_1 : List (S47)) (l1 : List Int) : Option (Bool) := (wogglelaw07_Graph_few.f k a0_0 l0_1).bind fun bt529 => ((wogglelaw07_cut.f l1).bind fun t534 => ((beacon_Codes.f k bt529.1 bt529.2.1 t534).bind fun bt537 => ((beacon_Resolves.f k bt529.1 bt529.2.1 t534).bind fun bt541 => ((beacon_Confused.f k bt529.1 bt529.2.1 t534).bind fun bt543 => (if bt529.2.2 = true then ((woggleref01_Rising.f k bt529.1 t534).bind fun t547 => (if t547 = true then (wogglelaw07_BeaconCodes.j0 k bt529.1 bt529.2.1 t534 bt537.1 bt537.2 bt541.1 bt541.2 bt543.1 bt543.2 0) else (wogglelaw07_BeaconCodes.j0 k bt529.1 bt529.2.1 t534 bt537.1 bt537.2 bt541.1 bt541.2 bt543.1 bt543.2 2))) else (wogglelaw07_BeaconCodes.j0 k bt529.1 bt529.2.1 t534 bt537.1 bt537.2 bt541.1 bt541.2 bt543.1 bt543.2 1))))))
theorem wogglelaw07_BeaconCodes.mono_l : ∀ k, (∀ y0 y1 y2 y3 y4 y5 y6 y7 y8 y9, LeO (wogglelaw07_BeaconCodes.j0 k y0 y1 y2 y3 y4 y5 y6 y7 y8 y9) (wogglelaw07_BeaconCodes.j0 (k + 1) y0 y1 y2 y3 y4 y5 y6 y7 y8 y9)) ∧ (∀ y0 y1 y2 y3, LeO (wogglelaw07_BeaconCodes.j1 k y0 y1 y2 y3) (wogglelaw07_BeaconCodes.j1 (k + 1) y0 y1 y2 y3))
 | 0 => ⟨fun _ _ _ _ _ _ _ _ _ _ r h => by simp [wogglelaw07_BeaconCodes.j0] at h, fun _ _ _ _ r h => by simp [wogglelaw07_BeaconCodes.j1] at h⟩
 | k + 1 => by
  obtain ⟨ih0, ih1⟩ := wogglelaw07_BeaconCodes.mono_l k
  refine ⟨?_, ?_⟩
  ·intro y0 y1 y2 y3 y4 y5 y6 y7 y8 y9
   unfold wogglelaw07_BeaconCodes.j0
   repeat' first
   | (with_reducible exact ih0 _ _ _ _ _ _ _ _ _ _)
   | (with_reducible exact ih1 _ _ _ _)
   | (with_reducible exact beacon_Codes.mono _ _ _ _)
   | (with_reducible exact beacon_Confused.mono _ _ _ _)
   | (with_reducible exact beacon_Resolves.mono _ _ _ _)
   | (with_reducible exact wogglelaw07_Graph_few.mono _ _ _)
   | (with_reducible exact wogglelaw07_lives.mono _)
   | (with_reducible exact woggleref01_Rising.mono _ _ _)
   | (with_reducible exact woggleref01_Same.mono _ _ _)
   | (with_reducible exact woggleref01_SameLists.mono _ _ _)
   | (with_reducible exact woggleref06_Near.mono _ _ _)
   | (with_reducible exact woggleref07_Codes.mono _ _ _)
   | (with_reducible exact woggleref07_Confused.mono _ _ _)
   | (with_reducible exact woggleref07_Distances.mono _ _)
   | (with_reducible exact LeO.refl _)
   | (with_reducible exact LeO.none _)
   | (with_reducible refine LeO.ite ?_ ?_)
   | (with_reducible refine LeO.bind ?_ (fun _ => ?_))
   | exact ih0 _ _ _ _ _ _ _ _ _ _
   | exact ih1 _ _ _ _
   | exact beacon_Codes.mono _ _ _ _
   | exact beacon_Confused.mono _ _ _ _
   | exact beacon_Resolves.mono _ _ _ _
   | exact wogglelaw07_Graph_few.mono _ _ _
   | exact wogglelaw07_lives.mono _
   | exact woggleref01_Rising.mono _ _ _
   | exact woggleref01_Same.mono _ _ _
   | exact woggleref01_SameLists.mono _ _ _
   | exact woggleref06_Near.mono _ _ _
   | exact woggleref07_Codes.mono _ _ _
   | exact woggleref07_Confused.mono _ _ _
   | exact woggleref07_Distances.mono _ _
   | exact LeO.none _
   | refine LeO.ite ?_ ?_
   | refine LeO.bind ?_ (fun _ => ?_)
  ·intro y0 y1 y2 y3
   unfold wogglelaw07_BeaconCodes.j1
   repeat' first
   | (with_reducible exact ih0 _ _ _ _ _ _ _ _ _ _)
   | (with_reducible exact ih1 _ _ _ _)
   | (with_reducible exact beacon_Codes.mono _ _ _ _)
   | (with_reducible exact beacon_Confused.mono _ _ _ _)
   | (with_reducible exact beacon_Resolves.mono _ _ _ _)
   | (with_reducible exact wogglelaw07_Graph_few.mono _ _ _)
   | (with_reducible exact wogglelaw07_lives.mono _)
   | (with_reducible exact woggleref01_Rising.mono _ _ _)
   | (with_reducible exact woggleref01_Same.mono _ _ _)
   | (with_reducible exact woggleref01_SameLists.mono _ _ _)
   | (with_reducible exact woggleref06_Near.mono _ _ _)
   | (with_reducible exact woggleref07_Codes.mono _ _ _)
   | (with_reducible exact woggleref07_Confused.mono _ _ _)
   | (with_reducible exact woggleref07_Distances.mono _ _)
   | (with_reducible exact LeO.refl _)
   | (with_reducible exact LeO.none _)
   | (with_reducible refine LeO.ite ?_ ?_)
   | (with_reducible refine LeO.bind ?_ (fun _ => ?_))
   | exact ih0 _ _ _ _ _ _ _ _ _ _
   | exact ih1 _ _ _ _
   | exact beacon_Codes.mono _ _ _ _
   | exact beacon_Confused.mono _ _ _ _
   | exact beacon_Resolves.mono _ _ _ _
   | exact wogglelaw07_Graph_few.mono _ _ _
   | exact wogglelaw07_lives.mono _
   | exact woggleref01_Rising.mono _ _ _
   | exact woggleref01_Same.mono _ _ _
   | exact woggleref01_SameLists.mono _ _ _
   | exact woggleref06_Near.mono _ _ _
   | exact woggleref07_Codes.mono _ _ _
   | exact woggleref07_Confused.mono _ _ _
   | exact woggleref07_Distances.mono _ _
   | exact LeO.none _
   | refine LeO.ite ?_ ?_
   | refine LeO.bind ?_ (fun _ => ?_)
theorem wogglelaw07_BeaconCodes.mono : ∀ a0 a1 a2 k, LeO (wogglelaw07_BeaconCodes.f k a0 a1 a2) (wogglelaw07_BeaconCodes.f (k + 1) a0 a1 a2) := by
 intro a0 a1 a2 k
 obtain ⟨ih0, ih1⟩ := wogglelaw07_BeaconCodes.mono_l k
 unfold wogglelaw07_BeaconCodes.f
 repeat' first
   | (with_reducible exact ih0 _ _ _ _ _ _ _ _ _ _)
   | (with_reducible exact ih1 _ _ _ _)
   | (with_reducible exact beacon_Codes.mono _ _ _ _)
   | (with_reducible exact beacon_Confused.mono _ _ _ _)
   | (with_reducible exact beacon_Resolves.mono _ _ _ _)
   | (with_reducible exact wogglelaw07_Graph_few.mono _ _ _)
   | (with_reducible exact wogglelaw07_lives.mono _)
   | (with_reducible exact woggleref01_Rising.mono _ _ _)
   | (with_reducible exact woggleref01_Same.mono _ _ _)
   | (with_reducible exact woggleref01_SameLists.mono _ _ _)
   | (with_reducible exact woggleref06_Near.mono _ _ _)
   | (with_reducible exact woggleref07_Codes.mono _ _ _)
   | (with_reducible exact woggleref07_Confused.mono _ _ _)
   | (with_reducible exact woggleref07_Distances.mono _ _)
   | (with_reducible exact LeO.refl _)
   | (with_reducible exact LeO.none _)
   | (with_reducible refine LeO.ite ?_ ?_)
   | (with_reducible refine LeO.bind ?_ (fun _ => ?_))
   | exact ih0 _ _ _ _ _ _ _ _ _ _
   | exact ih1 _ _ _ _
   | exact beacon_Codes.mono _ _ _ _
   | exact beacon_Confused.mono _ _ _ _
   | exact beacon_Resolves.mono _ _ _ _
   | exact wogglelaw07_Graph_few.mono _ _ _
   | exact wogglelaw07_lives.mono _
   | exact woggleref01_Rising.mono _ _ _
   | exact woggleref01_Same.mono _ _ _
   | exact woggleref01_SameLists.mono _ _ _
   | exact woggleref06_Near.mono _ _ _
   | exact woggleref07_Codes.mono _ _ _
   | exact woggleref07_Confused.mono _ _ _
   | exact woggleref07_Distances.mono _ _
   | exact LeO.none _
   | refine LeO.ite ?_ ?_
   | refine LeO.bind ?_ (fun _ => ?_)
theorem no_true_ {r : Bool} (h : some false = some r) (hr : r = true) : False := by subst hr; cases h
theorem wogglelaw07_BeaconCodes.j1_no {k : Nat} {a0} {a1} {a2} {r : Bool} (h : wogglelaw07_BeaconCodes.j1 k a0 a1 a2 true = some r) (hr : r = true) : False := by subst hr; cases k <;> simp [wogglelaw07_BeaconCodes.j1] at h
set_option maxHeartbeats 8000000 in
set_option maxRecDepth 100000 in
theorem wogglelaw07_BeaconCodes.calls (k : Nat) (a0_0 : Int) (A0_1 : Option Addr) (c0_1 : Nat) (l0_1 : List (S47)) (A1 : Option Addr) (c1 : Nat) (l1 : List Int) (r : Bool) (w : World) (hr0_1 : Kd.C k47 w A0_1 l0_1.length l0_1) (hc0_1 : l0_1.length ≤ c0_1) (hr1 : Kd.C (Kd.int .i64) w A1 l1.length l1) (hc1 : l1.length ≤ c1) (hdoor : Door w) (h : wogglelaw07_BeaconCodes.f k a0_0 l0_1 l1 = some r) (hrr : r = true) :
  Calls Tryd.prog 11 #[.agg #[.int .i64 a0_0, .slice A0_1 l0_1.length c0_1], .slice A1 l1.length c1] w fun e w' => e = .returned (.bool r) ∧ Below w.heap.size w w' := by
 have HRR := Aside0.mk hrr
 clear hrr
 have HDOOR := Aside0.mk hdoor
 clear hdoor
 have hu24 := Tryd.underlying24
 have HR0_1 := Aside0.mk hr0_1
 have HC0_1 := Aside0.mk hc0_1
 clear hr0_1 hc0_1
 have HR1 := Aside0.mk hr1
 have HC1 := Aside0.mk hc1
 clear hr1 hc1
 have HB := Aside0.mk (Below.refl w.heap.size w)
 have H : ((wogglelaw07_Graph_few.f k a0_0 l0_1).bind fun bt529 => ((wogglelaw07_cut.f l1).bind fun t534 => ((beacon_Codes.f k bt529.1 bt529.2.1 t534).bind fun bt537 => ((beacon_Resolves.f k bt529.1 bt529.2.1 t534).bind fun bt541 => ((beacon_Confused.f k bt529.1 bt529.2.1 t534).bind fun bt543 => (if bt529.2.2 = true then ((woggleref01_Rising.f k bt529.1 t534).bind fun t547 => (if t547 = true then (wogglelaw07_BeaconCodes.j0 k bt529.1 bt529.2.1 t534 bt537.1 bt537.2 bt541.1 bt541.2 bt543.1 bt543.2 0) else (wogglelaw07_BeaconCodes.j0 k bt529.1 bt529.2.1 t534 bt537.1 bt537.2 bt541.1 bt541.2 bt543.1 bt543.2 2))) else (wogglelaw07_BeaconCodes.j0 k bt529.1 bt529.2.1 t534 bt537.1 bt537.2 bt541.1 bt541.2 bt543.1 bt543.2 1))))))) = some r := h
 clear h
 replace H := Option.bind_eq_some_iff.mp H
 obtain ⟨⟨t529, t530, t533⟩, A30, H⟩ := H
 replace H : ((wogglelaw07_cut.f l1).bind fun t534 => ((beacon_Codes.f k t529 t530 t534).bind fun bt537 => ((beacon_Resolves.f k t529 t530 t534).bind fun bt541 => ((beacon_Confused.f k t529 t530 t534).bind fun bt543 => (if t533 = true then ((woggleref01_Rising.f k t529 t534).bind fun t547 => (if t547 = true then (wogglelaw07_BeaconCodes.j0 k t529 t530 t534 bt537.1 bt537.2 bt541.1 bt541.2 bt543.1 bt543.2 0) else (wogglelaw07_BeaconCodes.j0 k t529 t530 t534 bt537.1 bt537.2 bt541.1 bt541.2 bt543.1 bt543.2 2))) else (wogglelaw07_BeaconCodes.j0 k t529 t530 t534 bt537.1 bt537.2 bt541.1 bt541.2 bt543.1 bt543.2 1)))))) = some r := H
 have A3 := Aside0.mk A30
 clear A30
 replace H := Option.bind_eq_some_iff.mp H
 obtain ⟨t534, A40, H⟩ := H
 replace H : ((beacon_Codes.f k t529 t530 t534).bind fun bt537 => ((beacon_Resolves.f k t529 t530 t534).bind fun bt541 => ((beacon_Confused.f k t529 t530 t534).bind fun bt543 => (if t533 = true then ((woggleref01_Rising.f k t529 t534).bind fun t547 => (if t547 = true then (wogglelaw07_BeaconCodes.j0 k t529 t530 t534 bt537.1 bt537.2 bt541.1 bt541.2 bt543.1 bt543.2 0) else (wogglelaw07_BeaconCodes.j0 k t529 t530 t534 bt537.1 bt537.2 bt541.1 bt541.2 bt543.1 bt543.2 2))) else (wogglelaw07_BeaconCodes.j0 k t529 t530 t534 bt537.1 bt537.2 bt541.1 bt541.2 bt543.1 bt543.2 1))))) = some r := H
 have A4 := Aside0.mk A40
 clear A40
 replace H := Option.bind_eq_some_iff.mp H
 obtain ⟨⟨t537, t538⟩, A50, H⟩ := H
 replace H : ((beacon_Resolves.f k t529 t530 t534).bind fun bt541 => ((beacon_Confused.f k t529 t530 t534).bind fun bt543 => (if t533 = true then ((woggleref01_Rising.f k t529 t534).bind fun t547 => (if t547 = true then (wogglelaw07_BeaconCodes.j0 k t529 t530 t534 t537 t538 bt541.1 bt541.2 bt543.1 bt543.2 0) else (wogglelaw07_BeaconCodes.j0 k t529 t530 t534 t537 t538 bt541.1 bt541.2 bt543.1 bt543.2 2))) else (wogglelaw07_BeaconCodes.j0 k t529 t530 t534 t537 t538 bt541.1 bt541.2 bt543.1 bt543.2 1)))) = some r := H
 have A5 := Aside0.mk A50
 clear A50
 replace H := Option.bind_eq_some_iff.mp H
 obtain ⟨⟨t541, t542⟩, A60, H⟩ := H
 replace H : ((beacon_Confused.f k t529 t530 t534).bind fun bt543 => (if t533 = true then ((woggleref01_Rising.f k t529 t534).bind fun t547 => (if t547 = true then (wogglelaw07_BeaconCodes.j0 k t529 t530 t534 t537 t538 t541 t542 bt543.1 bt543.2 0) else (wogglelaw07_BeaconCodes.j0 k t529 t530 t534 t537 t538 t541 t542 bt543.1 bt543.2 2))) else (wogglelaw07_BeaconCodes.j0 k t529 t530 t534 t537 t538 t541 t542 bt543.1 bt543.2 1))) = some r := H
 have A6 := Aside0.mk A60
 clear A60
 replace H := Option.bind_eq_some_iff.mp H
 obtain ⟨⟨t543, t544⟩, A70, H⟩ := H
 replace H : (if t533 = true then ((woggleref01_Rising.f k t529 t534).bind fun t547 => (if t547 = true then (wogglelaw07_BeaconCodes.j0 k t529 t530 t534 t537 t538 t541 t542 t543 t544 0) else (wogglelaw07_BeaconCodes.j0 k t529 t530 t534 t537 t538 t541 t542 t543 t544 2))) else (wogglelaw07_BeaconCodes.j0 k t529 t530 t534 t537 t538 t541 t542 t543 t544 1)) = some r := H
 have A7 := Aside0.mk A70
 clear A70
 have HC8 := Aside0.mk H
 clear H
 go_enter Tryd.func11, Tryd.ntmps11
 go_upto_if 48 with (first | ((with_reducible refine gate_dst (N := 2) rfl ?_); refine box_event ?hg (N := 2) ?hd (cs := #[.int .i64 a0_0, .slice A0_1 l0_1.length c0_1]) (t := 24) ?hr ?_; (case hd => rfl); (case hg => rfl); (case hr => first | (go_simp; done) | (go_simp; rfl)); intro gb528 hg w9 hbox hb; have n0_ := Aside0.mk (below_step (by repeat (first | (with_reducible first | exact HB.out | apply below_alloc | apply pw_below_drewN | apply below_drew1) | exact HB.out)) hb); have n1_ := Aside0.mk (hbox); have n2_ := Aside0.mk ((by rw [hg]; exact (below_size (by repeat (first | (with_reducible first | exact HB.out | apply below_alloc | apply pw_below_drewN | apply below_drew1) | exact HB.out))) : w.heap.size ≤ gb528)); have n3_ := Aside0.mk ((by rw [hg]; exact (below_size (by repeat (first | (with_reducible first | exact HB.out | apply below_alloc | apply pw_below_drewN | apply below_drew1) | exact HB.out))) : w.heap.size ≤ gb528)); clear HB; have HB := n0_; have BK528 := n1_; have GW528 := n2_; have GE528 := n3_; clear n0_ n1_ n2_ n3_; clear hb hbox hg; have hcz10_0 : w9.cell? ⟨gb528, 0, none⟩ = some (.int .i64 a0_0) := (blk_cell BK528.out 0).trans rfl; have hcz10_1 : w9.cell? ⟨gb528, 1, none⟩ = some (.slice A0_1 l0_1.length c0_1) := (blk_cell BK528.out 1).trans rfl; have hfz10_0 := blk_frozen BK528.out 0; have hfz10_1 := blk_frozen BK528.out 1) | ((with_reducible refine gate_callee (f := 15) rfl ?_); refine goesL_ (some 20) rfl rfl Tryd.func15 (by kernel_rfl) rfl #[.agg #[.int .i64 a0_0, .slice A0_1 l0_1.length c0_1]] rfl (by (try simp only [List.map_toArray, List.map_cons, List.map_nil]); first | done | rfl | (simp only [List.length_drop, List.length_take]; rfl)) ?_; (with_reducible refine (wogglelaw07_Graph_few.calls k a0_0 _ _ l0_1 t529 t530 t533 _ ?side1 ?side2 A3.out).mono ?_); (case side1 => repeat (first | exact (Kd.C_below HR0_1.out HB.out) | (with_reducible refine Kd.C_alloc ?_ _) | (with_reducible refine Kd.C_drewN ?_ _) | (with_reducible refine Kd.C_drew ?_))); (case side2 => exact HC0_1.out); rintro e w11 ⟨v531, rfl, ho0, hb⟩; refine ⟨_, rfl, ?_⟩; have n0_ := Aside0.mk (Kd.R_lower ho0 (below_size (by repeat (first | (with_reducible first | exact HB.out | apply below_alloc | apply pw_below_drewN | apply below_drew1 | refine below_set ?_ GE528.out) | exact HB.out)))); have n1_ := Aside0.mk (blk_below (g := gb528) (o := .cells #[.int .i64 a0_0, .slice A0_1 l0_1.length c0_1] 24 (0, 0)) (by (with_reducible repeat (first | refine blk_drewN ?_ _ | refine blk_drew ?_ | refine blk_alloc ?_ _)); exact BK528.out) hb); have n2_ := Aside0.mk (below_step (by repeat (first | (with_reducible first | exact HB.out | apply below_alloc | apply pw_below_drewN | apply below_drew1 | refine below_set ?_ GE528.out) | exact HB.out)) hb); clear BK528; clear HB; have HO532 := n0_; have BK528 := n1_; have HB := n2_; clear n0_ n1_ n2_; (try clear hb); (try clear hb2); (try clear hk); (try clear hi); (try clear ho0)) | ((with_reducible refine gate_callee (f := 33) rfl ?_); refine goesL_ (some 25) rfl rfl Tryd.func33 (by kernel_rfl) rfl #[.slice A1 l1.length c1] rfl (by (try simp only [List.map_toArray, List.map_cons, List.map_nil]); first | done | rfl | (simp only [List.length_drop, List.length_take]; rfl)) ?_; (with_reducible refine (wogglelaw07_cut.calls _ _ l1 t534 _ ?side1 ?side2 A4.out).mono ?_); (case side1 => repeat (first | exact (Kd.C_below HR1.out HB.out) | (with_reducible refine Kd.C_alloc ?_ _) | (with_reducible refine Kd.C_drewN ?_ _) | (with_reducible refine Kd.C_drew ?_))); (case side2 => exact HC1.out); rintro e w12 ⟨v535, rfl, ho0, hb⟩; refine ⟨_, rfl, ?_⟩; have n0_ := Aside0.mk (Kd.R_below (by (with_reducible repeat (first | apply Kd.R_alloc | apply Kd.R_drewN | apply Kd.R_drew)); exact HO532.out) hb); have n1_ := Aside0.mk (Kd.R_lower ho0 (below_size (by repeat (first | (with_reducible first | exact HB.out | apply below_alloc | apply pw_below_drewN | apply below_drew1 | refine below_set ?_ GE528.out) | exact HB.out)))); have n2_ := Aside0.mk (blk_below (g := gb528) (o := .cells #[.int .i64 a0_0, .slice A0_1 l0_1.length c0_1] 24 (0, 0)) (by (with_reducible repeat (first | refine blk_drewN ?_ _ | refine blk_drew ?_ | refine blk_alloc ?_ _)); exact BK528.out) hb); have n3_ := Aside0.mk (below_step (by repeat (first | (with_reducible first | exact HB.out | apply below_alloc | apply pw_below_drewN | apply below_drew1 | refine below_set ?_ GE528.out) | exact HB.out)) hb); clear HO532; clear BK528; clear HB; have HO532 := n0_; have HO536 := n1_; have BK528 := n2_; have HB := n3_; clear n0_ n1_ n2_ n3_; (try clear hb); (try clear hb2); (try clear hk); (try clear hi); (try clear ho0); obtain ⟨Ao13, co13, eo13⟩ := Kd.R_slice HO532.out; subst eo13; obtain ⟨Ao14, co14, eo14⟩ := Kd.R_slice HO536.out; subst eo14) | ((with_reducible refine gate_callee (f := 36) rfl ?_); refine goesL_ (some 30) rfl rfl Tryd.func36 (by kernel_rfl) rfl #[.int .i64 t529, .slice Ao13 t530.length co13, .slice Ao14 t534.length co14] rfl (by (try simp only [List.map_toArray, List.map_cons, List.map_nil]); first | done | rfl | (simp only [List.length_drop, List.length_take]; rfl)) ?_; (with_reducible refine (beacon_Codes.calls k t529 _ _ t530 _ _ t534 t537 t538 _ ?side1 ?side2 ?side3 ?side4 A5.out).mono ?_); (case side1 => repeat (first | exact (Kd.R_reads' HO532.out).2.2 | (with_reducible refine Kd.C_alloc ?_ _) | (with_reducible refine Kd.C_drewN ?_ _) | (with_reducible refine Kd.C_drew ?_))); (case side2 => exact (Kd.R_reads' HO532.out).2.1); (case side3 => repeat (first | exact (Kd.R_reads' HO536.out).2.2 | (with_reducible refine Kd.C_alloc ?_ _) | (with_reducible refine Kd.C_drewN ?_ _) | (with_reducible refine Kd.C_drew ?_))); (case side4 => exact (Kd.R_reads' HO536.out).2.1); rintro e w15 ⟨v539, rfl, ho0, hb⟩; refine ⟨_, rfl, ?_⟩; have n0_ := Aside0.mk (Kd.R_below (by (with_reducible repeat (first | apply Kd.R_alloc | apply Kd.R_drewN | apply Kd.R_drew)); exact HO532.out) hb); have n1_ := Aside0.mk (Kd.R_below (by (with_reducible repeat (first | apply Kd.R_alloc | apply Kd.R_drewN | apply Kd.R_drew)); exact HO536.out) hb); have n2_ := Aside0.mk (Kd.S_lower (Kd.S_new' ho0 (Kd.R_lt (by (with_reducible repeat (first | apply Kd.R_alloc | apply Kd.R_drewN | apply Kd.R_drew)); exact HO536.out))) (below_size (by repeat (first | (with_reducible first | exact HB.out | apply below_alloc | apply pw_below_drewN | apply below_drew1 | refine below_set ?_ GE528.out) | exact HB.out)))); have n3_ := Aside0.mk (blk_below (g := gb528) (o := .cells #[.int .i64 a0_0, .slice A0_1 l0_1.length c0_1] 24 (0, 0)) (by (with_reducible repeat (first | refine blk_drewN ?_ _ | refine blk_drew ?_ | refine blk_alloc ?_ _)); exact BK528.out) hb); have n4_ := Aside0.mk (below_step (by repeat (first | (with_reducible first | exact HB.out | apply below_alloc | apply pw_below_drewN | apply below_drew1 | refine below_set ?_ GE528.out) | exact HB.out)) hb); clear HO532; clear HO536; clear BK528; clear HB; have HO532 := n0_; have HO536 := n1_; have HO540 := n2_; have BK528 := n3_; have HB := n4_; clear n0_ n1_ n2_ n3_ n4_; (try clear hb); (try clear hb2); (try clear hk); (try clear hi); (try clear ho0)) | ((with_reducible refine gate_callee (f := 29) rfl ?_); refine goesL_ (some 37) rfl rfl Tryd.func29 (by kernel_rfl) rfl #[.int .i64 t529, .slice Ao13 t530.length co13, .slice Ao14 t534.length co14] rfl (by (try simp only [List.map_toArray, List.map_cons, List.map_nil]); first | done | rfl | (simp only [List.length_drop, List.length_take]; rfl)) ?_; (with_reducible refine (beacon_Resolves.calls k t529 _ _ t530 _ _ t534 t541 t542 _ ?side1 ?side2 ?side3 ?side4 ?sideD A6.out).mono ?_); (case sideD => repeat (first | exact (Door.below HDOOR.out HB.out) | exact HDOOR.out | (with_reducible refine Door.alloc ?_ _) | (with_reducible refine Door.drewN ?_ _) | (with_reducible refine Door.drew ?_))); (case side1 => repeat (first | exact (Kd.R_reads' HO532.out).2.2 | (with_reducible refine Kd.C_alloc ?_ _) | (with_reducible refine Kd.C_drewN ?_ _) | (with_reducible refine Kd.C_drew ?_))); (case side2 => exact (Kd.R_reads' HO532.out).2.1); (case side3 => repeat (first | exact (Kd.R_reads' HO536.out).2.2 | (with_reducible refine Kd.C_alloc ?_ _) | (with_reducible refine Kd.C_drewN ?_ _) | (with_reducible refine Kd.C_drew ?_))); (case side4 => exact (Kd.R_reads' HO536.out).2.1); rintro e w16 ⟨rfl, hb⟩; refine ⟨_, rfl, ?_⟩; have n0_ := Aside0.mk (Kd.R_below (by (with_reducible repeat (first | apply Kd.R_alloc | apply Kd.R_drewN | apply Kd.R_drew)); exact HO532.out) hb); have n1_ := Aside0.mk (Kd.R_below (by (with_reducible repeat (first | apply Kd.R_alloc | apply Kd.R_drewN | apply Kd.R_drew)); exact HO536.out) hb); have n2_ := Aside0.mk (Kd.S_below (by (with_reducible repeat (first | apply Kd.S_alloc | apply Kd.S_drewN | apply Kd.S_drew)); exact HO540.out) hb); have n3_ := Aside0.mk (blk_below (g := gb528) (o := .cells #[.int .i64 a0_0, .slice A0_1 l0_1.length c0_1] 24 (0, 0)) (by (with_reducible repeat (first | refine blk_drewN ?_ _ | refine blk_drew ?_ | refine blk_alloc ?_ _)); exact BK528.out) hb); have n4_ := Aside0.mk (below_step (by repeat (first | (with_reducible first | exact HB.out | apply below_alloc | apply pw_below_drewN | apply below_drew1 | refine below_set ?_ GE528.out) | exact HB.out)) hb); clear HO532; clear HO536; clear HO540; clear BK528; clear HB; have HO532 := n0_; have HO536 := n1_; have HO540 := n2_; have BK528 := n3_; have HB := n4_; clear n0_ n1_ n2_ n3_ n4_; (try clear hb); (try clear hb2); (try clear hk); (try clear hi)) | ((with_reducible refine gate_callee (f := 37) rfl ?_); refine goesL_ (some 44) rfl rfl Tryd.func37 (by kernel_rfl) rfl #[.int .i64 t529, .slice Ao13 t530.length co13, .slice Ao14 t534.length co14] rfl (by (try simp only [List.map_toArray, List.map_cons, List.map_nil]); first | done | rfl | (simp only [List.length_drop, List.length_take]; rfl)) ?_; (with_reducible refine (beacon_Confused.calls k t529 _ _ t530 _ _ t534 t543 t544 _ ?side1 ?side2 ?side3 ?side4 ?sideD A7.out).mono ?_); (case sideD => repeat (first | exact (Door.below HDOOR.out HB.out) | exact HDOOR.out | (with_reducible refine Door.alloc ?_ _) | (with_reducible refine Door.drewN ?_ _) | (with_reducible refine Door.drew ?_))); (case side1 => repeat (first | exact (Kd.R_reads' HO532.out).2.2 | (with_reducible refine Kd.C_alloc ?_ _) | (with_reducible refine Kd.C_drewN ?_ _) | (with_reducible refine Kd.C_drew ?_))); (case side2 => exact (Kd.R_reads' HO532.out).2.1); (case side3 => repeat (first | exact (Kd.R_reads' HO536.out).2.2 | (with_reducible refine Kd.C_alloc ?_ _) | (with_reducible refine Kd.C_drewN ?_ _) | (with_reducible refine Kd.C_drew ?_))); (case side4 => exact (Kd.R_reads' HO536.out).2.1); rintro e w17 ⟨v545, rfl, ho0, hb⟩; refine ⟨_, rfl, ?_⟩; have n0_ := Aside0.mk (Kd.R_below (by (with_reducible repeat (first | apply Kd.R_alloc | apply Kd.R_drewN | apply Kd.R_drew)); exact HO532.out) hb); have n1_ := Aside0.mk (Kd.R_elder' (by (with_reducible repeat (first | apply Kd.R_alloc | apply Kd.R_drewN | apply Kd.R_drew)); exact HO536.out) (Kd.R_base ho0) hb); have n2_ := Aside0.mk (Kd.S_elder' (by (with_reducible repeat (first | apply Kd.S_alloc | apply Kd.S_drewN | apply Kd.S_drew)); exact HO540.out) (Kd.R_base ho0) hb); have n3_ := Aside0.mk (Kd.R_lower (Kd.R_new' ho0 (Kd.R_lt (by (with_reducible repeat (first | apply Kd.R_alloc | apply Kd.R_drewN | apply Kd.R_drew)); exact HO536.out))) (below_size (by repeat (first | (with_reducible first | exact HB.out | apply below_alloc | apply pw_below_drewN | apply below_drew1 | refine below_set ?_ GE528.out) | exact HB.out)))); have n4_ := Aside0.mk (blk_below (g := gb528) (o := .cells #[.int .i64 a0_0, .slice A0_1 l0_1.length c0_1] 24 (0, 0)) (by (with_reducible repeat (first | refine blk_drewN ?_ _ | refine blk_drew ?_ | refine blk_alloc ?_ _)); exact BK528.out) hb); have n5_ := Aside0.mk (below_step (by repeat (first | (with_reducible first | exact HB.out | apply below_alloc | apply pw_below_drewN | apply below_drew1 | refine below_set ?_ GE528.out) | exact HB.out)) hb); clear HO532; clear HO536; clear HO540; clear BK528; clear HB; have HO532 := n0_; have HO536 := n1_; have HO540 := n2_; have HO546 := n3_; have BK528 := n4_; have HB := n5_; clear n0_ n1_ n2_ n3_ n4_ n5_; (try clear hb); (try clear hb2); (try clear hk); (try clear hi); (try clear ho0)))
 (try simp only [Act.put, List.setIfInBounds_toArray, List.set_cons_zero, List.set_cons_succ])
 go_cut [15] (fun v15 wc => ∃ (kq : Nat) (x15_7 : Int), v15 = .int .i64 x15_7 ∧ Aside0 (wogglelaw07_BeaconCodes.j0 kq t529 t530 t534 t537 t538 t541 t542 t543 t544 x15_7 = some r) ∧ Aside0 (kq ≤ k) ∧ Aside0 (Kd.R k47 47 wc w.heap.size (fun _ => True) (.slice Ao13 t530.length co13) t530) ∧ Aside0 (Kd.R (Kd.int .i64) 3 wc w.heap.size (fun k_ => some k_ ≠ (v545 : Value).ownBlock) (.slice Ao14 t534.length co14) t534) ∧ Aside0 (Kd.S (Kd.slice 3 (Kd.int .i64)) 28 wc w.heap.size (fun k_ => some k_ ≠ ((.slice Ao14 t534.length co14) : Value).ownBlock ∧ some k_ ≠ (v545 : Value).ownBlock) v539 t537) ∧ Aside0 (Kd.R (Kd.int .i64) 3 wc w.heap.size (fun k_ => some k_ ≠ ((.slice Ao14 t534.length co14) : Value).ownBlock) v545 t543) ∧ Aside0 (wc.heap[gb528]? = some (.cells #[.int .i64 a0_0, (.slice A0_1 l0_1.length c0_1)] 24 (0, 0))) ∧ Aside0 (Below w.heap.size w wc))
 case first =>
  have H := HC8.out
  clear HC8
  by_cases c18 : t533 = true
  ·subst c18
   have H1 : ((woggleref01_Rising.f k t529 t534).bind fun t547 => (if t547 = true then (wogglelaw07_BeaconCodes.j0 k t529 t530 t534 t537 t538 t541 t542 t543 t544 0) else (wogglelaw07_BeaconCodes.j0 k t529 t530 t534 t537 t538 t541 t542 t543 t544 2))) = some r := by rw [if_pos rfl] at H; exact H
   clear H
   have H := H1
   clear H1
   replace H := Option.bind_eq_some_iff.mp H
   obtain ⟨t547, A190, H⟩ := H
   replace H : (if t547 = true then (wogglelaw07_BeaconCodes.j0 k t529 t530 t534 t537 t538 t541 t542 t543 t544 0) else (wogglelaw07_BeaconCodes.j0 k t529 t530 t534 t537 t538 t541 t542 t543 t544 2)) = some r := H
   have A19 := Aside0.mk A190
   clear A190
   by_cases c20 : t547 = true
   ·subst c20
    have H1 : (wogglelaw07_BeaconCodes.j0 k t529 t530 t534 t537 t538 t541 t542 t543 t544 0) = some r := by rw [if_pos rfl] at H; exact H
    clear H
    have H := H1
    clear H1
    have H' := Aside0.mk H
    clear H
    go_wp2_with (first | ((with_reducible refine gate_callee (f := 28) rfl ?_); refine goesL_ (some 51) rfl rfl Tryd.func28 (by kernel_rfl) rfl #[.int .i64 t529, .slice Ao14 t534.length co14] rfl (by (try simp only [List.map_toArray, List.map_cons, List.map_nil]); first | done | rfl | (simp only [List.length_drop, List.length_take]; rfl)) ?_; (with_reducible refine (woggleref01_Rising.calls k t529 _ _ t534 true _ ?side1 ?side2 A19.out).mono ?_); (case side1 => repeat (first | exact (Kd.R_reads' HO536.out).2.2 | (with_reducible refine Kd.C_alloc ?_ _) | (with_reducible refine Kd.C_drewN ?_ _) | (with_reducible refine Kd.C_drew ?_))); (case side2 => exact (Kd.R_reads' HO536.out).2.1); rintro e w' ⟨rfl, ⟨nd, rfl⟩⟩; refine ⟨_, rfl, ?_⟩))
    go_meet
    case rel => exact ⟨_, (0), (by first | rfl | (simp; done) | (simp [*]; done)), H', ⟨by first | omega | exact Nat.le_refl _⟩, ⟨by (with_reducible repeat (first | apply Kd.R_alloc | apply Kd.R_drewN | apply Kd.R_drew)); exact HO532.out⟩, ⟨by (with_reducible repeat (first | apply Kd.R_alloc | apply Kd.R_drewN | apply Kd.R_drew)); exact Kd.R_mono HO536.out (fun _ hk => hk.2)⟩, ⟨by (with_reducible repeat (first | apply Kd.S_alloc | apply Kd.S_drewN | apply Kd.S_drew)); exact Kd.S_mono HO540.out (fun _ hk => ⟨hk.1.2, hk.2⟩)⟩, ⟨by (with_reducible repeat (first | apply Kd.R_alloc | apply Kd.R_drewN | apply Kd.R_drew)); exact Kd.R_mono HO546.out (fun _ hk => hk.2)⟩, ⟨by (with_reducible repeat (first | refine blk_drewN ?_ _ | refine blk_drew ?_ | refine blk_alloc ?_ _)); exact BK528.out⟩, ⟨by repeat (first | (with_reducible first | exact HB.out | apply below_alloc | apply pw_below_drewN | apply below_drew1 | refine below_set ?_ GE528.out) | exact HB.out)⟩⟩
   ·replace c20 := Bool.eq_false_iff.mpr c20
    subst c20
    have H1 : (wogglelaw07_BeaconCodes.j0 k t529 t530 t534 t537 t538 t541 t542 t543 t544 2) = some r := by rw [if_neg (show ¬ (false = true) by decide)] at H; exact H
    clear H
    have H := H1
    clear H1
    have H' := Aside0.mk H
    clear H
    go_wp2_with (first | ((with_reducible refine gate_callee (f := 28) rfl ?_); refine goesL_ (some 51) rfl rfl Tryd.func28 (by kernel_rfl) rfl #[.int .i64 t529, .slice Ao14 t534.length co14] rfl (by (try simp only [List.map_toArray, List.map_cons, List.map_nil]); first | done | rfl | (simp only [List.length_drop, List.length_take]; rfl)) ?_; (with_reducible refine (woggleref01_Rising.calls k t529 _ _ t534 false _ ?side1 ?side2 A19.out).mono ?_); (case side1 => repeat (first | exact (Kd.R_reads' HO536.out).2.2 | (with_reducible refine Kd.C_alloc ?_ _) | (with_reducible refine Kd.C_drewN ?_ _) | (with_reducible refine Kd.C_drew ?_))); (case side2 => exact (Kd.R_reads' HO536.out).2.1); rintro e w' ⟨rfl, ⟨nd, rfl⟩⟩; refine ⟨_, rfl, ?_⟩))
    go_meet
    case rel => exact ⟨_, (2), (by first | rfl | (simp; done) | (simp [*]; done)), H', ⟨by first | omega | exact Nat.le_refl _⟩, ⟨by (with_reducible repeat (first | apply Kd.R_alloc | apply Kd.R_drewN | apply Kd.R_drew)); exact HO532.out⟩, ⟨by (with_reducible repeat (first | apply Kd.R_alloc | apply Kd.R_drewN | apply Kd.R_drew)); exact Kd.R_mono HO536.out (fun _ hk => hk.2)⟩, ⟨by (with_reducible repeat (first | apply Kd.S_alloc | apply Kd.S_drewN | apply Kd.S_drew)); exact Kd.S_mono HO540.out (fun _ hk => ⟨hk.1.2, hk.2⟩)⟩, ⟨by (with_reducible repeat (first | apply Kd.R_alloc | apply Kd.R_drewN | apply Kd.R_drew)); exact Kd.R_mono HO546.out (fun _ hk => hk.2)⟩, ⟨by (with_reducible repeat (first | refine blk_drewN ?_ _ | refine blk_drew ?_ | refine blk_alloc ?_ _)); exact BK528.out⟩, ⟨by repeat (first | (with_reducible first | exact HB.out | apply below_alloc | apply pw_below_drewN | apply below_drew1 | refine below_set ?_ GE528.out) | exact HB.out)⟩⟩
  ·replace c18 := Bool.eq_false_iff.mpr c18
   subst c18
   have H1 : (wogglelaw07_BeaconCodes.j0 k t529 t530 t534 t537 t538 t541 t542 t543 t544 1) = some r := by rw [if_neg (show ¬ (false = true) by decide)] at H; exact H
   clear H
   have H := H1
   clear H1
   have H' := Aside0.mk H
   clear H
   go_wp2
   go_meet
   case rel => exact ⟨_, (1), (by first | rfl | (simp; done) | (simp [*]; done)), H', ⟨by first | omega | exact Nat.le_refl _⟩, ⟨by (with_reducible repeat (first | apply Kd.R_alloc | apply Kd.R_drewN | apply Kd.R_drew)); exact HO532.out⟩, ⟨by (with_reducible repeat (first | apply Kd.R_alloc | apply Kd.R_drewN | apply Kd.R_drew)); exact Kd.R_mono HO536.out (fun _ hk => hk.2)⟩, ⟨by (with_reducible repeat (first | apply Kd.S_alloc | apply Kd.S_drewN | apply Kd.S_drew)); exact Kd.S_mono HO540.out (fun _ hk => ⟨hk.1.2, hk.2⟩)⟩, ⟨by (with_reducible repeat (first | apply Kd.R_alloc | apply Kd.R_drewN | apply Kd.R_drew)); exact Kd.R_mono HO546.out (fun _ hk => hk.2)⟩, ⟨by (with_reducible repeat (first | refine blk_drewN ?_ _ | refine blk_drew ?_ | refine blk_alloc ?_ _)); exact BK528.out⟩, ⟨by repeat (first | (with_reducible first | exact HB.out | apply below_alloc | apply pw_below_drewN | apply below_drew1 | refine below_set ?_ GE528.out) | exact HB.out)⟩⟩
 case rest =>
  clear HC8
  try clear c1
  try clear c2
  try clear p2
  try clear c3
  try clear c11
  try clear c15
  try clear c18
  try clear c20
  try clear hcz10_0
  try clear hcz10_1
  try clear hfz10_0
  try clear hfz10_1
  obtain ⟨kq, x15_7, rfl, HA, HJ7, HO_6, HO_8, HO_9, HO_13, BK528, HB⟩ := hcut
  cases kq with
  | zero => exact absurd HA.out (by simp [wogglelaw07_BeaconCodes.j0])
  | succ kj7 =>
   have H := HA.out
   clear HA
   simp only [wogglelaw07_BeaconCodes.j0] at H
   by_cases c21 : x15_7 = 0
   ·rw [if_pos c21] at H
    have c21b0 : (x15_7 == 0) = true := beq_iff_eq.mpr c21
    have c21b1 : (x15_7 != 0) = false := bne_eq_false_iff_eq.mpr c21
    clear c21
    replace H := Option.bind_eq_some_iff.mp H
    obtain ⟨t549, A220, H⟩ := H
    replace H : ((woggleref07_Distances.f kj7 t549).bind fun t552 => ((woggleref07_Confused.f kj7 t552 t534).bind fun t555 => ((woggleref07_Codes.f kj7 t552 t534).bind fun t558 => ((woggleref01_SameLists.f kj7 t537 t558).bind fun t561 => (if t561 = true then (if t538 = 0 then (if (t555.length : Int) = 0 then (if (t541 != true) = true then (wogglelaw07_BeaconCodes.j1 kj7 t543 t544 t555 true) else (if t542 = 0 then ((wogglelaw07_lives.f kj7).bind fun t562 => (wogglelaw07_BeaconCodes.j1 kj7 t543 t544 t555 (!t562))) else (wogglelaw07_BeaconCodes.j1 kj7 t543 t544 t555 true))) else (if (t541 != false) = true then (wogglelaw07_BeaconCodes.j1 kj7 t543 t544 t555 true) else (if t542 = 0 then ((wogglelaw07_lives.f kj7).bind fun t563 => (wogglelaw07_BeaconCodes.j1 kj7 t543 t544 t555 (!t563))) else (wogglelaw07_BeaconCodes.j1 kj7 t543 t544 t555 true)))) else (wogglelaw07_BeaconCodes.j1 kj7 t543 t544 t555 true)) else (wogglelaw07_BeaconCodes.j1 kj7 t543 t544 t555 true)))))) = some r := H
    have A22 := Aside0.mk A220
    clear A220
    replace H := Option.bind_eq_some_iff.mp H
    obtain ⟨t552, A230, H⟩ := H
    replace H : ((woggleref07_Confused.f kj7 t552 t534).bind fun t555 => ((woggleref07_Codes.f kj7 t552 t534).bind fun t558 => ((woggleref01_SameLists.f kj7 t537 t558).bind fun t561 => (if t561 = true then (if t538 = 0 then (if (t555.length : Int) = 0 then (if (t541 != true) = true then (wogglelaw07_BeaconCodes.j1 kj7 t543 t544 t555 true) else (if t542 = 0 then ((wogglelaw07_lives.f kj7).bind fun t562 => (wogglelaw07_BeaconCodes.j1 kj7 t543 t544 t555 (!t562))) else (wogglelaw07_BeaconCodes.j1 kj7 t543 t544 t555 true))) else (if (t541 != false) = true then (wogglelaw07_BeaconCodes.j1 kj7 t543 t544 t555 true) else (if t542 = 0 then ((wogglelaw07_lives.f kj7).bind fun t563 => (wogglelaw07_BeaconCodes.j1 kj7 t543 t544 t555 (!t563))) else (wogglelaw07_BeaconCodes.j1 kj7 t543 t544 t555 true)))) else (wogglelaw07_BeaconCodes.j1 kj7 t543 t544 t555 true)) else (wogglelaw07_BeaconCodes.j1 kj7 t543 t544 t555 true))))) = some r := H
    have A23 := Aside0.mk A230
    clear A230
    replace H := Option.bind_eq_some_iff.mp H
    obtain ⟨t555, A240, H⟩ := H
    replace H : ((woggleref07_Codes.f kj7 t552 t534).bind fun t558 => ((woggleref01_SameLists.f kj7 t537 t558).bind fun t561 => (if t561 = true then (if t538 = 0 then (if (t555.length : Int) = 0 then (if (t541 != true) = true then (wogglelaw07_BeaconCodes.j1 kj7 t543 t544 t555 true) else (if t542 = 0 then ((wogglelaw07_lives.f kj7).bind fun t562 => (wogglelaw07_BeaconCodes.j1 kj7 t543 t544 t555 (!t562))) else (wogglelaw07_BeaconCodes.j1 kj7 t543 t544 t555 true))) else (if (t541 != false) = true then (wogglelaw07_BeaconCodes.j1 kj7 t543 t544 t555 true) else (if t542 = 0 then ((wogglelaw07_lives.f kj7).bind fun t563 => (wogglelaw07_BeaconCodes.j1 kj7 t543 t544 t555 (!t563))) else (wogglelaw07_BeaconCodes.j1 kj7 t543 t544 t555 true)))) else (wogglelaw07_BeaconCodes.j1 kj7 t543 t544 t555 true)) else (wogglelaw07_BeaconCodes.j1 kj7 t543 t544 t555 true)))) = some r := H
    have A24 := Aside0.mk A240
    clear A240
    have HC25 := Aside0.mk H
    clear H
    go_upto_region 15 with (first | ((with_reducible refine gate_callee (f := 20) rfl ?_); refine goesL_ (some 85) rfl rfl Tryd.func20 (by kernel_rfl) rfl #[.int .i64 t529, .slice Ao13 t530.length co13] rfl (by (try simp only [List.map_toArray, List.map_cons, List.map_nil]); first | done | rfl | (simp only [List.length_drop, List.length_take]; rfl)) ?_; (with_reducible refine (woggleref06_Near.calls kj7 t529 _ _ t530 t549 _ ?side1 ?side2 A22.out).mono ?_); (case side1 => repeat (first | exact (Kd.R_reads' HO_6.out).2.2 | (with_reducible refine Kd.C_alloc ?_ _) | (with_reducible refine Kd.C_drewN ?_ _) | (with_reducible refine Kd.C_drew ?_))); (case side2 => exact (Kd.R_reads' HO_6.out).2.1); rintro e w26 ⟨v550, rfl, ho0, hb⟩; refine ⟨_, rfl, ?_⟩; have n0_ := Aside0.mk (Kd.R_below (by (with_reducible repeat (first | apply Kd.R_alloc | apply Kd.R_drewN | apply Kd.R_drew)); exact HO_6.out) hb); have n1_ := Aside0.mk (Kd.R_elder' (by (with_reducible repeat (first | apply Kd.R_alloc | apply Kd.R_drewN | apply Kd.R_drew)); exact HO_8.out) (Kd.R_base ho0) hb); have n2_ := Aside0.mk (Kd.S_elder' (by (with_reducible repeat (first | apply Kd.S_alloc | apply Kd.S_drewN | apply Kd.S_drew)); exact HO_9.out) (Kd.R_base ho0) hb); have n3_ := Aside0.mk (Kd.R_elder' (by (with_reducible repeat (first | apply Kd.R_alloc | apply Kd.R_drewN | apply Kd.R_drew)); exact HO_13.out) (Kd.R_base ho0) hb); have n4_ := Aside0.mk (Kd.R_lower (Kd.R_new' (Kd.R_new' ho0 (Kd.R_lt (by (with_reducible repeat (first | apply Kd.R_alloc | apply Kd.R_drewN | apply Kd.R_drew)); exact HO_8.out))) (Kd.R_lt (by (with_reducible repeat (first | apply Kd.R_alloc | apply Kd.R_drewN | apply Kd.R_drew)); exact HO_13.out))) (below_size (by repeat (first | (with_reducible first | exact HB.out | apply below_alloc | apply pw_below_drewN | apply below_drew1 | refine below_set ?_ GE528.out) | exact HB.out)))); have n5_ := Aside0.mk (blk_below (g := gb528) (o := .cells #[.int .i64 a0_0, .slice A0_1 l0_1.length c0_1] 24 (0, 0)) (by (with_reducible repeat (first | refine blk_drewN ?_ _ | refine blk_drew ?_ | refine blk_alloc ?_ _)); exact BK528.out) hb); have n6_ := Aside0.mk (below_step (by repeat (first | (with_reducible first | exact HB.out | apply below_alloc | apply pw_below_drewN | apply below_drew1 | refine below_set ?_ GE528.out) | exact HB.out)) hb); clear HO_6; clear HO_8; clear HO_9; clear HO_13; clear BK528; clear HB; have HO_6 := n0_; have HO_8 := n1_; have HO_9 := n2_; have HO_13 := n3_; have HO551 := n4_; have BK528 := n5_; have HB := n6_; clear n0_ n1_ n2_ n3_ n4_ n5_ n6_; (try clear hb); (try clear hb2); (try clear hk); (try clear hi); (try clear ho0); obtain ⟨Ao27, co27, eo27⟩ := Kd.R_slice HO551.out; subst eo27) | ((with_reducible refine gate_callee (f := 19) rfl ?_); refine goesL_ (some 86) rfl rfl Tryd.func19 (by kernel_rfl) rfl #[.slice Ao27 t549.length co27] rfl (by (try simp only [List.map_toArray, List.map_cons, List.map_nil]); first | done | rfl | (simp only [List.length_drop, List.length_take]; rfl)) ?_; (with_reducible refine (woggleref07_Distances.calls kj7 _ _ t549 t552 _ ?side1 ?side2 A23.out).mono ?_); (case side1 => repeat (first | exact (Kd.R_reads' HO551.out).2.2 | (with_reducible refine Kd.C_alloc ?_ _) | (with_reducible refine Kd.C_drewN ?_ _) | (with_reducible refine Kd.C_drew ?_))); (case side2 => exact (Kd.R_reads' HO551.out).2.1); rintro e w28 ⟨v553, rfl, ho0, hb⟩; refine ⟨_, rfl, ?_⟩; have n0_ := Aside0.mk (Kd.R_below (by (with_reducible repeat (first | apply Kd.R_alloc | apply Kd.R_drewN | apply Kd.R_drew)); exact HO_6.out) hb); have n1_ := Aside0.mk (Kd.R_below (by (with_reducible repeat (first | apply Kd.R_alloc | apply Kd.R_drewN | apply Kd.R_drew)); exact HO_8.out) hb); have n2_ := Aside0.mk (Kd.S_elder' (by (with_reducible repeat (first | apply Kd.S_alloc | apply Kd.S_drewN | apply Kd.S_drew)); exact HO_9.out) (Kd.S_base ho0) hb); have n3_ := Aside0.mk (Kd.R_below (by (with_reducible repeat (first | apply Kd.R_alloc | apply Kd.R_drewN | apply Kd.R_drew)); exact HO_13.out) hb); have n4_ := Aside0.mk (Kd.R_below (by (with_reducible repeat (first | apply Kd.R_alloc | apply Kd.R_drewN | apply Kd.R_drew)); exact HO551.out) hb); have n5_ := Aside0.mk (Kd.S_lower (Kd.S_new' (Kd.S_new' (Kd.S_new' (Kd.S_new' ho0 (Kd.R_lt (by (with_reducible repeat (first | apply Kd.R_alloc | apply Kd.R_drewN | apply Kd.R_drew)); exact HO_8.out))) (Kd.S_lt (by (with_reducible repeat (first | apply Kd.S_alloc | apply Kd.S_drewN | apply Kd.S_drew)); exact HO_9.out))) (Kd.R_lt (by (with_reducible repeat (first | apply Kd.R_alloc | apply Kd.R_drewN | apply Kd.R_drew)); exact HO_13.out))) (Kd.R_lt (by (with_reducible repeat (first | apply Kd.R_alloc | apply Kd.R_drewN | apply Kd.R_drew)); exact HO551.out))) (below_size (by repeat (first | (with_reducible first | exact HB.out | apply below_alloc | apply pw_below_drewN | apply below_drew1 | refine below_set ?_ GE528.out) | exact HB.out)))); have n6_ := Aside0.mk (blk_below (g := gb528) (o := .cells #[.int .i64 a0_0, .slice A0_1 l0_1.length c0_1] 24 (0, 0)) (by (with_reducible repeat (first | refine blk_drewN ?_ _ | refine blk_drew ?_ | refine blk_alloc ?_ _)); exact BK528.out) hb); have n7_ := Aside0.mk (below_step (by repeat (first | (with_reducible first | exact HB.out | apply below_alloc | apply pw_below_drewN | apply below_drew1 | refine below_set ?_ GE528.out) | exact HB.out)) hb); clear HO_6; clear HO_8; clear HO_9; clear HO_13; clear HO551; clear BK528; clear HB; have HO_6 := n0_; have HO_8 := n1_; have HO_9 := n2_; have HO_13 := n3_; have HO551 := n4_; have HO554 := n5_; have BK528 := n6_; have HB := n7_; clear n0_ n1_ n2_ n3_ n4_ n5_ n6_ n7_; (try clear hb); (try clear hb2); (try clear hk); (try clear hi); (try clear ho0); obtain ⟨Ao29, co29, eo29⟩ := Kd.S_slice HO554.out; subst eo29) | ((with_reducible refine gate_callee (f := 38) rfl ?_); refine goesL_ (some 89) rfl rfl Tryd.func38 (by kernel_rfl) rfl #[.slice Ao29 t552.length co29, .slice Ao14 t534.length co14] rfl (by (try simp only [List.map_toArray, List.map_cons, List.map_nil]); first | done | rfl | (simp only [List.length_drop, List.length_take]; rfl)) ?_; (with_reducible refine (woggleref07_Confused.calls kj7 _ _ t552 _ _ t534 t555 _ ?side1 ?side2 ?side3 ?side4 A24.out).mono ?_); (case side1 => repeat (first | exact (Kd.S_reads' HO554.out).2.2 | (with_reducible refine Kd.C_alloc ?_ _) | (with_reducible refine Kd.C_drewN ?_ _) | (with_reducible refine Kd.C_drew ?_))); (case side2 => exact (Kd.S_reads' HO554.out).2.1); (case side3 => repeat (first | exact (Kd.R_reads' HO_8.out).2.2 | (with_reducible refine Kd.C_alloc ?_ _) | (with_reducible refine Kd.C_drewN ?_ _) | (with_reducible refine Kd.C_drew ?_))); (case side4 => exact (Kd.R_reads' HO_8.out).2.1); rintro e w30 ⟨v556, rfl, ho0, hb, hz⟩; refine ⟨_, rfl, ?_⟩; have HZ_v556 := Aside0.mk hz; clear hz; have n0_ := Aside0.mk (Kd.R_below (by (with_reducible repeat (first | apply Kd.R_alloc | apply Kd.R_drewN | apply Kd.R_drew)); exact HO_6.out) hb); have n1_ := Aside0.mk (Kd.R_elder' (by (with_reducible repeat (first | apply Kd.R_alloc | apply Kd.R_drewN | apply Kd.R_drew)); exact HO_8.out) (Kd.R_base ho0) hb); have n2_ := Aside0.mk (Kd.S_elder' (by (with_reducible repeat (first | apply Kd.S_alloc | apply Kd.S_drewN | apply Kd.S_drew)); exact HO_9.out) (Kd.R_base ho0) hb); have n3_ := Aside0.mk (Kd.R_elder' (by (with_reducible repeat (first | apply Kd.R_alloc | apply Kd.R_drewN | apply Kd.R_drew)); exact HO_13.out) (Kd.R_base ho0) hb); have n4_ := Aside0.mk (Kd.R_elder' (by (with_reducible repeat (first | apply Kd.R_alloc | apply Kd.R_drewN | apply Kd.R_drew)); exact HO551.out) (Kd.R_base ho0) hb); have n5_ := Aside0.mk (Kd.S_elder' (by (with_reducible repeat (first | apply Kd.S_alloc | apply Kd.S_drewN | apply Kd.S_drew)); exact HO554.out) (Kd.R_base ho0) hb); have n6_ := Aside0.mk (Kd.R_lower (Kd.R_new' (Kd.R_new' (Kd.R_new' ho0 (Kd.R_lt (by (with_reducible repeat (first | apply Kd.R_alloc | apply Kd.R_drewN | apply Kd.R_drew)); exact HO_8.out))) (Kd.R_lt (by (with_reducible repeat (first | apply Kd.R_alloc | apply Kd.R_drewN | apply Kd.R_drew)); exact HO_13.out))) (Kd.R_lt (by (with_reducible repeat (first | apply Kd.R_alloc | apply Kd.R_drewN | apply Kd.R_drew)); exact HO551.out))) (below_size (by repeat (first | (with_reducible first | exact HB.out | apply below_alloc | apply pw_below_drewN | apply below_drew1 | refine below_set ?_ GE528.out) | exact HB.out)))); have n7_ := Aside0.mk (blk_below (g := gb528) (o := .cells #[.int .i64 a0_0, .slice A0_1 l0_1.length c0_1] 24 (0, 0)) (by (with_reducible repeat (first | refine blk_drewN ?_ _ | refine blk_drew ?_ | refine blk_alloc ?_ _)); exact BK528.out) hb); have n8_ := Aside0.mk (below_step (by repeat (first | (with_reducible first | exact HB.out | apply below_alloc | apply pw_below_drewN | apply below_drew1 | refine below_set ?_ GE528.out) | exact HB.out)) hb); clear HO_6; clear HO_8; clear HO_9; clear HO_13; clear HO551; clear HO554; clear BK528; clear HB; have HO_6 := n0_; have HO_8 := n1_; have HO_9 := n2_; have HO_13 := n3_; have HO551 := n4_; have HO554 := n5_; have HO557 := n6_; have BK528 := n7_; have HB := n8_; clear n0_ n1_ n2_ n3_ n4_ n5_ n6_ n7_ n8_; (try clear hb); (try clear hb2); (try clear hk); (try clear hi); (try clear ho0)))
    (try simp only [Act.put, List.setIfInBounds_toArray, List.set_cons_zero, List.set_cons_succ])
    go_cut [113] (fun v113 wc => ∃ (kq : Nat) (x113_24 : Bool), v113 = .bool x113_24 ∧ Aside0 (wogglelaw07_BeaconCodes.j1 kq t543 t544 t555 x113_24 = some r) ∧ Aside0 (kq ≤ kj7) ∧ Aside0 (Kd.R (Kd.int .i64) 3 wc w.heap.size (fun k_ => some k_ ≠ (v556 : Value).ownBlock) v545 t543) ∧ Aside0 (Kd.R (Kd.int .i64) 3 wc w.heap.size (fun k_ => some k_ ≠ (v545 : Value).ownBlock) v556 t555) ∧ Aside0 (wc.heap[gb528]? = some (.cells #[.int .i64 a0_0, (.slice A0_1 l0_1.length c0_1)] 24 (0, 0))) ∧ Aside0 (Below w.heap.size w wc))
    case first =>
     have H := HC25.out
     clear HC25
     replace H := Option.bind_eq_some_iff.mp H
     obtain ⟨t558, A310, H⟩ := H
     replace H : ((woggleref01_SameLists.f kj7 t537 t558).bind fun t561 => (if t561 = true then (if t538 = 0 then (if (t555.length : Int) = 0 then (if (t541 != true) = true then (wogglelaw07_BeaconCodes.j1 kj7 t543 t544 t555 true) else (if t542 = 0 then ((wogglelaw07_lives.f kj7).bind fun t562 => (wogglelaw07_BeaconCodes.j1 kj7 t543 t544 t555 (!t562))) else (wogglelaw07_BeaconCodes.j1 kj7 t543 t544 t555 true))) else (if (t541 != false) = true then (wogglelaw07_BeaconCodes.j1 kj7 t543 t544 t555 true) else (if t542 = 0 then ((wogglelaw07_lives.f kj7).bind fun t563 => (wogglelaw07_BeaconCodes.j1 kj7 t543 t544 t555 (!t563))) else (wogglelaw07_BeaconCodes.j1 kj7 t543 t544 t555 true)))) else (wogglelaw07_BeaconCodes.j1 kj7 t543 t544 t555 true)) else (wogglelaw07_BeaconCodes.j1 kj7 t543 t544 t555 true))) = some r := H
     have A31 := Aside0.mk A310
     clear A310
     replace H := Option.bind_eq_some_iff.mp H
     obtain ⟨t561, A320, H⟩ := H
     replace H : (if t561 = true then (if t538 = 0 then (if (t555.length : Int) = 0 then (if (t541 != true) = true then (wogglelaw07_BeaconCodes.j1 kj7 t543 t544 t555 true) else (if t542 = 0 then ((wogglelaw07_lives.f kj7).bind fun t562 => (wogglelaw07_BeaconCodes.j1 kj7 t543 t544 t555 (!t562))) else (wogglelaw07_BeaconCodes.j1 kj7 t543 t544 t555 true))) else (if (t541 != false) = true then (wogglelaw07_BeaconCodes.j1 kj7 t543 t544 t555 true) else (if t542 = 0 then ((wogglelaw07_lives.f kj7).bind fun t563 => (wogglelaw07_BeaconCodes.j1 kj7 t543 t544 t555 (!t563))) else (wogglelaw07_BeaconCodes.j1 kj7 t543 t544 t555 true)))) else (wogglelaw07_BeaconCodes.j1 kj7 t543 t544 t555 true)) else (wogglelaw07_BeaconCodes.j1 kj7 t543 t544 t555 true)) = some r := H
     have A32 := Aside0.mk A320
     clear A320
     by_cases c33 : t561 = true
     ·subst c33
      have H1 : (if t538 = 0 then (if (t555.length : Int) = 0 then (if (t541 != true) = true then (wogglelaw07_BeaconCodes.j1 kj7 t543 t544 t555 true) else (if t542 = 0 then ((wogglelaw07_lives.f kj7).bind fun t562 => (wogglelaw07_BeaconCodes.j1 kj7 t543 t544 t555 (!t562))) else (wogglelaw07_BeaconCodes.j1 kj7 t543 t544 t555 true))) else (if (t541 != false) = true then (wogglelaw07_BeaconCodes.j1 kj7 t543 t544 t555 true) else (if t542 = 0 then ((wogglelaw07_lives.f kj7).bind fun t563 => (wogglelaw07_BeaconCodes.j1 kj7 t543 t544 t555 (!t563))) else (wogglelaw07_BeaconCodes.j1 kj7 t543 t544 t555 true)))) else (wogglelaw07_BeaconCodes.j1 kj7 t543 t544 t555 true)) = some r := by rw [if_pos rfl] at H; exact H
      clear H
      have H := H1
      clear H1
      by_cases c34 : t538 = 0
      ·rw [if_pos c34] at H
       have c34b0 : (t538 == 0) = true := beq_iff_eq.mpr c34
       have c34b1 : (t538 != 0) = false := bne_eq_false_iff_eq.mpr c34
       clear c34
       (first | rw [c34b0] | (simp only [i64_w, i32_w]; rw [c34b0]) | skip)
       by_cases c35 : (t555.length : Int) = 0
       ·rw [if_pos c35] at H
        have c35b0 : ((t555.length : Int) == 0) = true := beq_iff_eq.mpr c35
        have c35b1 : ((t555.length : Int) != 0) = false := bne_eq_false_iff_eq.mpr c35
        clear c35
        by_cases c36 : (t541 != true) = true
        ·rw [if_pos c36] at H
         exact (wogglelaw07_BeaconCodes.j1_no H HRR.out).elim
        ·rw [if_neg c36] at H
         have c36b0 : (t541 != true) = false := by simpa using c36
         (try (have c36b1 : decide (t541 = true) = true := by simpa using c36))
         (try (have c36b2 : (t541 == true) = true := by simpa using c36))
         clear c36
         by_cases c42 : t542 = 0
         ·rw [if_pos c42] at H
          have c42b0 : (t542 == 0) = true := beq_iff_eq.mpr c42
          have c42b1 : (t542 != 0) = false := bne_eq_false_iff_eq.mpr c42
          clear c42
          replace H := Option.bind_eq_some_iff.mp H
          obtain ⟨t562, A430, H⟩ := H
          replace H : (wogglelaw07_BeaconCodes.j1 kj7 t543 t544 t555 (!t562)) = some r := H
          have A43 := Aside0.mk A430
          clear A430
          have H' := Aside0.mk H
          clear H
          go_wp2_with (first | ((with_reducible refine gate_callee (f := 35) rfl ?_); refine goesL_ (some 93) rfl rfl Tryd.func35 (by kernel_rfl) rfl #[.slice Ao29 t552.length co29, .slice Ao14 t534.length co14] rfl (by (try simp only [List.map_toArray, List.map_cons, List.map_nil]); first | done | rfl | (simp only [List.length_drop, List.length_take]; rfl)) ?_; (with_reducible refine (woggleref07_Codes.calls kj7 _ _ t552 _ _ t534 t558 _ ?side1 ?side2 ?side3 ?side4 A31.out).mono ?_); (case side1 => repeat (first | exact (Kd.S_reads' HO554.out).2.2 | (with_reducible refine Kd.C_alloc ?_ _) | (with_reducible refine Kd.C_drewN ?_ _) | (with_reducible refine Kd.C_drew ?_))); (case side2 => exact (Kd.S_reads' HO554.out).2.1); (case side3 => repeat (first | exact (Kd.R_reads' HO_8.out).2.2 | (with_reducible refine Kd.C_alloc ?_ _) | (with_reducible refine Kd.C_drewN ?_ _) | (with_reducible refine Kd.C_drew ?_))); (case side4 => exact (Kd.R_reads' HO_8.out).2.1); rintro e w44 ⟨v559, rfl, ho0, hb⟩; refine ⟨_, rfl, ?_⟩; have n0_ := Aside0.mk (Kd.R_below (by (with_reducible repeat (first | apply Kd.R_alloc | apply Kd.R_drewN | apply Kd.R_drew)); exact HO_6.out) hb); have n1_ := Aside0.mk (Kd.R_below (by (with_reducible repeat (first | apply Kd.R_alloc | apply Kd.R_drewN | apply Kd.R_drew)); exact HO_8.out) hb); have n2_ := Aside0.mk (Kd.S_elder' (by (with_reducible repeat (first | apply Kd.S_alloc | apply Kd.S_drewN | apply Kd.S_drew)); exact HO_9.out) (Kd.S_base ho0) hb); have n3_ := Aside0.mk (Kd.R_below (by (with_reducible repeat (first | apply Kd.R_alloc | apply Kd.R_drewN | apply Kd.R_drew)); exact HO_13.out) hb); have n4_ := Aside0.mk (Kd.R_below (by (with_reducible repeat (first | apply Kd.R_alloc | apply Kd.R_drewN | apply Kd.R_drew)); exact HO551.out) hb); have n5_ := Aside0.mk (Kd.S_elder' (by (with_reducible repeat (first | apply Kd.S_alloc | apply Kd.S_drewN | apply Kd.S_drew)); exact HO554.out) (Kd.S_base ho0) hb); have n6_ := Aside0.mk (Kd.R_below (by (with_reducible repeat (first | apply Kd.R_alloc | apply Kd.R_drewN | apply Kd.R_drew)); exact HO557.out) hb); have n7_ := Aside0.mk (Kd.S_lower (Kd.S_new' (Kd.S_new' (Kd.S_new' (Kd.S_new' (Kd.S_new' (Kd.S_new' ho0 (Kd.R_lt (by (with_reducible repeat (first | apply Kd.R_alloc | apply Kd.R_drewN | apply Kd.R_drew)); exact HO_8.out))) (Kd.S_lt (by (with_reducible repeat (first | apply Kd.S_alloc | apply Kd.S_drewN | apply Kd.S_drew)); exact HO_9.out))) (Kd.R_lt (by (with_reducible repeat (first | apply Kd.R_alloc | apply Kd.R_drewN | apply Kd.R_drew)); exact HO_13.out))) (Kd.R_lt (by (with_reducible repeat (first | apply Kd.R_alloc | apply Kd.R_drewN | apply Kd.R_drew)); exact HO551.out))) (Kd.S_lt (by (with_reducible repeat (first | apply Kd.S_alloc | apply Kd.S_drewN | apply Kd.S_drew)); exact HO554.out))) (Kd.R_lt (by (with_reducible repeat (first | apply Kd.R_alloc | apply Kd.R_drewN | apply Kd.R_drew)); exact HO557.out))) (below_size (by repeat (first | (with_reducible first | exact HB.out | apply below_alloc | apply pw_below_drewN | apply below_drew1 | refine below_set ?_ GE528.out) | exact HB.out)))); have n8_ := Aside0.mk (blk_below (g := gb528) (o := .cells #[.int .i64 a0_0, .slice A0_1 l0_1.length c0_1] 24 (0, 0)) (by (with_reducible repeat (first | refine blk_drewN ?_ _ | refine blk_drew ?_ | refine blk_alloc ?_ _)); exact BK528.out) hb); have n9_ := Aside0.mk (below_step (by repeat (first | (with_reducible first | exact HB.out | apply below_alloc | apply pw_below_drewN | apply below_drew1 | refine below_set ?_ GE528.out) | exact HB.out)) hb); clear HO_6; clear HO_8; clear HO_9; clear HO_13; clear HO551; clear HO554; clear HO557; clear BK528; clear HB; have HO_6 := n0_; have HO_8 := n1_; have HO_9 := n2_; have HO_13 := n3_; have HO551 := n4_; have HO554 := n5_; have HO557 := n6_; have HO560 := n7_; have BK528 := n8_; have HB := n9_; clear n0_ n1_ n2_ n3_ n4_ n5_ n6_ n7_ n8_ n9_; (try clear hb); (try clear hb2); (try clear hk); (try clear hi); (try clear ho0); obtain ⟨Ao45, co45, eo45⟩ := Kd.S_slice HO_9.out; subst eo45; obtain ⟨Ao46, co46, eo46⟩ := Kd.S_slice HO560.out; subst eo46) | ((with_reducible refine gate_callee (f := 39) rfl ?_); refine goesL_ (some 94) rfl rfl Tryd.func39 (by kernel_rfl) rfl #[.slice Ao45 t537.length co45, .slice Ao46 t558.length co46] rfl (by (try simp only [List.map_toArray, List.map_cons, List.map_nil]); first | done | rfl | (simp only [List.length_drop, List.length_take]; rfl)) ?_; (with_reducible refine (woggleref01_SameLists.calls kj7 _ _ t537 _ _ t558 true _ ?side1 ?side2 ?side3 ?side4 A32.out).mono ?_); (case side1 => repeat (first | exact (Kd.S_reads' HO_9.out).2.2 | (with_reducible refine Kd.C_alloc ?_ _) | (with_reducible refine Kd.C_drewN ?_ _) | (with_reducible refine Kd.C_drew ?_))); (case side2 => exact (Kd.S_reads' HO_9.out).2.1); (case side3 => repeat (first | exact (Kd.S_reads' HO560.out).2.2 | (with_reducible refine Kd.C_alloc ?_ _) | (with_reducible refine Kd.C_drewN ?_ _) | (with_reducible refine Kd.C_drew ?_))); (case side4 => exact (Kd.S_reads' HO560.out).2.1); rintro e w' ⟨rfl, ⟨nd, rfl⟩⟩; refine ⟨_, rfl, ?_⟩; obtain ⟨Ao47, co47, eo47⟩ := Kd.R_slice HO557.out; subst eo47; have hzz48 : (Ao47 : Option Addr).isNone = true := nil_yes HZ_v556.out (by first | assumption | (rw [beq_iff_eq]; omega)); have hyz48 := fun W : World => nil_eql (P := Tryd.prog) W 28 3 Ao47 t555.length co47 Tryd.underlying28 hzz48) | (go_at_call 16; (with_reducible refine (wogglelaw07_lives.calls kj7  t562 _ ?sideD A43.out).mono ?_); (case sideD => repeat (first | exact (Door.below HDOOR.out HB.out) | exact HDOOR.out | (with_reducible refine Door.alloc ?_ _) | (with_reducible refine Door.drewN ?_ _) | (with_reducible refine Door.drew ?_))); rintro e w49 ⟨rfl, hb⟩; have n0_ := Aside0.mk (Kd.R_below (by (with_reducible repeat (first | apply Kd.R_alloc | apply Kd.R_drewN | apply Kd.R_drew)); exact HO_6.out) hb); have n1_ := Aside0.mk (Kd.R_below (by (with_reducible repeat (first | apply Kd.R_alloc | apply Kd.R_drewN | apply Kd.R_drew)); exact HO_8.out) hb); have n2_ := Aside0.mk (Kd.S_below (by (with_reducible repeat (first | apply Kd.S_alloc | apply Kd.S_drewN | apply Kd.S_drew)); exact HO_9.out) hb); have n3_ := Aside0.mk (Kd.R_below (by (with_reducible repeat (first | apply Kd.R_alloc | apply Kd.R_drewN | apply Kd.R_drew)); exact HO_13.out) hb); have n4_ := Aside0.mk (Kd.R_below (by (with_reducible repeat (first | apply Kd.R_alloc | apply Kd.R_drewN | apply Kd.R_drew)); exact HO551.out) hb); have n5_ := Aside0.mk (Kd.S_below (by (with_reducible repeat (first | apply Kd.S_alloc | apply Kd.S_drewN | apply Kd.S_drew)); exact HO554.out) hb); have n6_ := Aside0.mk (Kd.R_below (by (with_reducible repeat (first | apply Kd.R_alloc | apply Kd.R_drewN | apply Kd.R_drew)); exact HO557.out) hb); have n7_ := Aside0.mk (Kd.S_below (by (with_reducible repeat (first | apply Kd.S_alloc | apply Kd.S_drewN | apply Kd.S_drew)); exact HO560.out) hb); have n8_ := Aside0.mk (blk_below (g := gb528) (o := .cells #[.int .i64 a0_0, .slice A0_1 l0_1.length c0_1] 24 (0, 0)) (by (with_reducible repeat (first | refine blk_drewN ?_ _ | refine blk_drew ?_ | refine blk_alloc ?_ _)); exact BK528.out) hb); have n9_ := Aside0.mk (below_step (by repeat (first | (with_reducible first | exact HB.out | apply below_alloc | apply pw_below_drewN | apply below_drew1 | refine below_set ?_ GE528.out) | exact HB.out)) hb); clear HO_6; clear HO_8; clear HO_9; clear HO_13; clear HO551; clear HO554; clear HO557; clear HO560; clear BK528; clear HB; have HO_6 := n0_; have HO_8 := n1_; have HO_9 := n2_; have HO_13 := n3_; have HO551 := n4_; have HO554 := n5_; have HO557 := n6_; have HO560 := n7_; have BK528 := n8_; have HB := n9_; clear n0_ n1_ n2_ n3_ n4_ n5_ n6_ n7_ n8_ n9_; (try clear hb); (try clear hb2); (try clear hk); (try clear hi)))
          go_meet
          case rel => exact ⟨_, (!t562), (by first | rfl | (simp; done) | (simp [*]; done)), H', ⟨by have := HJ7.out; first | omega | exact Nat.le_refl _⟩, ⟨by (with_reducible repeat (first | apply Kd.R_alloc | apply Kd.R_drewN | apply Kd.R_drew)); exact Kd.R_mono HO_13.out (fun _ hk => hk.2)⟩, ⟨by (with_reducible repeat (first | apply Kd.R_alloc | apply Kd.R_drewN | apply Kd.R_drew)); exact Kd.R_mono HO557.out (fun _ hk => hk.1.2)⟩, ⟨by (with_reducible repeat (first | refine blk_drewN ?_ _ | refine blk_drew ?_ | refine blk_alloc ?_ _)); exact BK528.out⟩, ⟨by repeat (first | (with_reducible first | exact HB.out | apply below_alloc | apply pw_below_drewN | apply below_drew1 | refine below_set ?_ GE528.out) | exact HB.out)⟩⟩
         ·rw [if_neg c42] at H
          exact (wogglelaw07_BeaconCodes.j1_no H HRR.out).elim
       ·rw [if_neg c35] at H
        have c35b0 : ((t555.length : Int) == 0) = false := beq_eq_false_iff_ne.mpr c35
        have c35b1 : ((t555.length : Int) != 0) = true := bne_iff_ne.mpr c35
        have c35b2 : ¬ (t555 = []) := fun h_ => c35 (by rw [h_]; rfl)
        by_cases c55 : (t541 != false) = true
        ·rw [if_pos c55] at H
         exact (wogglelaw07_BeaconCodes.j1_no H HRR.out).elim
        ·rw [if_neg c55] at H
         have c55b0 : (t541 != false) = false := by simpa using c55
         (try (have c55b1 : decide (t541 = false) = true := by simpa using c55))
         (try (have c55b2 : (t541 == false) = true := by simpa using c55))
         clear c55
         by_cases c61 : t542 = 0
         ·rw [if_pos c61] at H
          have c61b0 : (t542 == 0) = true := beq_iff_eq.mpr c61
          have c61b1 : (t542 != 0) = false := bne_eq_false_iff_eq.mpr c61
          clear c61
          replace H := Option.bind_eq_some_iff.mp H
          obtain ⟨t563, A620, H⟩ := H
          replace H : (wogglelaw07_BeaconCodes.j1 kj7 t543 t544 t555 (!t563)) = some r := H
          have A62 := Aside0.mk A620
          clear A620
          have H' := Aside0.mk H
          clear H
          go_wp2_with (first | ((with_reducible refine gate_callee (f := 35) rfl ?_); refine goesL_ (some 93) rfl rfl Tryd.func35 (by kernel_rfl) rfl #[.slice Ao29 t552.length co29, .slice Ao14 t534.length co14] rfl (by (try simp only [List.map_toArray, List.map_cons, List.map_nil]); first | done | rfl | (simp only [List.length_drop, List.length_take]; rfl)) ?_; (with_reducible refine (woggleref07_Codes.calls kj7 _ _ t552 _ _ t534 t558 _ ?side1 ?side2 ?side3 ?side4 A31.out).mono ?_); (case side1 => repeat (first | exact (Kd.S_reads' HO554.out).2.2 | (with_reducible refine Kd.C_alloc ?_ _) | (with_reducible refine Kd.C_drewN ?_ _) | (with_reducible refine Kd.C_drew ?_))); (case side2 => exact (Kd.S_reads' HO554.out).2.1); (case side3 => repeat (first | exact (Kd.R_reads' HO_8.out).2.2 | (with_reducible refine Kd.C_alloc ?_ _) | (with_reducible refine Kd.C_drewN ?_ _) | (with_reducible refine Kd.C_drew ?_))); (case side4 => exact (Kd.R_reads' HO_8.out).2.1); rintro e w63 ⟨v559, rfl, ho0, hb⟩; refine ⟨_, rfl, ?_⟩; have n0_ := Aside0.mk (Kd.R_below (by (with_reducible repeat (first | apply Kd.R_alloc | apply Kd.R_drewN | apply Kd.R_drew)); exact HO_6.out) hb); have n1_ := Aside0.mk (Kd.R_below (by (with_reducible repeat (first | apply Kd.R_alloc | apply Kd.R_drewN | apply Kd.R_drew)); exact HO_8.out) hb); have n2_ := Aside0.mk (Kd.S_elder' (by (with_reducible repeat (first | apply Kd.S_alloc | apply Kd.S_drewN | apply Kd.S_drew)); exact HO_9.out) (Kd.S_base ho0) hb); have n3_ := Aside0.mk (Kd.R_below (by (with_reducible repeat (first | apply Kd.R_alloc | apply Kd.R_drewN | apply Kd.R_drew)); exact HO_13.out) hb); have n4_ := Aside0.mk (Kd.R_below (by (with_reducible repeat (first | apply Kd.R_alloc | apply Kd.R_drewN | apply Kd.R_drew)); exact HO551.out) hb); have n5_ := Aside0.mk (Kd.S_elder' (by (with_reducible repeat (first | apply Kd.S_alloc | apply Kd.S_drewN | apply Kd.S_drew)); exact HO554.out) (Kd.S_base ho0) hb); have n6_ := Aside0.mk (Kd.R_below (by (with_reducible repeat (first | apply Kd.R_alloc | apply Kd.R_drewN | apply Kd.R_drew)); exact HO557.out) hb); have n7_ := Aside0.mk (Kd.S_lower (Kd.S_new' (Kd.S_new' (Kd.S_new' (Kd.S_new' (Kd.S_new' (Kd.S_new' ho0 (Kd.R_lt (by (with_reducible repeat (first | apply Kd.R_alloc | apply Kd.R_drewN | apply Kd.R_drew)); exact HO_8.out))) (Kd.S_lt (by (with_reducible repeat (first | apply Kd.S_alloc | apply Kd.S_drewN | apply Kd.S_drew)); exact HO_9.out))) (Kd.R_lt (by (with_reducible repeat (first | apply Kd.R_alloc | apply Kd.R_drewN | apply Kd.R_drew)); exact HO_13.out))) (Kd.R_lt (by (with_reducible repeat (first | apply Kd.R_alloc | apply Kd.R_drewN | apply Kd.R_drew)); exact HO551.out))) (Kd.S_lt (by (with_reducible repeat (first | apply Kd.S_alloc | apply Kd.S_drewN | apply Kd.S_drew)); exact HO554.out))) (Kd.R_lt (by (with_reducible repeat (first | apply Kd.R_alloc | apply Kd.R_drewN | apply Kd.R_drew)); exact HO557.out))) (below_size (by repeat (first | (with_reducible first | exact HB.out | apply below_alloc | apply pw_below_drewN | apply below_drew1 | refine below_set ?_ GE528.out) | exact HB.out)))); have n8_ := Aside0.mk (blk_below (g := gb528) (o := .cells #[.int .i64 a0_0, .slice A0_1 l0_1.length c0_1] 24 (0, 0)) (by (with_reducible repeat (first | refine blk_drewN ?_ _ | refine blk_drew ?_ | refine blk_alloc ?_ _)); exact BK528.out) hb); have n9_ := Aside0.mk (below_step (by repeat (first | (with_reducible first | exact HB.out | apply below_alloc | apply pw_below_drewN | apply below_drew1 | refine below_set ?_ GE528.out) | exact HB.out)) hb); clear HO_6; clear HO_8; clear HO_9; clear HO_13; clear HO551; clear HO554; clear HO557; clear BK528; clear HB; have HO_6 := n0_; have HO_8 := n1_; have HO_9 := n2_; have HO_13 := n3_; have HO551 := n4_; have HO554 := n5_; have HO557 := n6_; have HO560 := n7_; have BK528 := n8_; have HB := n9_; clear n0_ n1_ n2_ n3_ n4_ n5_ n6_ n7_ n8_ n9_; (try clear hb); (try clear hb2); (try clear hk); (try clear hi); (try clear ho0); obtain ⟨Ao64, co64, eo64⟩ := Kd.S_slice HO_9.out; subst eo64; obtain ⟨Ao65, co65, eo65⟩ := Kd.S_slice HO560.out; subst eo65) | ((with_reducible refine gate_callee (f := 39) rfl ?_); refine goesL_ (some 94) rfl rfl Tryd.func39 (by kernel_rfl) rfl #[.slice Ao64 t537.length co64, .slice Ao65 t558.length co65] rfl (by (try simp only [List.map_toArray, List.map_cons, List.map_nil]); first | done | rfl | (simp only [List.length_drop, List.length_take]; rfl)) ?_; (with_reducible refine (woggleref01_SameLists.calls kj7 _ _ t537 _ _ t558 true _ ?side1 ?side2 ?side3 ?side4 A32.out).mono ?_); (case side1 => repeat (first | exact (Kd.S_reads' HO_9.out).2.2 | (with_reducible refine Kd.C_alloc ?_ _) | (with_reducible refine Kd.C_drewN ?_ _) | (with_reducible refine Kd.C_drew ?_))); (case side2 => exact (Kd.S_reads' HO_9.out).2.1); (case side3 => repeat (first | exact (Kd.S_reads' HO560.out).2.2 | (with_reducible refine Kd.C_alloc ?_ _) | (with_reducible refine Kd.C_drewN ?_ _) | (with_reducible refine Kd.C_drew ?_))); (case side4 => exact (Kd.S_reads' HO560.out).2.1); rintro e w' ⟨rfl, ⟨nd, rfl⟩⟩; refine ⟨_, rfl, ?_⟩; obtain ⟨Ao66, co66, eo66⟩ := Kd.R_slice HO557.out; subst eo66; have hzz67 : (Ao66 : Option Addr).isNone = false := nil_no (Kd.R_reads' HO557.out).2.2 (by first | assumption | (rw [beq_eq_false_iff_ne]; omega)); have hyz67 := fun W : World => nil_eql (P := Tryd.prog) W 28 3 Ao66 t555.length co66 Tryd.underlying28 hzz67) | (go_at_call 16; (with_reducible refine (wogglelaw07_lives.calls kj7  t563 _ ?sideD A62.out).mono ?_); (case sideD => repeat (first | exact (Door.below HDOOR.out HB.out) | exact HDOOR.out | (with_reducible refine Door.alloc ?_ _) | (with_reducible refine Door.drewN ?_ _) | (with_reducible refine Door.drew ?_))); rintro e w68 ⟨rfl, hb⟩; have n0_ := Aside0.mk (Kd.R_below (by (with_reducible repeat (first | apply Kd.R_alloc | apply Kd.R_drewN | apply Kd.R_drew)); exact HO_6.out) hb); have n1_ := Aside0.mk (Kd.R_below (by (with_reducible repeat (first | apply Kd.R_alloc | apply Kd.R_drewN | apply Kd.R_drew)); exact HO_8.out) hb); have n2_ := Aside0.mk (Kd.S_below (by (with_reducible repeat (first | apply Kd.S_alloc | apply Kd.S_drewN | apply Kd.S_drew)); exact HO_9.out) hb); have n3_ := Aside0.mk (Kd.R_below (by (with_reducible repeat (first | apply Kd.R_alloc | apply Kd.R_drewN | apply Kd.R_drew)); exact HO_13.out) hb); have n4_ := Aside0.mk (Kd.R_below (by (with_reducible repeat (first | apply Kd.R_alloc | apply Kd.R_drewN | apply Kd.R_drew)); exact HO551.out) hb); have n5_ := Aside0.mk (Kd.S_below (by (with_reducible repeat (first | apply Kd.S_alloc | apply Kd.S_drewN | apply Kd.S_drew)); exact HO554.out) hb); have n6_ := Aside0.mk (Kd.R_below (by (with_reducible repeat (first | apply Kd.R_alloc | apply Kd.R_drewN | apply Kd.R_drew)); exact HO557.out) hb); have n7_ := Aside0.mk (Kd.S_below (by (with_reducible repeat (first | apply Kd.S_alloc | apply Kd.S_drewN | apply Kd.S_drew)); exact HO560.out) hb); have n8_ := Aside0.mk (blk_below (g := gb528) (o := .cells #[.int .i64 a0_0, .slice A0_1 l0_1.length c0_1] 24 (0, 0)) (by (with_reducible repeat (first | refine blk_drewN ?_ _ | refine blk_drew ?_ | refine blk_alloc ?_ _)); exact BK528.out) hb); have n9_ := Aside0.mk (below_step (by repeat (first | (with_reducible first | exact HB.out | apply below_alloc | apply pw_below_drewN | apply below_drew1 | refine below_set ?_ GE528.out) | exact HB.out)) hb); clear HO_6; clear HO_8; clear HO_9; clear HO_13; clear HO551; clear HO554; clear HO557; clear HO560; clear BK528; clear HB; have HO_6 := n0_; have HO_8 := n1_; have HO_9 := n2_; have HO_13 := n3_; have HO551 := n4_; have HO554 := n5_; have HO557 := n6_; have HO560 := n7_; have BK528 := n8_; have HB := n9_; clear n0_ n1_ n2_ n3_ n4_ n5_ n6_ n7_ n8_ n9_; (try clear hb); (try clear hb2); (try clear hk); (try clear hi)))
          go_meet
          case rel => exact ⟨_, (!t563), (by first | rfl | (simp; done) | (simp [*]; done)), H', ⟨by have := HJ7.out; first | omega | exact Nat.le_refl _⟩, ⟨by (with_reducible repeat (first | apply Kd.R_alloc | apply Kd.R_drewN | apply Kd.R_drew)); exact Kd.R_mono HO_13.out (fun _ hk => hk.2)⟩, ⟨by (with_reducible repeat (first | apply Kd.R_alloc | apply Kd.R_drewN | apply Kd.R_drew)); exact Kd.R_mono HO557.out (fun _ hk => hk.1.2)⟩, ⟨by (with_reducible repeat (first | refine blk_drewN ?_ _ | refine blk_drew ?_ | refine blk_alloc ?_ _)); exact BK528.out⟩, ⟨by repeat (first | (with_reducible first | exact HB.out | apply below_alloc | apply pw_below_drewN | apply below_drew1 | refine below_set ?_ GE528.out) | exact HB.out)⟩⟩
         ·rw [if_neg c61] at H
          exact (wogglelaw07_BeaconCodes.j1_no H HRR.out).elim
      ·rw [if_neg c34] at H
       exact (wogglelaw07_BeaconCodes.j1_no H HRR.out).elim
     ·replace c33 := Bool.eq_false_iff.mpr c33
      subst c33
      have H1 : (wogglelaw07_BeaconCodes.j1 kj7 t543 t544 t555 true) = some r := by rw [if_neg (show ¬ (false = true) by decide)] at H; exact H
      clear H
      have H := H1
      clear H1
      exact (wogglelaw07_BeaconCodes.j1_no H HRR.out).elim
    case rest =>
     clear HC25
     try clear c1
     try clear c2
     try clear p2
     try clear c3
     try clear c4
     try clear c5
     try clear c6
     try clear c11
     try clear c15
     try clear c18
     try clear c19
     try clear c20
     try clear c21
     try clear c21b0
     try clear c21b1
     try clear c28
     try clear c29
     try clear c33
     try clear c34
     try clear c34b0
     try clear c34b1
     try clear c35
     try clear c35b0
     try clear c35b1
     try clear c35b2
     try clear c36
     try clear c36b0
     try clear c36b1
     try clear c36b2
     try clear c37
     try clear c38
     try clear c39
     try clear c42
     try clear c42b0
     try clear c42b1
     try clear c55
     try clear c55b0
     try clear c55b1
     try clear c55b2
     try clear c61
     try clear c61b0
     try clear c61b1
     try clear hcz10_0
     try clear hcz10_1
     try clear hfz10_0
     try clear hfz10_1
     try clear p2
     obtain ⟨kq, x113_24, rfl, HA, HJ24, HO_13, HO_17, BK528, HB⟩ := hcut
     cases kq with
     | zero => exact absurd HA.out (by simp [wogglelaw07_BeaconCodes.j1])
     | succ kj24 =>
      have H := HA.out
      clear HA
      simp only [wogglelaw07_BeaconCodes.j1] at H
      by_cases c80 : x113_24 = true
      ·subst c80
       have H1 : (some false) = some r := by rw [if_pos rfl] at H; exact H
       clear H
       have H := H1
       clear H1
       exact (no_true_ H HRR.out).elim
      ·replace c80 := Bool.eq_false_iff.mpr c80
       subst c80
       have H1 : (if (t555.length : Int) = 0 then (if (t543.length : Int) = 0 then (some (t544 == 5)) else (some false)) else ((woggleref01_Same.f kj24 t543 t555).bind fun t564 => (if t564 = true then (some (t544 == 0)) else (some false)))) = some r := by rw [if_neg (show ¬ (false = true) by decide)] at H; exact H
       clear H
       have H := H1
       clear H1
       by_cases c81 : (t555.length : Int) = 0
       ·rw [if_pos c81] at H
        have c81b0 : ((t555.length : Int) == 0) = true := beq_iff_eq.mpr c81
        have c81b1 : ((t555.length : Int) != 0) = false := bne_eq_false_iff_eq.mpr c81
        clear c81
        by_cases c82 : (t543.length : Int) = 0
        ·rw [if_pos c82] at H
         have c82b0 : ((t543.length : Int) == 0) = true := beq_iff_eq.mpr c82
         have c82b1 : ((t543.length : Int) != 0) = false := bne_eq_false_iff_eq.mpr c82
         clear c82
         obtain rfl := Option.some.inj H
         obtain ⟨Ao83, co83, eo83⟩ := Kd.R_slice HO_17.out
         subst eo83
         have hzz84 : (Ao83 : Option Addr).isNone = true := nil_yes HZ_v556.out (by first | assumption | (rw [beq_iff_eq]; omega))
         have hyz84 := fun W : World => nil_eql (P := Tryd.prog) W 28 3 Ao83 t555.length co83 Tryd.underlying28 hzz84
         obtain ⟨Ao85, co85, eo85⟩ := Kd.R_slice HO_13.out
         subst eo85
         go_wp2
         go_ret
         exact ⟨by first | rfl | (simp [errW_none, errW_some] <;> rfl) | (simp [*, errW_none, errW_some] <;> rfl), by repeat (first | (with_reducible first | exact HB.out | apply below_alloc | apply pw_below_drewN | apply below_drew1 | refine below_set ?_ GE528.out) | exact HB.out)⟩
        ·rw [if_neg c82] at H
         exact (no_true_ H HRR.out).elim
       ·rw [if_neg c81] at H
        have c81b0 : ((t555.length : Int) == 0) = false := beq_eq_false_iff_ne.mpr c81
        have c81b1 : ((t555.length : Int) != 0) = true := bne_iff_ne.mpr c81
        have c81b2 : ¬ (t555 = []) := fun h_ => c81 (by rw [h_]; rfl)
        replace H := Option.bind_eq_some_iff.mp H
        obtain ⟨t564, A890, H⟩ := H
        replace H : (if t564 = true then (some (t544 == 0)) else (some false)) = some r := H
        have A89 := Aside0.mk A890
        clear A890
        by_cases c90 : t564 = true
        ·subst c90
         have H1 : (some (t544 == 0)) = some r := by rw [if_pos rfl] at H; exact H
         clear H
         have H := H1
         clear H1
         obtain rfl := Option.some.inj H
         obtain ⟨Ao91, co91, eo91⟩ := Kd.R_slice HO_17.out
         subst eo91
         have hzz92 : (Ao91 : Option Addr).isNone = false := nil_no (Kd.R_reads' HO_17.out).2.2 (by first | assumption | (rw [beq_eq_false_iff_ne]; omega))
         have hyz92 := fun W : World => nil_eql (P := Tryd.prog) W 28 3 Ao91 t555.length co91 Tryd.underlying28 hzz92
         obtain ⟨Ao93, co93, eo93⟩ := Kd.R_slice HO_13.out
         subst eo93
         go_wp2_with (first | ((with_reducible refine gate_callee (f := 21) rfl ?_); refine goesL_ (some 125) rfl rfl Tryd.func21 (by kernel_rfl) rfl #[.slice Ao93 t543.length co93, .slice Ao91 t555.length co91] rfl (by (try simp only [List.map_toArray, List.map_cons, List.map_nil]); first | done | rfl | (simp only [List.length_drop, List.length_take]; rfl)) ?_; (with_reducible refine (woggleref01_Same.calls kj24 _ _ t543 _ _ t555 true _ ?side1 ?side2 ?side3 ?side4 A89.out).mono ?_); (case side1 => repeat (first | exact (Kd.R_reads' HO_13.out).2.2 | (with_reducible refine Kd.C_alloc ?_ _) | (with_reducible refine Kd.C_drewN ?_ _) | (with_reducible refine Kd.C_drew ?_))); (case side2 => exact (Kd.R_reads' HO_13.out).2.1); (case side3 => repeat (first | exact (Kd.R_reads' HO_17.out).2.2 | (with_reducible refine Kd.C_alloc ?_ _) | (with_reducible refine Kd.C_drewN ?_ _) | (with_reducible refine Kd.C_drew ?_))); (case side4 => exact (Kd.R_reads' HO_17.out).2.1); rintro e w' ⟨rfl, ⟨nd, rfl⟩⟩; refine ⟨_, rfl, ?_⟩))
         go_ret
         exact ⟨by first | rfl | (simp [errW_none, errW_some] <;> rfl) | (simp [*, errW_none, errW_some] <;> rfl), by repeat (first | (with_reducible first | exact HB.out | apply below_alloc | apply pw_below_drewN | apply below_drew1 | refine below_set ?_ GE528.out) | exact HB.out)⟩
        ·replace c90 := Bool.eq_false_iff.mpr c90
         subst c90
         have H1 : (some false) = some r := by rw [if_neg (show ¬ (false = true) by decide)] at H; exact H
         clear H
         have H := H1
         clear H1
         exact (no_true_ H HRR.out).elim
   ·rw [if_neg c21] at H
    have c21b0 : (x15_7 == 0) = false := beq_eq_false_iff_ne.mpr c21
    have c21b1 : (x15_7 != 0) = true := bne_iff_ne.mpr c21
    by_cases c97 : (wrap64 ((t537.length : Int) + (t543.length : Int))) = 0
    ·rw [if_pos c97] at H
     have c97b0 : ((wrap64 ((t537.length : Int) + (t543.length : Int))) == 0) = true := beq_iff_eq.mpr c97
     have c97b1 : ((wrap64 ((t537.length : Int) + (t543.length : Int))) != 0) = false := bne_eq_false_iff_eq.mpr c97
     clear c97
     by_cases c98 : t541 = true
     ·subst c98
      have H1 : (some false) = some r := by rw [if_pos rfl] at H; exact H
      clear H
      have H := H1
      clear H1
      exact (no_true_ H HRR.out).elim
     ·replace c98 := Bool.eq_false_iff.mpr c98
      subst c98
      have H1 : (if t538 = x15_7 then (if t542 = x15_7 then (if t544 = x15_7 then ((wogglelaw07_lives.f kj7).bind fun t548 => (some t548)) else (some false)) else (some false)) else (some false)) = some r := by rw [if_neg (show ¬ (false = true) by decide)] at H; exact H
      clear H
      have H := H1
      clear H1
      by_cases c101 : t538 = x15_7
      ·rw [if_pos c101] at H
       have c101b0 : (t538 == x15_7) = true := beq_iff_eq.mpr c101
       have c101b1 : (t538 != x15_7) = false := bne_eq_false_iff_eq.mpr c101
       clear c101
       by_cases c102 : t542 = x15_7
       ·rw [if_pos c102] at H
        have c102b0 : (t542 == x15_7) = true := beq_iff_eq.mpr c102
        have c102b1 : (t542 != x15_7) = false := bne_eq_false_iff_eq.mpr c102
        clear c102
        by_cases c103 : t544 = x15_7
        ·rw [if_pos c103] at H
         have c103b0 : (t544 == x15_7) = true := beq_iff_eq.mpr c103
         have c103b1 : (t544 != x15_7) = false := bne_eq_false_iff_eq.mpr c103
         clear c103
         replace H := Option.bind_eq_some_iff.mp H
         obtain ⟨t548, A1040, H⟩ := H
         replace H : (some t548) = some r := H
         have A104 := Aside0.mk A1040
         clear A1040
         obtain rfl := Option.some.inj H
         obtain ⟨Ao105, co105, eo105⟩ := Kd.S_slice HO_9.out
         subst eo105
         obtain ⟨Ao106, co106, eo106⟩ := Kd.R_slice HO_13.out
         subst eo106
         go_wp2_with (first | (go_at_call 16; (with_reducible refine (wogglelaw07_lives.calls kj7  t548 _ ?sideD A104.out).mono ?_); (case sideD => repeat (first | exact (Door.below HDOOR.out HB.out) | exact HDOOR.out | (with_reducible refine Door.alloc ?_ _) | (with_reducible refine Door.drewN ?_ _) | (with_reducible refine Door.drew ?_))); rintro e w107 ⟨rfl, hb⟩; have n0_ := Aside0.mk (Kd.R_below (by (with_reducible repeat (first | apply Kd.R_alloc | apply Kd.R_drewN | apply Kd.R_drew)); exact HO_6.out) hb); have n1_ := Aside0.mk (Kd.R_below (by (with_reducible repeat (first | apply Kd.R_alloc | apply Kd.R_drewN | apply Kd.R_drew)); exact HO_8.out) hb); have n2_ := Aside0.mk (Kd.S_below (by (with_reducible repeat (first | apply Kd.S_alloc | apply Kd.S_drewN | apply Kd.S_drew)); exact HO_9.out) hb); have n3_ := Aside0.mk (Kd.R_below (by (with_reducible repeat (first | apply Kd.R_alloc | apply Kd.R_drewN | apply Kd.R_drew)); exact HO_13.out) hb); have n4_ := Aside0.mk (blk_below (g := gb528) (o := .cells #[.int .i64 a0_0, .slice A0_1 l0_1.length c0_1] 24 (0, 0)) (by (with_reducible repeat (first | refine blk_drewN ?_ _ | refine blk_drew ?_ | refine blk_alloc ?_ _)); exact BK528.out) hb); have n5_ := Aside0.mk (below_step (by repeat (first | (with_reducible first | exact HB.out | apply below_alloc | apply pw_below_drewN | apply below_drew1 | refine below_set ?_ GE528.out) | exact HB.out)) hb); clear HO_6; clear HO_8; clear HO_9; clear HO_13; clear BK528; clear HB; have HO_6 := n0_; have HO_8 := n1_; have HO_9 := n2_; have HO_13 := n3_; have BK528 := n4_; have HB := n5_; clear n0_ n1_ n2_ n3_ n4_ n5_; (try clear hb); (try clear hb2); (try clear hk); (try clear hi)))
         go_ret
         exact ⟨by first | rfl | (simp [errW_none, errW_some] <;> rfl) | (simp [*, errW_none, errW_some] <;> rfl), by repeat (first | (with_reducible first | exact HB.out | apply below_alloc | apply pw_below_drewN | apply below_drew1 | refine below_set ?_ GE528.out) | exact HB.out)⟩
        ·rw [if_neg c103] at H
         exact (no_true_ H HRR.out).elim
       ·rw [if_neg c102] at H
        exact (no_true_ H HRR.out).elim
      ·rw [if_neg c101] at H
       exact (no_true_ H HRR.out).elim
    ·rw [if_neg c97] at H
     have c97b0 : ((wrap64 ((t537.length : Int) + (t543.length : Int))) == 0) = false := beq_eq_false_iff_ne.mpr c97
     have c97b1 : ((wrap64 ((t537.length : Int) + (t543.length : Int))) != 0) = true := bne_iff_ne.mpr c97
     obtain rfl := Option.some.inj H
     obtain ⟨Ao114, co114, eo114⟩ := Kd.S_slice HO_9.out
     subst eo114
     obtain ⟨Ao115, co115, eo115⟩ := Kd.R_slice HO_13.out
     subst eo115
     go_wp2
     go_ret
     exact ⟨by first | rfl | (simp [errW_none, errW_some] <;> rfl) | (simp [*, errW_none, errW_some] <;> rfl), by repeat (first | (with_reducible first | exact HB.out | apply below_alloc | apply pw_below_drewN | apply below_drew1 | refine below_set ?_ GE528.out) | exact HB.out)⟩

/-- THE ONE PURE STATEMENT of wogglelaw07_BeaconCodes: yours. -/
def wogglelaw07_BeaconCodes.Pure : Prop := ∀ (a0_0 : Int) (l0_1 : List (S47)) (l1 : List Int), (Lit.int .i64 a0_0).wf = true → (l0_1.length ≤ maxLen ∧ ∀ x0_ ∈ l0_1, ((Lit.int .i64 x0_.f0).wf = true ∧ (Lit.int .i64 x0_.f1).wf = true)) → (l1.length ≤ maxLen ∧ ∀ x0_ ∈ l1, (Lit.int .i64 x0_).wf = true) → ∃ k, wogglelaw07_BeaconCodes.f k a0_0 l0_1 l1 = some true

end Go.Proofs.YtbeimdngghedjaaDoor.P
