-- written by a program of this session
import Derived.Test.YtcphmeeighhdjaaPK
import Derived.Test.YtcphmeeighhdjaaPF46
import Derived.Test.YtcphmeeighhdjaaPF22
import Derived.Test.YtcphmeeighhdjaaPF22d
import Derived.Test.YtcphmeeighhdjaaPF43
import Derived.Test.YtcphmeeighhdjaaPF47
import Derived.Test.YtcphmeeighhdjaaPF48
namespace Go.Proofs.Ytcphmeeighhdjaa.P
open Go.RowKit Go.Proofs.YtcphmeeighhdjaaW.PrintWords Go.Proofs.YtcphmeeighhdjaaW.PrintLast Go.Proofs.YtcphmeeighhdjaaW.PrintMore
attribute [local go_sem] max2_int min2_int max_two min_two max_three min_three max_four min_four   -- for this text's walks alone
set_option linter.unusedVariables false
set_option linter.unusedSimpArgs false

/-! ### wogglelaw02_TrackTables_t: function 16 -/
mutual
def wogglelaw02_TrackTables_t.j0 : Nat → Int → Int → List (List Int) → Int → List (S67) → Bool → Option (Bool)
  | 0, _, _, _, _, _, _ => none
  | k + 1, x7, x8, x10, x11, x15, x74 => if x74 = true then (some false) else (wogglelaw02_TrackTables_t.l0 k x7 x8 x10 x11 x15 0 0)
def wogglelaw02_TrackTables_t.l0 : Nat → Int → Int → List (List Int) → Int → List (S67) → Int → Int → Option (Bool)
  | 0, _, _, _, _, _, _, _ => none
  | k + 1, x7, x8, x10, x11, x15, x17, x18 => if x18 < x8 then (wogglelaw02_TrackTables_t.l1 k x7 x8 x10 x11 x15 x17 x18 (([] : List (List Int))) 0) else ((track_Length.f k x7 x15 x10).bind fun bt862 => (if x17 ≤ x11 then (if bt862.1 = x11 then (some (bt862.2 == 0)) else (some false)) else (some false)))
def wogglelaw02_TrackTables_t.l1 : Nat → Int → Int → List (List Int) → Int → List (S67) → Int → Int → List (List Int) → Int → Option (Bool)
  | 0, _, _, _, _, _, _, _, _, _ => none
  | k + 1, x7, x8, x10, x11, x15, x17, x18, x19, x20 => if x20 < x7 then (if 0 ≤ x20 then (if x20 < (x10.length : Int) then (if 0 ≤ x18 then (if x18 < ((rd_L3 x10 x20).length : Int) then (if x19.length < 5864062014805 then (wogglelaw02_TrackTables_t.l1 k x7 x8 x10 x11 x15 x17 x18 (x19 ++ [(([rd (rd_L3 x10 x20) x18] : List Int))]) (wrap64 (x20 + 1))) else (none)) else (none)) else (none)) else (none)) else (none)) else ((track_Best.f k x19).bind fun bt875 => (if bt875.2 = 0 then (wogglelaw02_TrackTables_t.l0 k x7 x8 x10 x11 x15 (wrap64 (x17 + bt875.1)) (wrap64 (x18 + 1))) else (some false)))
end
def wogglelaw02_TrackTables_t.f (k : Nat) (a0 : Int) (a1 : Int) (a2 : Int) (a3 : Int) (a4 : Int) (a5 : Int) (a6 : Int) (a7 : Int) (a8 : Int) (l9 : List (List Int)) (l10 : List (List Int)) : Option (Bool) := (track_Best.f k l10).bind fun bt853 => ((track_Best.f k l9).bind fun bt855 => ((track_Tree.f k l10).bind fun bt857 => (if bt853.2 = 0 then (if bt855.2 = 0 then (if bt857.2 = 0 then (if bt853.1 > bt855.1 then (wogglelaw02_TrackTables_t.j0 k a7 a8 l10 bt853.1 bt857.1 true) else ((wogglelaw02_lives.f k).bind fun t861 => (wogglelaw02_TrackTables_t.j0 k a7 a8 l10 bt853.1 bt857.1 (!t861)))) else (wogglelaw02_TrackTables_t.j0 k a7 a8 l10 bt853.1 bt857.1 true)) else (wogglelaw02_TrackTables_t.j0 k a7 a8 l10 bt853.1 bt857.1 true)) else (wogglelaw02_TrackTables_t.j0 k a7 a8 l10 bt853.1 bt857.1 true))))
theorem wogglelaw02_TrackTables_t.mono_l : ∀ k, (∀ y0 y1 y2 y3 y4 y5, LeO (wogglelaw02_TrackTables_t.j0 k y0 y1 y2 y3 y4 y5) (wogglelaw02_TrackTables_t.j0 (k + 1) y0 y1 y2 y3 y4 y5)) ∧ (∀ y0 y1 y2 y3 y4 y5 y6, LeO (wogglelaw02_TrackTables_t.l0 k y0 y1 y2 y3 y4 y5 y6) (wogglelaw02_TrackTables_t.l0 (k + 1) y0 y1 y2 y3 y4 y5 y6)) ∧ (∀ y0 y1 y2 y3 y4 y5 y6 y7 y8, LeO (wogglelaw02_TrackTables_t.l1 k y0 y1 y2 y3 y4 y5 y6 y7 y8) (wogglelaw02_TrackTables_t.l1 (k + 1) y0 y1 y2 y3 y4 y5 y6 y7 y8))
  | 0 => ⟨fun _ _ _ _ _ _ r h => by simp [wogglelaw02_TrackTables_t.j0] at h, fun _ _ _ _ _ _ _ r h => by simp [wogglelaw02_TrackTables_t.l0] at h, fun _ _ _ _ _ _ _ _ _ r h => by simp [wogglelaw02_TrackTables_t.l1] at h⟩
  | k + 1 => by
    obtain ⟨ih0, ih1, ih2⟩ := wogglelaw02_TrackTables_t.mono_l k
    refine ⟨?_, ?_, ?_⟩
    · intro y0 y1 y2 y3 y4 y5
      unfold wogglelaw02_TrackTables_t.j0
      repeat' first
      | (with_reducible exact ih0 _ _ _ _ _ _)
      | (with_reducible exact ih1 _ _ _ _ _ _ _)
      | (with_reducible exact ih2 _ _ _ _ _ _ _ _ _)
      | (with_reducible exact track_Best.mono _ _)
      | (with_reducible exact track_Length.mono _ _ _ _)
      | (with_reducible exact track_Tree.mono _ _)
      | (with_reducible exact wogglelaw02_lives.mono _)
      | (with_reducible exact LeO.refl _)
      | (with_reducible exact LeO.none _)
      | (with_reducible refine LeO.ite ?_ ?_)
      | (with_reducible refine LeO.bind ?_ (fun _ => ?_))
      | exact ih0 _ _ _ _ _ _
      | exact ih1 _ _ _ _ _ _ _
      | exact ih2 _ _ _ _ _ _ _ _ _
      | exact track_Best.mono _ _
      | exact track_Length.mono _ _ _ _
      | exact track_Tree.mono _ _
      | exact wogglelaw02_lives.mono _
      | exact LeO.none _
      | refine LeO.ite ?_ ?_
      | refine LeO.bind ?_ (fun _ => ?_)
    · intro y0 y1 y2 y3 y4 y5 y6
      unfold wogglelaw02_TrackTables_t.l0
      repeat' first
      | (with_reducible exact ih0 _ _ _ _ _ _)
      | (with_reducible exact ih1 _ _ _ _ _ _ _)
      | (with_reducible exact ih2 _ _ _ _ _ _ _ _ _)
      | (with_reducible exact track_Best.mono _ _)
      | (with_reducible exact track_Length.mono _ _ _ _)
      | (with_reducible exact track_Tree.mono _ _)
      | (with_reducible exact wogglelaw02_lives.mono _)
      | (with_reducible exact LeO.refl _)
      | (with_reducible exact LeO.none _)
      | (with_reducible refine LeO.ite ?_ ?_)
      | (with_reducible refine LeO.bind ?_ (fun _ => ?_))
      | exact ih0 _ _ _ _ _ _
      | exact ih1 _ _ _ _ _ _ _
      | exact ih2 _ _ _ _ _ _ _ _ _
      | exact track_Best.mono _ _
      | exact track_Length.mono _ _ _ _
      | exact track_Tree.mono _ _
      | exact wogglelaw02_lives.mono _
      | exact LeO.none _
      | refine LeO.ite ?_ ?_
      | refine LeO.bind ?_ (fun _ => ?_)
    · intro y0 y1 y2 y3 y4 y5 y6 y7 y8
      unfold wogglelaw02_TrackTables_t.l1
      repeat' first
      | (with_reducible exact ih0 _ _ _ _ _ _)
      | (with_reducible exact ih1 _ _ _ _ _ _ _)
      | (with_reducible exact ih2 _ _ _ _ _ _ _ _ _)
      | (with_reducible exact track_Best.mono _ _)
      | (with_reducible exact track_Length.mono _ _ _ _)
      | (with_reducible exact track_Tree.mono _ _)
      | (with_reducible exact wogglelaw02_lives.mono _)
      | (with_reducible exact LeO.refl _)
      | (with_reducible exact LeO.none _)
      | (with_reducible refine LeO.ite ?_ ?_)
      | (with_reducible refine LeO.bind ?_ (fun _ => ?_))
      | exact ih0 _ _ _ _ _ _
      | exact ih1 _ _ _ _ _ _ _
      | exact ih2 _ _ _ _ _ _ _ _ _
      | exact track_Best.mono _ _
      | exact track_Length.mono _ _ _ _
      | exact track_Tree.mono _ _
      | exact wogglelaw02_lives.mono _
      | exact LeO.none _
      | refine LeO.ite ?_ ?_
      | refine LeO.bind ?_ (fun _ => ?_)
theorem wogglelaw02_TrackTables_t.mono : ∀ a0 a1 a2 a3 a4 a5 a6 a7 a8 a9 a10 k, LeO (wogglelaw02_TrackTables_t.f k a0 a1 a2 a3 a4 a5 a6 a7 a8 a9 a10) (wogglelaw02_TrackTables_t.f (k + 1) a0 a1 a2 a3 a4 a5 a6 a7 a8 a9 a10) := by
  intro a0 a1 a2 a3 a4 a5 a6 a7 a8 a9 a10 k
  obtain ⟨ih0, ih1, ih2⟩ := wogglelaw02_TrackTables_t.mono_l k
  unfold wogglelaw02_TrackTables_t.f
  repeat' first
      | (with_reducible exact ih0 _ _ _ _ _ _)
      | (with_reducible exact ih1 _ _ _ _ _ _ _)
      | (with_reducible exact ih2 _ _ _ _ _ _ _ _ _)
      | (with_reducible exact track_Best.mono _ _)
      | (with_reducible exact track_Length.mono _ _ _ _)
      | (with_reducible exact track_Tree.mono _ _)
      | (with_reducible exact wogglelaw02_lives.mono _)
      | (with_reducible exact LeO.refl _)
      | (with_reducible exact LeO.none _)
      | (with_reducible refine LeO.ite ?_ ?_)
      | (with_reducible refine LeO.bind ?_ (fun _ => ?_))
      | exact ih0 _ _ _ _ _ _
      | exact ih1 _ _ _ _ _ _ _
      | exact ih2 _ _ _ _ _ _ _ _ _
      | exact track_Best.mono _ _
      | exact track_Length.mono _ _ _ _
      | exact track_Tree.mono _ _
      | exact wogglelaw02_lives.mono _
      | exact LeO.none _
      | refine LeO.ite ?_ ?_
      | refine LeO.bind ?_ (fun _ => ?_)
theorem no_true_ {r : Bool} (h : some false = some r) (hr : r = true) : False := by subst hr; cases h
theorem wogglelaw02_TrackTables_t.j0_no {k : Nat} {a0} {a1} {a2} {a3} {a4} {r : Bool} (h : wogglelaw02_TrackTables_t.j0 k a0 a1 a2 a3 a4 true = some r) (hr : r = true) : False := by subst hr; cases k <;> simp [wogglelaw02_TrackTables_t.j0] at h

def wogglelaw02_TrackTables.f (k : Nat) (a0 a1 : Int) (l2 : List Int) : Option Bool := (wogglelaw02_table.f k (wrap64 (wrap64 (Int.tmod (wrap64 a0) 3 + 2) + 1)) (wrap64 (Int.tmod (wrap64 a1) 6 + 1)) 4 l2).bind fun t9 => if 0 ≤ wrap64 (Int.tmod (wrap64 a0) 3 + 2) ∧ wrap64 (Int.tmod (wrap64 a0) 3 + 2) ≤ (t9.length : Int) then wogglelaw02_TrackTables_t.f k 0 0 0 0 0 0 0 (wrap64 (Int.tmod (wrap64 a0) 3 + 2)) (wrap64 (Int.tmod (wrap64 a1) 6 + 1)) t9 (t9.take (wrap64 (Int.tmod (wrap64 a0) 3 + 2)).toNat) else none
set_option maxHeartbeats 8000000 in
set_option maxRecDepth 100000 in
theorem wogglelaw02_TrackTables.calls (k : Nat) (a0 a1 : Int) (A2 : Option Addr) (c2 : Nat) (l2 : List Int) (r : Bool) (w : World) (hr2 : Kd.C (Kd.int .u8) w A2 l2.length l2) (hc2 : l2.length ≤ c2) (h : wogglelaw02_TrackTables.f k a0 a1 l2 = some r) (hrr : r = true) :
    Calls Try.prog 16 #[.int .u8 a0, .int .u8 a1, .slice A2 l2.length c2] w fun e w' => e = .returned (.bool r) ∧ Below w.heap.size w w' := by
  have HRR := Aside0.mk hrr
  clear hrr
  have HR2 := Aside0.mk hr2
  have HC2 := Aside0.mk hc2
  clear hr2 hc2
  unfold wogglelaw02_TrackTables.f at h
  obtain ⟨a7, h7⟩ : ∃ z, wrap64 (Int.tmod (wrap64 a0) 3 + 2) = z := ⟨_, rfl⟩
  obtain ⟨a8, h8⟩ : ∃ z, wrap64 (Int.tmod (wrap64 a1) 6 + 1) = z := ⟨_, rfl⟩
  rw [h7, h8] at h
  obtain ⟨l9, A90, h⟩ := Option.bind_eq_some_iff.mp h
  have A9_ := Aside0.mk A90
  clear A90
  split at h
  case isFalse => cases h
  rename_i hb7
  have HB7 := Aside0.mk hb7
  have HTL := Aside0.mk h
  clear h hb7
  go_enter Try.func16, Try.ntmps16
  go_wp2_with (fail)
  with_reducible refine (wogglelaw02_table.calls k (wrap64 (a7 + 1)) a8 4 A2 c2 l2 l9 _ HR2.out HC2.out A9_.out).mono ?_
  rintro e wz ⟨v9, rfl, ho, hb⟩
  obtain ⟨A9, c9, e9⟩ := Kd.S_slice ho
  subst e9
  have HR9 := Aside0.mk (Kd.S_reads' ho).2.2
  have HC9 := Aside0.mk (Kd.S_reads' ho).2.1
  have HBW := Aside0.mk hb
  have HB := Aside0.mk (Below.refl wz.heap.size wz)
  clear ho hb
  obtain ⟨i25, hi25, _, hsz25, _⟩ := info_parts info25
  have hcut := cut_to (P := Try.prog) 29 25 .i64 Try.underlying29 hi25 A9 l9.length c9 a7 HB7.out.1 HB7.out.2 HC9.out
  have hlt : (l9.take a7.toNat).length = a7.toNat := by rw [List.length_take]; have := HB7.out; omega
  obtain ⟨l10, hl10⟩ : ∃ l, l9.take a7.toNat = l := ⟨_, rfl⟩
  have HR10 := Aside0.mk (show Kd.C (Kd.slice 3 (Kd.int .i64)) wz A9 l10.length l10 by rw [← hl10]; exact Kd.C_take HR9.out (by have := HB7.out; omega))
  have HC10 := Aside0.mk (show l10.length ≤ c9 by rw [← hl10, hlt]; have := HC9.out; have := HB7.out; omega)
  rw [hl10] at HTL hlt
  rw [← hlt] at hcut
  clear hlt hl10 hi25 hsz25
  go_upto_region 3 with (fail)
  go_cut [7, 8, 9, 10] (fun v7 v8 v9 v10 wc => v7 = .int .i64 a7 ∧ v8 = .int .i64 a8 ∧ v9 = .slice A9 l9.length c9 ∧ v10 = .slice A9 l10.length c9 ∧ wc = wz)
  case first =>
    go_wp2
    go_meet
    case rel => exact ⟨rfl, rfl, rfl, rfl, rfl⟩
  case rest =>
    obtain ⟨rfl, rfl, rfl, rfl, rfl⟩ := hcut
    rename World => wz
    clear hcut h7 h8
    have H : ((track_Best.f k l10).bind fun bt853 => ((track_Best.f k l9).bind fun bt855 => ((track_Tree.f k l10).bind fun bt857 => (if bt853.2 = 0 then (if bt855.2 = 0 then (if bt857.2 = 0 then (if bt853.1 > bt855.1 then (wogglelaw02_TrackTables_t.j0 k a7 a8 l10 bt853.1 bt857.1 true) else ((wogglelaw02_lives.f k).bind fun t861 => (wogglelaw02_TrackTables_t.j0 k a7 a8 l10 bt853.1 bt857.1 (!t861)))) else (wogglelaw02_TrackTables_t.j0 k a7 a8 l10 bt853.1 bt857.1 true)) else (wogglelaw02_TrackTables_t.j0 k a7 a8 l10 bt853.1 bt857.1 true)) else (wogglelaw02_TrackTables_t.j0 k a7 a8 l10 bt853.1 bt857.1 true))))) = some r := HTL.out
    replace H := Option.bind_eq_some_iff.mp H
    obtain ⟨⟨t853, t854⟩, A120, H⟩ := H
    replace H : ((track_Best.f k l9).bind fun bt855 => ((track_Tree.f k l10).bind fun bt857 => (if t854 = 0 then (if bt855.2 = 0 then (if bt857.2 = 0 then (if t853 > bt855.1 then (wogglelaw02_TrackTables_t.j0 k a7 a8 l10 t853 bt857.1 true) else ((wogglelaw02_lives.f k).bind fun t861 => (wogglelaw02_TrackTables_t.j0 k a7 a8 l10 t853 bt857.1 (!t861)))) else (wogglelaw02_TrackTables_t.j0 k a7 a8 l10 t853 bt857.1 true)) else (wogglelaw02_TrackTables_t.j0 k a7 a8 l10 t853 bt857.1 true)) else (wogglelaw02_TrackTables_t.j0 k a7 a8 l10 t853 bt857.1 true)))) = some r := H
    have A12 := Aside0.mk A120
    clear A120
    replace H := Option.bind_eq_some_iff.mp H
    obtain ⟨⟨t855, t856⟩, A130, H⟩ := H
    replace H : ((track_Tree.f k l10).bind fun bt857 => (if t854 = 0 then (if t856 = 0 then (if bt857.2 = 0 then (if t853 > t855 then (wogglelaw02_TrackTables_t.j0 k a7 a8 l10 t853 bt857.1 true) else ((wogglelaw02_lives.f k).bind fun t861 => (wogglelaw02_TrackTables_t.j0 k a7 a8 l10 t853 bt857.1 (!t861)))) else (wogglelaw02_TrackTables_t.j0 k a7 a8 l10 t853 bt857.1 true)) else (wogglelaw02_TrackTables_t.j0 k a7 a8 l10 t853 bt857.1 true)) else (wogglelaw02_TrackTables_t.j0 k a7 a8 l10 t853 bt857.1 true))) = some r := H
    have A13 := Aside0.mk A130
    clear A130
    replace H := Option.bind_eq_some_iff.mp H
    obtain ⟨⟨t857, t858⟩, A140, H⟩ := H
    replace H : (if t854 = 0 then (if t856 = 0 then (if t858 = 0 then (if t853 > t855 then (wogglelaw02_TrackTables_t.j0 k a7 a8 l10 t853 t857 true) else ((wogglelaw02_lives.f k).bind fun t861 => (wogglelaw02_TrackTables_t.j0 k a7 a8 l10 t853 t857 (!t861)))) else (wogglelaw02_TrackTables_t.j0 k a7 a8 l10 t853 t857 true)) else (wogglelaw02_TrackTables_t.j0 k a7 a8 l10 t853 t857 true)) else (wogglelaw02_TrackTables_t.j0 k a7 a8 l10 t853 t857 true)) = some r := H
    have A14 := Aside0.mk A140
    clear A140
    have HC15 := Aside0.mk H
    clear H
    go_upto_region 7 with (first | ((with_reducible refine gate_callee (f := 47) rfl ?_); refine goesL_ (some 43) rfl rfl Try.func47 (by kernel_rfl) rfl #[.slice A9 l10.length c9] rfl (by (try simp only [List.map_toArray, List.map_cons, List.map_nil]); first | done | rfl | (simp only [List.length_drop, List.length_take]; rfl)) ?_; (with_reducible refine (track_Best.calls k _ _ l10 t853 t854 _ ?side1 ?side2 A12.out).mono ?_); (case side1 => repeat (first | exact HR10.out | (with_reducible refine Kd.C_alloc ?_ _) | (with_reducible refine Kd.C_drewN ?_ _) | (with_reducible refine Kd.C_drew ?_))); (case side2 => exact HC10.out); rintro e w16 ⟨rfl, hb⟩; refine ⟨_, rfl, ?_⟩; have n0_ := Aside0.mk (below_step (by repeat (first | (with_reducible first | exact HB.out | apply below_alloc | apply pw_below_drewN | apply below_drew1) | exact HB.out)) hb); clear HB; have HB := n0_; clear n0_; (try clear hb); (try clear hb2); (try clear hk); (try clear hi)) | ((with_reducible refine gate_callee (f := 47) rfl ?_); refine goesL_ (some 48) rfl rfl Try.func47 (by kernel_rfl) rfl #[.slice A9 l9.length c9] rfl (by (try simp only [List.map_toArray, List.map_cons, List.map_nil]); first | done | rfl | (simp only [List.length_drop, List.length_take]; rfl)) ?_; (with_reducible refine (track_Best.calls k _ _ l9 t855 t856 _ ?side1 ?side2 A13.out).mono ?_); (case side1 => repeat (first | exact (Kd.C_below HR9.out HB.out) | (with_reducible refine Kd.C_alloc ?_ _) | (with_reducible refine Kd.C_drewN ?_ _) | (with_reducible refine Kd.C_drew ?_))); (case side2 => exact HC9.out); rintro e w17 ⟨rfl, hb⟩; refine ⟨_, rfl, ?_⟩; have n0_ := Aside0.mk (below_step (by repeat (first | (with_reducible first | exact HB.out | apply below_alloc | apply pw_below_drewN | apply below_drew1) | exact HB.out)) hb); clear HB; have HB := n0_; clear n0_; (try clear hb); (try clear hb2); (try clear hk); (try clear hi)) | ((with_reducible refine gate_callee (f := 48) rfl ?_); refine goesL_ (some 53) rfl rfl Try.func48 (by kernel_rfl) rfl #[.slice A9 l10.length c9] rfl (by (try simp only [List.map_toArray, List.map_cons, List.map_nil]); first | done | rfl | (simp only [List.length_drop, List.length_take]; rfl)) ?_; (with_reducible refine (track_Tree.calls k _ _ l10 t857 t858 _ ?side1 ?side2 A14.out).mono ?_); (case side1 => repeat (first | exact (Kd.C_below HR10.out HB.out) | (with_reducible refine Kd.C_alloc ?_ _) | (with_reducible refine Kd.C_drewN ?_ _) | (with_reducible refine Kd.C_drew ?_))); (case side2 => exact HC10.out); rintro e w18 ⟨v859, rfl, ho0, hb⟩; refine ⟨_, rfl, ?_⟩; have n0_ := Aside0.mk (Kd.R_lower ho0 (below_size (by repeat (first | (with_reducible first | exact HB.out | apply below_alloc | apply pw_below_drewN | apply below_drew1) | exact HB.out)))); have n1_ := Aside0.mk (below_step (by repeat (first | (with_reducible first | exact HB.out | apply below_alloc | apply pw_below_drewN | apply below_drew1) | exact HB.out)) hb); clear HB; have HO860 := n0_; have HB := n1_; clear n0_ n1_; (try clear hb); (try clear hb2); (try clear hk); (try clear hi); (try clear ho0)))
    (try simp only [Act.put, List.setIfInBounds_toArray, List.set_cons_zero, List.set_cons_succ])
    go_cut [74] (fun v74 wc => ∃ (kq : Nat) (x74_14 : Bool), v74 = .bool x74_14 ∧ Aside0 (wogglelaw02_TrackTables_t.j0 kq a7 a8 l10 t853 t857 x74_14 = some r) ∧ Aside0 (kq ≤ k) ∧ Aside0 (Kd.R k67 67 wc wz.heap.size (fun _ => True) v859 t857) ∧ Aside0 (Below wz.heap.size wz wc))
    case first =>
      have H := HC15.out
      clear HC15
      by_cases c19 : t854 = 0
      · rw [if_pos c19] at H
        have c19b0 : (t854 == 0) = true := beq_iff_eq.mpr c19
        have c19b1 : (t854 != 0) = false := bne_eq_false_iff_eq.mpr c19
        clear c19
        (first | rw [c19b0] | (simp only [i64_w, i32_w]; rw [c19b0]) | skip)
        by_cases c20 : t856 = 0
        · rw [if_pos c20] at H
          have c20b0 : (t856 == 0) = true := beq_iff_eq.mpr c20
          have c20b1 : (t856 != 0) = false := bne_eq_false_iff_eq.mpr c20
          clear c20
          by_cases c21 : t858 = 0
          · rw [if_pos c21] at H
            have c21b0 : (t858 == 0) = true := beq_iff_eq.mpr c21
            have c21b1 : (t858 != 0) = false := bne_eq_false_iff_eq.mpr c21
            clear c21
            by_cases c22 : t853 > t855
            · rw [if_pos c22] at H
              exact (wogglelaw02_TrackTables_t.j0_no H HRR.out).elim
            · rw [if_neg c22] at H
              have c22b0 : decide (t855 < t853) = false := decide_eq_false c22
              clear c22
              replace H := Option.bind_eq_some_iff.mp H
              obtain ⟨t861, A230, H⟩ := H
              replace H : (wogglelaw02_TrackTables_t.j0 k a7 a8 l10 t853 t857 (!t861)) = some r := H
              have A23 := Aside0.mk A230
              clear A230
              have H' := Aside0.mk H
              clear H
              go_wp2_with (first | (go_at_call 22; (with_reducible refine (wogglelaw02_lives.calls k  t861 _ A23.out).mono ?_); rintro e w24 ⟨rfl, hb⟩; have n0_ := Aside0.mk (Kd.R_below (by (with_reducible repeat (first | apply Kd.R_alloc | apply Kd.R_drewN | apply Kd.R_drew)); exact HO860.out) hb); have n1_ := Aside0.mk (below_step (by repeat (first | (with_reducible first | exact HB.out | apply below_alloc | apply pw_below_drewN | apply below_drew1) | exact HB.out)) hb); clear HO860; clear HB; have HO860 := n0_; have HB := n1_; clear n0_ n1_; (try clear hb); (try clear hb2); (try clear hk); (try clear hi)))
              go_meet
              case rel => exact ⟨_, (!t861), (by first | rfl | (simp; done) | (simp [*]; done)), H', ⟨by first | omega | exact Nat.le_refl _⟩, ⟨by (with_reducible repeat (first | apply Kd.R_alloc | apply Kd.R_drewN | apply Kd.R_drew)); exact HO860.out⟩, ⟨by repeat (first | (with_reducible first | exact HB.out | apply below_alloc | apply pw_below_drewN | apply below_drew1) | exact HB.out)⟩⟩
          · rw [if_neg c21] at H
            exact (wogglelaw02_TrackTables_t.j0_no H HRR.out).elim
        · rw [if_neg c20] at H
          exact (wogglelaw02_TrackTables_t.j0_no H HRR.out).elim
      · rw [if_neg c19] at H
        exact (wogglelaw02_TrackTables_t.j0_no H HRR.out).elim
    case rest =>
      clear HC15
      try clear c1
      try clear c2
      try clear p2
      try clear c4
      try clear c9
      try clear c9
      try clear c16
      try clear c19
      try clear c19b0
      try clear c19b1
      try clear c20
      try clear c20b0
      try clear c20b1
      try clear c21
      try clear c21b0
      try clear c21b1
      try clear c22
      try clear c22b0
      obtain ⟨kq, x74_14, rfl, HA, HJ14, HO_15, HB⟩ := hcut
      cases kq with
      | zero => exact absurd HA.out (by simp [wogglelaw02_TrackTables_t.j0])
      | succ kj14 =>
        have H := HA.out
        clear HA
        simp only [wogglelaw02_TrackTables_t.j0] at H
        by_cases c25 : x74_14 = true
        · subst c25
          have H1 : (some false) = some r := by rw [if_pos rfl] at H; exact H
          clear H
          have H := H1
          clear H1
          exact (no_true_ H HRR.out).elim
        · replace c25 := Bool.eq_false_iff.mpr c25
          subst c25
          have H1 : (wogglelaw02_TrackTables_t.l0 kj14 a7 a8 l10 t853 t857 0 0) = some r := by rw [if_neg (show ¬ (false = true) by decide)] at H; exact H
          clear H
          have H := H1
          clear H1
          have H' := Aside0.mk H
          clear H
          go_wp2
          go_loopg [17, 18] kj14 (fun kq v17 v18 w' => ∃ (x17_2 : Int) (x18_2 : Int), v17 = .int .i64 x17_2 ∧ v18 = .int .i64 x18_2 ∧ Aside0 (wogglelaw02_TrackTables_t.l0 kq a7 a8 l10 t853 t857 x17_2 x18_2 = some r) ∧ Aside0 (kq ≤ kj14) ∧ Aside0 (Kd.R k67 67 w' wz.heap.size (fun _ => True) v859 t857) ∧ Aside0 (Below wz.heap.size wz w'))
          case atStart => exact ⟨(0), (0), (by first | rfl | (simp; done) | (simp [*]; done)), (by first | rfl | (simp; done) | (simp [*]; done)), H', ⟨Nat.le_refl _⟩, ⟨by (with_reducible repeat (first | apply Kd.R_alloc | apply Kd.R_drewN | apply Kd.R_drew)); exact HO_15.out⟩, ⟨by repeat (first | (with_reducible first | exact HB.out | apply below_alloc | apply pw_below_drewN | apply below_drew1) | exact HB.out)⟩⟩
          case round =>
            clear H'
            try clear c1
            try clear c2
            try clear p2
            try clear c4
            try clear c9
            try clear c9
            try clear c16
            try clear c19
            try clear c19b0
            try clear c19b1
            try clear c20
            try clear c20b0
            try clear c20b1
            try clear c21
            try clear c21b0
            try clear c21b1
            try clear c22
            try clear c22b0
            try clear c25
            try clear p2
            obtain ⟨x17_2, x18_2, rfl, rfl, HA, HK2, HO_15, HB⟩ := hrel
            cases gk with
            | zero => exact absurd HA.out (by simp [wogglelaw02_TrackTables_t.l0])
            | succ k2 =>
              have H := HA.out
              clear HA
              simp only [wogglelaw02_TrackTables_t.l0] at H
              by_cases c26 : x18_2 < a8
              · rw [if_pos c26] at H
                have c26b0 : decide (x18_2 < a8) = true := decide_eq_true c26
                clear c26
                obtain ⟨y864, hy864⟩ : ∃ y_ : List (List Int), y_ = (([] : List (List Int))) := ⟨_, rfl⟩
                replace H : (wogglelaw02_TrackTables_t.l1 k2 a7 a8 l10 t853 t857 x17_2 x18_2 y864 0) = some r := by first | (rw [hy864]; with_reducible exact H) | (have H2_ := (Option.bind_some _ _).symm.trans H; rw [hy864]; with_reducible exact H2_) | (have H2_ := (Option.bind_some _ _).symm.trans H; with_reducible exact H2_) | with_reducible exact H | (rw [hy864]; exact H) | exact H
                have Ny864 := Aside0.mk hy864
                clear hy864
                have H' := Aside0.mk H
                clear H
                go_wp2_with (first | ((with_reducible refine gate_dst (N := 80) rfl ?_); refine Kd.S_lit (Kd.slice 3 (Kd.int .i64)) _ 25 ?hg (N := 80) ?hd (xs := ([] : List (List Int))) (inner := []) (ok := fun _ => True) (okp := fun _ => True) ?hr ?hp (fun _ hk => hk) trivial (Below.refl _ _) (Nat.le_refl _) (by simp) ?_; (case hd => rfl); (case hg => rfl); (case hr => first | (go_simp; done) | (go_simp; rfl)); (case hp => exact (Reps.none _ _)); intro v865 w27 ho28 hb hg_ hnew_; clear hg_ hnew_; (first | rw [← Ny864.out] at ho28 | (simp only [Int.reduceToNat] at ho28; rw [← Ny864.out] at ho28)); have n0_ := Aside0.mk (Kd.R_below (by (with_reducible repeat (first | apply Kd.R_alloc | apply Kd.R_drewN | apply Kd.R_drew)); exact HO_15.out) hb); have n1_ := Aside0.mk (Kd.S_lower ho28 (below_size (by repeat (first | (with_reducible first | exact HB.out | apply below_alloc | apply pw_below_drewN | apply below_drew1) | exact HB.out)))); have n2_ := Aside0.mk (below_step (by repeat (first | (with_reducible first | exact HB.out | apply below_alloc | apply pw_below_drewN | apply below_drew1) | exact HB.out)) hb); clear HO_15; clear HB; have HO_15 := n0_; have HO866 := n1_; have HB := n2_; clear n0_ n1_ n2_; clear hb ho28))
                go_loopg [19, 20] k2 (fun kq v19 v20 w' => ∃ (x19_3 : List (List Int)) (x20_3 : Int), v20 = .int .i64 x20_3 ∧ Aside0 (wogglelaw02_TrackTables_t.l1 kq a7 a8 l10 t853 t857 x17_2 x18_2 x19_3 x20_3 = some r) ∧ Aside0 (kq ≤ k2) ∧ Aside0 (Kd.R k67 67 w' wz.heap.size (fun _ => True) v859 t857) ∧ Aside0 (Kd.S (Kd.slice 3 (Kd.int .i64)) 25 w' wz.heap.size (fun _ => True) v19 x19_3) ∧ Aside0 (Below wz.heap.size wz w'))
                case atStart => exact ⟨(y864), (0), (by first | rfl | (simp; done) | (simp [*]; done)), H', ⟨Nat.le_refl _⟩, ⟨by (with_reducible repeat (first | apply Kd.R_alloc | apply Kd.R_drewN | apply Kd.R_drew)); exact HO_15.out⟩, ⟨by (with_reducible repeat (first | apply Kd.S_alloc | apply Kd.S_drewN | apply Kd.S_drew)); exact HO866.out⟩, ⟨by repeat (first | (with_reducible first | exact HB.out | apply below_alloc | apply pw_below_drewN | apply below_drew1) | exact HB.out)⟩⟩
                case round =>
                  clear H'
                  try clear c1
                  try clear c2
                  try clear p2
                  try clear c4
                  try clear c9
                  try clear c9
                  try clear c16
                  try clear c19
                  try clear c19b0
                  try clear c19b1
                  try clear c20
                  try clear c20b0
                  try clear c20b1
                  try clear c21
                  try clear c21b0
                  try clear c21b1
                  try clear c22
                  try clear c22b0
                  try clear c25
                  try clear c26
                  try clear c26b0
                  try clear p2
                  obtain ⟨x19_3, x20_3, rfl, HA, HK3, HO_15, HO_19, HB⟩ := hrel
                  cases gk with
                  | zero => exact absurd HA.out (by simp [wogglelaw02_TrackTables_t.l1])
                  | succ k3 =>
                    have H := HA.out
                    clear HA
                    simp only [wogglelaw02_TrackTables_t.l1] at H
                    by_cases c29 : x20_3 < a7
                    · rw [if_pos c29] at H
                      have c29b0 : decide (x20_3 < a7) = true := decide_eq_true c29
                      clear c29
                      by_cases c30 : 0 ≤ x20_3
                      · rw [if_pos c30] at H
                        have c30b0 : decide (0 ≤ x20_3) = true := decide_eq_true c30
                        clear c30
                        by_cases c31 : x20_3 < (l10.length : Int)
                        · rw [if_pos c31] at H
                          have c31b0 : decide (x20_3 < (l10.length : Int)) = true := decide_eq_true c31
                          clear c31
                          by_cases c32 : 0 ≤ x18_2
                          · rw [if_pos c32] at H
                            have c32b0 : decide (0 ≤ x18_2) = true := decide_eq_true c32
                            clear c32
                            by_cases c33 : x18_2 < ((rd_L3 l10 x20_3).length : Int)
                            · rw [if_pos c33] at H
                              have c33b0 : decide (x18_2 < ((rd_L3 l10 x20_3).length : Int)) = true := decide_eq_true c33
                              clear c33
                              obtain ⟨y869, hy869⟩ : ∃ y_ : List Int, y_ = (([rd (rd_L3 l10 x20_3) x18_2] : List Int)) := ⟨_, rfl⟩
                              replace H : (if x19_3.length < 5864062014805 then (wogglelaw02_TrackTables_t.l1 k3 a7 a8 l10 t853 t857 x17_2 x18_2 (x19_3 ++ [y869]) (wrap64 (x20_3 + 1))) else (none)) = some r := by first | (rw [hy869]; with_reducible exact H) | (have H2_ := (Option.bind_some _ _).symm.trans H; rw [hy869]; with_reducible exact H2_) | (have H2_ := (Option.bind_some _ _).symm.trans H; with_reducible exact H2_) | with_reducible exact H | (rw [hy869]; exact H) | exact H
                              have Ny869 := Aside0.mk hy869
                              clear hy869
                              by_cases c34 : x19_3.length < 5864062014805
                              · rw [if_pos c34] at H
                                have LMc34 := Aside0.mk c34
                                clear c34
                                obtain ⟨y872, hy872⟩ : ∃ y_ : List (List Int), y_ = (x19_3 ++ [y869]) := ⟨_, rfl⟩
                                replace H : (wogglelaw02_TrackTables_t.l1 k3 a7 a8 l10 t853 t857 x17_2 x18_2 y872 (wrap64 (x20_3 + 1))) = some r := by first | (rw [hy872]; with_reducible exact H) | (have H2_ := (Option.bind_some _ _).symm.trans H; rw [hy872]; with_reducible exact H2_) | (have H2_ := (Option.bind_some _ _).symm.trans H; with_reducible exact H2_) | with_reducible exact H | (rw [hy872]; exact H) | exact H
                                have Ny872 := Aside0.mk hy872
                                clear hy872
                                have H' := Aside0.mk H
                                clear H
                                have p867 : 0 ≤ (x20_3 : Int) := of_decide_eq_true (by first | (with_reducible assumption) | assumption)
                                have q867 : x20_3 < (l10.length : Int) := of_decide_eq_true (by first | (with_reducible assumption) | assumption)
                                obtain ⟨ad867, A867_0, c867_0, e867, hx867_0, hl867_0, hi867_0⟩ := at_L3 HR10.out x20_3 p867 q867
                                cases e867
                                replace hx867_0 := (HB.out.cell (World.block_lt_of_cell? wz _ hx867_0)).trans hx867_0
                                have HR867_0 := Aside0.mk hi867_0
                                have HC867_0 := Aside0.mk hl867_0
                                clear hi867_0 hl867_0
                                replace p867 := eq_true p867
                                replace q867 := eq_true q867
                                have p868 : 0 ≤ (x18_2 : Int) := of_decide_eq_true (by first | (with_reducible assumption) | assumption)
                                have q868 : x18_2 < ((rd_L3 l10 x20_3).length : Int) := of_decide_eq_true (by first | (with_reducible assumption) | assumption)
                                obtain ⟨ad868, e868, hx868_0⟩ := Kd.at_int HR867_0.out x18_2 p868 q868
                                cases e868
                                replace hx868_0 := (HB.out.cell (World.block_lt_of_cell? wz _ hx868_0)).trans hx868_0
                                replace p868 := eq_true p868
                                replace q868 := eq_true q868
                                go_wp2_with (first | ((with_reducible refine gate_dst (N := 94) rfl ?_); refine Kd.R_lit (Kd.int .i64) _ 3 ?hg (N := 94) ?hd (xs := ([rd (rd_L3 l10 x20_3) x18_2] : List Int)) (inner := [.int .i64 (rd (rd_L3 l10 x20_3) x18_2)]) (ok := fun _ => True) (okp := fun _ => True) ?hr ?hp (fun _ hk => hk) trivial (Below.refl _ _) (Nat.le_refl _) (by simp) ?_; (case hd => rfl); (case hg => rfl); (case hr => first | (go_simp; done) | (go_simp; rfl)); (case hp => exact (Reps.one (show Kd.M (Kd.int .i64) _ _ _ (rd (rd_L3 l10 x20_3) x18_2) [.int .i64 (rd (rd_L3 l10 x20_3) x18_2)] from rfl) (Reps.none _ _))); intro v870 w35 ho36 hb hg_ hnew_; clear hg_ hnew_; (first | rw [← Ny869.out] at ho36 | (simp only [Int.reduceToNat] at ho36; rw [← Ny869.out] at ho36)); have n0_ := Aside0.mk (Kd.R_below (by (with_reducible repeat (first | apply Kd.R_alloc | apply Kd.R_drewN | apply Kd.R_drew)); exact HO_15.out) hb); have n1_ := Aside0.mk (Kd.S_elder' (by (with_reducible repeat (first | apply Kd.S_alloc | apply Kd.S_drewN | apply Kd.S_drew)); exact HO_19.out) (Kd.R_base ho36) hb); have n2_ := Aside0.mk (Kd.R_lower ho36 (below_size (by repeat (first | (with_reducible first | exact HB.out | apply below_alloc | apply pw_below_drewN | apply below_drew1) | exact HB.out)))); have n3_ := Aside0.mk (below_step (by repeat (first | (with_reducible first | exact HB.out | apply below_alloc | apply pw_below_drewN | apply below_drew1) | exact HB.out)) hb); clear HO_15; clear HO_19; clear HB; have HO_15 := n0_; have HO_19 := n1_; have HO871 := n2_; have HB := n3_; clear n0_ n1_ n2_ n3_; clear hb ho36; obtain ⟨Ao38, co38, eo38⟩ := Kd.R_slice HO871.out; subst eo38) | ((with_reducible refine gate_builtin (b := .append) (xs := #[.tmp 86, .tmp 95]) rfl ?_); at_builtin; refine Kd.S_append (Kd.slice 3 (Kd.int .i64)) (w0 := wz) wz.heap.size rfl (.tmp 86) (.tmp 95) 29 25 (.slice none 0 0) 24 rfl Try.underlying29 info25 rfl (by decide) (by omega) u19 x19_3 y869 [.slice Ao38 y869.length co38] (fun _ => True) (fun k_ => some k_ = (.slice Ao38 y869.length co38 : Value).ownBlock) rfl rfl ?aP (fun k_ hk_ => ((Kd.R_mono (ok' := fun k_ => ((fun _ => True)) k_ ∧ some k_ ≠ (u19 : Value).ownBlock) (Kd.R_apart' (HO871.out) (Kd.S_typed HO_19.out) (by decide)) (fun k_ hk => ⟨trivial, hk.2⟩))).1 k_ hk_.symm) ?aF ?aO ?aB ?aS ?aL ?_; (case aP => exact Kd.M_row (Kd.R_mono (Kd.R_tight rfl (Kd.R_mono (ok' := fun k_ => ((fun _ => True)) k_ ∧ some k_ ≠ (u19 : Value).ownBlock) (Kd.R_apart' (HO871.out) (Kd.S_typed HO_19.out) (by decide)) (fun k_ hk => ⟨trivial, hk.2⟩))) (fun _ h_ => h_))); (case aB => exact (by repeat (first | (with_reducible first | exact HB.out | apply below_alloc | apply pw_below_drewN | apply below_drew1) | exact HB.out))); (case aF => exact (fun _ _ => trivial)); (case aO => exact (by (with_reducible repeat (first | apply Kd.S_alloc | apply Kd.S_drewN | apply Kd.S_drew)); exact Kd.S_mono HO_19.out (fun k_ hk => ⟨trivial, fun e_ => hk.2 e_⟩))); (case aS => exact (below_size (by repeat (first | (with_reducible first | exact HB.out | apply below_alloc | apply pw_below_drewN | apply below_drew1) | exact HB.out)))); (case aL => have := LMc34.out; omega); intro v873 w37 ho hb hg hat; rw [← Ny872.out] at ho; have n0_ := Aside0.mk (Kd.R_over' (by (with_reducible repeat (first | apply Kd.R_alloc | apply Kd.R_drewN | apply Kd.R_drew)); exact HO_15.out) (Kd.S_typed (by (with_reducible repeat (first | apply Kd.S_alloc | apply Kd.S_drewN | apply Kd.S_drew)); exact HO_19.out)) (by decide) hg); have n1_ := Aside0.mk (hb); have n2_ := Aside0.mk (ho); clear HO_15; clear HB; clear HO_19; clear HO871; have HO_15 := n0_; have HB := n1_; have HO874 := n2_; clear n0_ n1_ n2_; clear ho hb hg hat))
                                go_roundg k3
                                case measure => have := HJ14.out; have := HK2.out; have := HK3.out; omega
                                case rel => exact ⟨(y872), (wrap64 (x20_3 + 1)), (by first | rfl | (simp; done) | (simp [*]; done)), H', ⟨by have := HJ14.out; have := HK2.out; have := HK3.out; omega⟩, ⟨by (with_reducible repeat (first | apply Kd.R_alloc | apply Kd.R_drewN | apply Kd.R_drew)); exact HO_15.out⟩, ⟨by (with_reducible repeat (first | apply Kd.S_alloc | apply Kd.S_drewN | apply Kd.S_drew)); exact HO874.out⟩, ⟨by repeat (first | (with_reducible first | exact HB.out | apply below_alloc | apply pw_below_drewN | apply below_drew1) | exact HB.out)⟩⟩
                              · rw [if_neg c34] at H
                                exact absurd H (by simp)
                            · rw [if_neg c33] at H
                              exact absurd H (by simp)
                          · rw [if_neg c32] at H
                            exact absurd H (by simp)
                        · rw [if_neg c31] at H
                          exact absurd H (by simp)
                      · rw [if_neg c30] at H
                        exact absurd H (by simp)
                    · rw [if_neg c29] at H
                      have c29b0 : decide (x20_3 < a7) = false := decide_eq_false c29
                      clear c29
                      replace H := Option.bind_eq_some_iff.mp H
                      obtain ⟨⟨t875, t876⟩, A390, H⟩ := H
                      replace H : (if t876 = 0 then (wogglelaw02_TrackTables_t.l0 k3 a7 a8 l10 t853 t857 (wrap64 (x17_2 + t875)) (wrap64 (x18_2 + 1))) else (some false)) = some r := H
                      have A39 := Aside0.mk A390
                      clear A390
                      by_cases c40 : t876 = 0
                      · rw [if_pos c40] at H
                        have c40b0 : (t876 == 0) = true := beq_iff_eq.mpr c40
                        have c40b1 : (t876 != 0) = false := bne_eq_false_iff_eq.mpr c40
                        clear c40
                        have H' := Aside0.mk H
                        clear H
                        obtain ⟨Ao41, co41, eo41⟩ := Kd.S_slice HO_19.out
                        subst eo41
                        go_wp2_with (first | ((with_reducible refine gate_callee (f := 47) rfl ?_); refine goesL_ (some 99) rfl rfl Try.func47 (by kernel_rfl) rfl #[.slice Ao41 x19_3.length co41] rfl (by (try simp only [List.map_toArray, List.map_cons, List.map_nil]); first | done | rfl | (simp only [List.length_drop, List.length_take]; rfl)) ?_; (with_reducible refine (track_Best.calls k3 _ _ x19_3 t875 t876 _ ?side1 ?side2 A39.out).mono ?_); (case side1 => repeat (first | exact (Kd.S_reads' HO_19.out).2.2 | (with_reducible refine Kd.C_alloc ?_ _) | (with_reducible refine Kd.C_drewN ?_ _) | (with_reducible refine Kd.C_drew ?_))); (case side2 => exact (Kd.S_reads' HO_19.out).2.1); rintro e w42 ⟨rfl, hb⟩; refine ⟨_, rfl, ?_⟩; have n0_ := Aside0.mk (Kd.R_below (by (with_reducible repeat (first | apply Kd.R_alloc | apply Kd.R_drewN | apply Kd.R_drew)); exact HO_15.out) hb); have n1_ := Aside0.mk (Kd.S_below (by (with_reducible repeat (first | apply Kd.S_alloc | apply Kd.S_drewN | apply Kd.S_drew)); exact HO_19.out) hb); have n2_ := Aside0.mk (below_step (by repeat (first | (with_reducible first | exact HB.out | apply below_alloc | apply pw_below_drewN | apply below_drew1) | exact HB.out)) hb); clear HO_15; clear HO_19; clear HB; have HO_15 := n0_; have HO_19 := n1_; have HB := n2_; clear n0_ n1_ n2_; (try clear hb); (try clear hb2); (try clear hk); (try clear hi)))
                        go_roundg k3
                        case measure => have := HJ14.out; have := HK2.out; have := HK3.out; omega
                        case rel => exact ⟨(wrap64 (x17_2 + t875)), (wrap64 (x18_2 + 1)), (by first | rfl | (simp; done) | (simp [*]; done)), (by first | rfl | (simp; done) | (simp [*]; done)), H', ⟨by have := HJ14.out; have := HK2.out; have := HK3.out; omega⟩, ⟨by (with_reducible repeat (first | apply Kd.R_alloc | apply Kd.R_drewN | apply Kd.R_drew)); exact HO_15.out⟩, ⟨by repeat (first | (with_reducible first | exact HB.out | apply below_alloc | apply pw_below_drewN | apply below_drew1) | exact HB.out)⟩⟩
                      · rw [if_neg c40] at H
                        exact (no_true_ H HRR.out).elim
              · rw [if_neg c26] at H
                have c26b0 : decide (x18_2 < a8) = false := decide_eq_false c26
                clear c26
                replace H := Option.bind_eq_some_iff.mp H
                obtain ⟨⟨t862, t863⟩, A450, H⟩ := H
                replace H : (if x17_2 ≤ t853 then (if t862 = t853 then (some (t863 == 0)) else (some false)) else (some false)) = some r := H
                have A45 := Aside0.mk A450
                clear A450
                by_cases c46 : x17_2 ≤ t853
                · rw [if_pos c46] at H
                  have c46b0 : decide (x17_2 ≤ t853) = true := decide_eq_true c46
                  clear c46
                  by_cases c47 : t862 = t853
                  · rw [if_pos c47] at H
                    have c47b0 : (t862 == t853) = true := beq_iff_eq.mpr c47
                    have c47b1 : (t862 != t853) = false := bne_eq_false_iff_eq.mpr c47
                    clear c47
                    obtain rfl := Option.some.inj H
                    obtain ⟨Ao48, co48, eo48⟩ := Kd.R_slice HO_15.out
                    subst eo48
                    go_wp2_with (first | ((with_reducible refine gate_callee (f := 43) rfl ?_); refine goesL_ (some 111) rfl rfl Try.func43 (by kernel_rfl) rfl #[.int .i64 a7, .slice Ao48 t857.length co48, .slice A9 l10.length c9] rfl (by (try simp only [List.map_toArray, List.map_cons, List.map_nil]); first | done | rfl | (simp only [List.length_drop, List.length_take]; rfl)) ?_; (with_reducible refine (track_Length.calls k2 a7 _ _ t857 _ _ l10 t862 t863 _ ?side1 ?side2 ?side3 ?side4 A45.out).mono ?_); (case side1 => repeat (first | exact (Kd.R_reads' HO_15.out).2.2 | (with_reducible refine Kd.C_alloc ?_ _) | (with_reducible refine Kd.C_drewN ?_ _) | (with_reducible refine Kd.C_drew ?_))); (case side2 => exact (Kd.R_reads' HO_15.out).2.1); (case side3 => repeat (first | exact (Kd.C_below HR10.out HB.out) | (with_reducible refine Kd.C_alloc ?_ _) | (with_reducible refine Kd.C_drewN ?_ _) | (with_reducible refine Kd.C_drew ?_))); (case side4 => exact HC10.out); rintro e w49 ⟨rfl, hb⟩; refine ⟨_, rfl, ?_⟩; have n0_ := Aside0.mk (Kd.R_below (by (with_reducible repeat (first | apply Kd.R_alloc | apply Kd.R_drewN | apply Kd.R_drew)); exact HO_15.out) hb); have n1_ := Aside0.mk (below_step (by repeat (first | (with_reducible first | exact HB.out | apply below_alloc | apply pw_below_drewN | apply below_drew1) | exact HB.out)) hb); clear HO_15; clear HB; have HO_15 := n0_; have HB := n1_; clear n0_ n1_; (try clear hb); (try clear hb2); (try clear hk); (try clear hi)))
                    go_ret
                    exact ⟨by first | rfl | (simp [errW_none, errW_some] <;> rfl) | (simp [*, errW_none, errW_some] <;> rfl), HBW.out.trans (Below.mono (by repeat (first | (with_reducible first | exact HB.out | apply below_alloc | apply pw_below_drewN | apply below_drew1) | exact HB.out)) HBW.out.size)⟩
                  · rw [if_neg c47] at H
                    exact (no_true_ H HRR.out).elim
                · rw [if_neg c46] at H
                  exact (no_true_ H HRR.out).elim
end Go.Proofs.Ytcphmeeighhdjaa.P
