-- written by a program of this session
import Derived.Test.YtbeimdngghedjaaDoorPK
import Derived.Test.YtbeimdngghedjaaDoorBH
namespace Go.Proofs.YtbeimdngghedjaaDoor.P
open Go.RowKit Go.Proofs.YtbeimdngghedjaaDoorW.PrintWords Go.Proofs.YtbeimdngghedjaaDoorW.PrintLast Go.Proofs.YtbeimdngghedjaaDoorW.PrintMore
attribute [local go_sem] max2_int min2_int max_two min_two max_three min_three max_four min_four   -- for this text's walks alone
set_option linter.unusedVariables false
set_option linter.unusedSimpArgs false

/-! ### beacon_Resolves_tail: function 29 -/
def beacon_Resolves_tail.f (k : Nat) (a0 : Int) (l1 : List (S47)) (l2 : List Int) (l773 : List (S82)) : Option (Bool × Int) := (beacon_graph_resolves.f k l773 l2).bind fun t124 => (some (t124, 0))
theorem beacon_Resolves_tail.mono : ∀ a0 a1 a2 a3 k, LeO (beacon_Resolves_tail.f k a0 a1 a2 a3) (beacon_Resolves_tail.f (k + 1) a0 a1 a2 a3) := by
  intro a0 a1 a2 a3 k
  unfold beacon_Resolves_tail.f
  repeat' first
      | (with_reducible exact beacon_graph_resolves.mono _ _ _)
      | (with_reducible exact LeO.refl _)
      | (with_reducible exact LeO.none _)
      | (with_reducible refine LeO.ite ?_ ?_)
      | (with_reducible refine LeO.bind ?_ (fun _ => ?_))
      | exact beacon_graph_resolves.mono _ _ _
      | exact LeO.none _
      | refine LeO.ite ?_ ?_
      | refine LeO.bind ?_ (fun _ => ?_)
set_option maxHeartbeats 8000000 in
set_option maxRecDepth 100000 in
theorem beacon_Resolves_tail.calls (k : Nat) (a0 : Int) (A1 : Option Addr) (c1 : Nat) (l1 : List (S47)) (A2 : Option Addr) (c2 : Nat) (l2 : List Int) (l773 : List (S82)) (r1 : Bool) (r2 : Int) (w00 : World) (hr1 : Kd.C k47 w00 A1 l1.length l1) (hc1 : l1.length ≤ c1) (hr2 : Kd.C (Kd.int .i64) w00 A2 l2.length l2) (hc2 : l2.length ≤ c2) (hdoor : Door w00) (hcall : Calls Tryd.prog 56 #[.int .i64 a0, .slice A1 l1.length c1, .slice A2 l2.length c2] w00 fun e w' => ∃ B, e = .returned (.tuple #[.pointer B, .int .i64 0]) ∧ Below w00.heap.size w00 w' ∧ Kd.C k82 w' B l773.length l773) (h : beacon_Resolves_tail.f k a0 l1 l2 l773 = some (r1, r2)) :
    Calls Tryd.prog 29 #[.int .i64 a0, .slice A1 l1.length c1, .slice A2 l2.length c2] w00 fun e w' => ∃ w : World, Below w00.heap.size w00 w ∧ (e = .returned (.tuple #[.bool r1, .int .i64 r2]) ∧ Below w.heap.size w w') := by
  have HCALL := Aside0.mk hcall
  clear hcall
  have HDOOR0 := Aside0.mk hdoor
  clear hdoor
  have HR1 := Aside0.mk hr1
  have HC1 := Aside0.mk hc1
  clear hr1 hc1
  have HR2 := Aside0.mk hr2
  have HC2 := Aside0.mk hc2
  clear hr2 hc2
  have H : ((beacon_graph_resolves.f k l773 l2).bind fun t124 => (some (t124, 0))) = some (r1, r2) := h
  clear h
  replace H := Option.bind_eq_some_iff.mp H
  obtain ⟨t124, A50, H⟩ := H
  replace H : (some (t124, 0)) = some (r1, r2) := H
  have A5 := Aside0.mk A50
  clear A50
  simp only [Option.some.injEq, Prod.mk.injEq] at H
  obtain ⟨rfl, rfl⟩ := H
  go_enter Tryd.func29, Tryd.ntmps29
  go_wp2_with (fail)
  refine HCALL.out.mono ?_
  rintro e w ⟨A773, rfl, hb00, hg00⟩
  obtain ⟨c773, hc773⟩ : ∃ c : Nat, l773.length ≤ c := ⟨_, Nat.le_refl _⟩
  have HC773 := Aside0.mk hc773
  have HR773 := Aside0.mk hg00
  replace HR1 := Aside0.mk (Kd.C_below HR1.out hb00)
  replace HR2 := Aside0.mk (Kd.C_below HR2.out hb00)
  have HB00 := Aside0.mk hb00
  have HDOOR := Aside0.mk (Door.below HDOOR0.out hb00)
  have hdo0 := HDOOR.out.c0
  have hdo1 := HDOOR.out.c1
  clear hc773 hg00 hb00 HCALL
  have HB := Aside0.mk (Below.refl w.heap.size w)
  go_wp2_with (first | ((with_reducible refine gate_callee (f := 47) rfl ?_); refine goesL_ (some 22) rfl rfl Tryd.func47 (by kernel_rfl) rfl #[.pointer A773, .slice A2 l2.length c2] rfl (by (try simp only [List.map_toArray, List.map_cons, List.map_nil]); first | done | rfl | (simp only [List.length_drop, List.length_take]; rfl)) ?_; (with_reducible refine (beacon_graph_resolves.calls k _ c773 l773 _ _ l2 t124 _ ?side1 ?side2 ?side3 ?side4 ?sideD A5.out).mono ?_); (case sideD => repeat (first | exact (Door.below HDOOR.out HB.out) | exact HDOOR.out | (with_reducible refine Door.alloc ?_ _) | (with_reducible refine Door.drewN ?_ _) | (with_reducible refine Door.drew ?_))); (case side1 => repeat (first | exact HR773.out | (with_reducible refine Kd.C_alloc ?_ _) | (with_reducible refine Kd.C_drewN ?_ _) | (with_reducible refine Kd.C_drew ?_))); (case side2 => exact HC773.out); (case side3 => repeat (first | exact HR2.out | (with_reducible refine Kd.C_alloc ?_ _) | (with_reducible refine Kd.C_drewN ?_ _) | (with_reducible refine Kd.C_drew ?_))); (case side4 => exact HC2.out); rintro e w6 ⟨rfl, hb⟩; refine ⟨_, rfl, ?_⟩; have n0_ := Aside0.mk (below_step (by repeat (first | (with_reducible first | exact HB.out | apply below_alloc | apply pw_below_drewN | apply below_drew1) | exact HB.out)) hb); clear HB; have HB := n0_; clear n0_; (try clear hb); (try clear hb2); (try clear hk); (try clear hi)))
  go_ret2
  exact ⟨w, HB00.out, by first | rfl | (simp [errW_none, errW_some] <;> rfl) | (simp [*, errW_none, errW_some] <;> rfl), by repeat (first | (with_reducible first | exact HB.out | apply below_alloc | apply pw_below_drewN | apply below_drew1) | exact HB.out)⟩

end Go.Proofs.YtbeimdngghedjaaDoor.P
