-- written by a program of this session
import Derived.Test.YtbeimdngghedjaaDoorPK
import Derived.Test.YtbeimdngghedjaaDoorBZ
import Derived.Test.YtbeimdngghedjaaDoorPE0
import Derived.Test.YtbeimdngghedjaaDoorPF59
namespace Go.Proofs.YtbeimdngghedjaaDoor.P
open Go.RowKit Go.Proofs.YtbeimdngghedjaaDoorW.PrintWords Go.Proofs.YtbeimdngghedjaaDoorW.PrintLast Go.Proofs.YtbeimdngghedjaaDoorW.PrintMore
attribute [local go_sem] max2_int min2_int max_two min_two max_three min_three max_four min_four   -- for this text's walks alone
set_option linter.unusedVariables false
set_option linter.unusedSimpArgs false

attribute [local go_sem high] eqA47
/-! ### beacon_graph_resolves: function 47 -/
def beacon_graph_resolves.f (k : Nat) (l770 : List (S82)) (l1 : List Int) : Option (Bool) := (beacon_graph_confused.f k l770 l1).bind fun bt296 => (some (bt296.1 == (-1) && (bt296.2 == (-1))))
theorem beacon_graph_resolves.mono : ∀ a0 a1 k, LeO (beacon_graph_resolves.f k a0 a1) (beacon_graph_resolves.f (k + 1) a0 a1) := by
  intro a0 a1 k
  unfold beacon_graph_resolves.f
  repeat' first
      | (with_reducible exact beacon_graph_confused.mono _ _ _)
      | (with_reducible exact LeO.refl _)
      | (with_reducible exact LeO.none _)
      | (with_reducible refine LeO.ite ?_ ?_)
      | (with_reducible refine LeO.bind ?_ (fun _ => ?_))
      | exact beacon_graph_confused.mono _ _ _
      | exact LeO.none _
      | refine LeO.ite ?_ ?_
      | refine LeO.bind ?_ (fun _ => ?_)
set_option maxHeartbeats 8000000 in
set_option maxRecDepth 100000 in
set_option maxHeartbeats 4000000 in
set_option maxRecDepth 100000 in
theorem beacon_graph_resolves.calls (k : Nat) (A770 : Option Addr) (c770 : Nat) (l770 : List (S82)) (A1 : Option Addr) (c1 : Nat) (l1 : List Int) (r : Bool) (w : World) (hr770 : Kd.C k82 w A770 l770.length l770) (hc770 : l770.length ≤ c770) (hr1 : Kd.C (Kd.int .i64) w A1 l1.length l1) (hc1 : l1.length ≤ c1) (hdoor : Door w) (h : beacon_graph_resolves.f k l770 l1 = some r) :
    Calls Tryd.prog 47 #[.pointer A770, .slice A1 l1.length c1] w fun e w' => e = .returned (.bool r) ∧ Below w.heap.size w w' := by
  have hu47 := Tryd.underlying47
  have H : ((beacon_graph_confused.f k l770 l1).bind fun bt296 => (some (bt296.1 == (-1) && (bt296.2 == (-1))))) = some r := h
  replace H := Option.bind_eq_some_iff.mp H
  obtain ⟨⟨x, y⟩, hx, H⟩ := H
  replace H : (some (x == (-1) && (y == (-1)))) = some r := H
  have HRES := Aside0.mk (Option.some.inj H)
  have HCF := Aside0.mk (fun (W : World) (hb : Below w.heap.size w W) => beacon_graph_confused.calls k A770 c770 l770 A1 c1 l1 x y W (Kd.C_below hr770 hb) hc770 (Kd.C_below hr1 hb) hc1 (hdoor.below hb) hx)
  have HD := Aside0.mk hdoor
  have d0 := hdoor.c0
  have d1 := hdoor.c1
  clear h H hx hr770 hc770 hr1 hc1 hdoor
  go_enter Tryd.func47, Tryd.ntmps47
  go_wp2
  go_region_held3 (fun w' => w'.cell? ⟨0, 0, none⟩ = some (.int .i64 (-1)) ∧ w'.cell? ⟨0, 1, none⟩ = some (.int .i64 (-1))) (first | exact ⟨d0, d1⟩ | exact ⟨e0, e1⟩)
    (first
    | (go_at_call 59; with_reducible refine (HCF.out _ (below_drew1 (Below.refl _ _))).mono ?_; rintro e w5 ⟨rfl, hb⟩; have HB5 := Aside0.mk (show Below w.heap.size w w5 from below_then (below_drew1 (Below.refl _ _)) (Nat.le_refl _) hb); have e0 := (HD.out.below HB5.out).c0; have e1 := (HD.out.below HB5.out).c1; clear hb))
  all_goals
    go_wp2
    go_ret
    exact ⟨by rw [← HRES.out]; rfl, HB5.out⟩

end Go.Proofs.YtbeimdngghedjaaDoor.P
