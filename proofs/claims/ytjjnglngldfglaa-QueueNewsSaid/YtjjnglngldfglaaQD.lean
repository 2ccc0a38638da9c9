/- The contract of Stage. -/
import Derived.Test.YtjjnglngldfglaaQC
import Derived.Handy
namespace Go.Proofs.Ytjjnglngldfglaa.P
set_option linter.unusedVariables false
open Go Go.RowKit Go.Proofs.YtjjnglngldfglaaW.PrintWords Go.Proofs.YtjjnglngldfglaaW.PrintLast Go.Proofs.YtjjnglngldfglaaW.PrintMore

theorem num_63 (W : World) : Calls Try.prog 63 #[.agg #[]] W fun e w' => e = .returned (.int .i64 7) ∧ Below W.heap.size W w' := by
  go_enter Try.func63, Try.ntmps63
  go_wp2
  go_ret
  exact ⟨rfl, below_alloc (Below.refl _ _) _⟩
theorem num_64 (W : World) : Calls Try.prog 64 #[.agg #[]] W fun e w' => e = .returned (.int .i64 0) ∧ Below W.heap.size W w' := by
  go_enter Try.func64, Try.ntmps64
  go_wp2
  go_ret
  exact ⟨rfl, below_alloc (Below.refl _ _) _⟩
theorem num_65 (W : World) : Calls Try.prog 65 #[.agg #[]] W fun e w' => e = .returned (.int .i64 1) ∧ Below W.heap.size W w' := by
  go_enter Try.func65, Try.ntmps65
  go_wp2
  go_ret
  exact ⟨rfl, below_alloc (Below.refl _ _) _⟩
theorem num_66 (j : Int) (seen : Int) (W : World) : Calls Try.prog 66 #[.agg #[.int .i64 j, .int .i64 seen]] W fun e w' => e = .returned (.int .i64 2) ∧ Below W.heap.size W w' := by
  go_enter Try.func66, Try.ntmps66
  go_wp2
  go_ret
  exact ⟨rfl, below_alloc (Below.refl _ _) _⟩
theorem num_67 (seen : Int) (W : World) : Calls Try.prog 67 #[.agg #[.int .i64 seen]] W fun e w' => e = .returned (.int .i64 3) ∧ Below W.heap.size W w' := by
  go_enter Try.func67, Try.ntmps67
  go_wp2
  go_ret
  exact ⟨rfl, below_alloc (Below.refl _ _) _⟩
theorem num_68 (W : World) : Calls Try.prog 68 #[.agg #[]] W fun e w' => e = .returned (.int .i64 4) ∧ Below W.heap.size W w' := by
  go_enter Try.func68, Try.ntmps68
  go_wp2
  go_ret
  exact ⟨rfl, below_alloc (Below.refl _ _) _⟩
theorem num_69 (j : Int) (W : World) : Calls Try.prog 69 #[.agg #[.int .i64 j]] W fun e w' => e = .returned (.int .i64 5) ∧ Below W.heap.size W w' := by
  go_enter Try.func69, Try.ntmps69
  go_wp2
  go_ret
  exact ⟨rfl, below_alloc (Below.refl _ _) _⟩
theorem num_70 (j : Int) (W : World) : Calls Try.prog 70 #[.agg #[.int .i64 j]] W fun e w' => e = .returned (.int .i64 6) ∧ Below W.heap.size W w' := by
  go_enter Try.func70, Try.ntmps70
  go_wp2
  go_ret
  exact ⟨rfl, below_alloc (Below.refl _ _) _⟩
/-- What Stage answers. -/
def stOf (sh : Sh) (i : Int) : Int := if errI sh i = 0 then (scAt sh i).st.num else -1
set_option maxRecDepth 100000 in
set_option maxHeartbeats 4000000 in
theorem Stage_calls (W : World) (b g gs : Nat) (sh : Sh) (h : Shp W b g gs sh) (i : Int) : Calls Try.prog 17 #[.pointer (some ⟨g, 0, none⟩), .int .i64 i] W fun e w' => e = .returned (.int .i64 (stOf sh i)) ∧ Below W.heap.size W w' := by
  have hc := Aside0.mk (check_calls W b g gs sh h i)
  unfold stOf
  by_cases c : errI sh i = 0
  · rw [if_pos c]
    obtain ⟨k, rfl, hk⟩ := errI_ok c
    have c0 := h.c0
    obtain ⟨x0, x1, x2⟩ := h.at_ k hk
    have cb : (errI sh k != 0) = false := bne_eq_false_iff_eq.2 c
    have p1 : decide (k < sh.sc.length) = true := decide_eq_true hk
    have p2 : ((k : Int) < (sh.sc.length : Int)) = True := eq_true (by omega)
    generalize errI sh k = er at *
    generalize (scAt sh k).st = s at *
    clear h hk c x0 x1
    cases s with
    | inside =>
      replace x2 : W.cell? ⟨gs, k * 3 + 2, none⟩ = some (.iface 78 (.agg #[])) := x2
      go_enter Try.func17, Try.ntmps17
      go_wp2_with (fail)
      refine hc.out.mono ?_
      rintro e w' ⟨rfl, rfl⟩
      go_wp2_with (fail)
      refine (num_63  W).mono ?_
      rintro e w' ⟨rfl, hb⟩
      go_wp2
      go_ret
      exact ⟨rfl, hb⟩
    | idle =>
      replace x2 : W.cell? ⟨gs, k * 3 + 2, none⟩ = some (.iface 80 (.agg #[])) := x2
      go_enter Try.func17, Try.ntmps17
      go_wp2_with (fail)
      refine hc.out.mono ?_
      rintro e w' ⟨rfl, rfl⟩
      go_wp2_with (fail)
      refine (num_64  W).mono ?_
      rintro e w' ⟨rfl, hb⟩
      go_wp2
      go_ret
      exact ⟨rfl, hb⟩
    | announce =>
      replace x2 : W.cell? ⟨gs, k * 3 + 2, none⟩ = some (.iface 81 (.agg #[])) := x2
      go_enter Try.func17, Try.ntmps17
      go_wp2_with (fail)
      refine hc.out.mono ?_
      rintro e w' ⟨rfl, rfl⟩
      go_wp2_with (fail)
      refine (num_65  W).mono ?_
      rintro e w' ⟨rfl, hb⟩
      go_wp2
      go_ret
      exact ⟨rfl, hb⟩
    | read j seen =>
      replace x2 : W.cell? ⟨gs, k * 3 + 2, none⟩ = some (.iface 83 (.agg #[.int .i64 j, .int .i64 seen])) := x2
      go_enter Try.func17, Try.ntmps17
      go_wp2_with (fail)
      refine hc.out.mono ?_
      rintro e w' ⟨rfl, rfl⟩
      go_wp2_with (fail)
      refine (num_66 j seen W).mono ?_
      rintro e w' ⟨rfl, hb⟩
      go_wp2
      go_ret
      exact ⟨rfl, hb⟩
    | take seen =>
      replace x2 : W.cell? ⟨gs, k * 3 + 2, none⟩ = some (.iface 85 (.agg #[.int .i64 seen])) := x2
      go_enter Try.func17, Try.ntmps17
      go_wp2_with (fail)
      refine hc.out.mono ?_
      rintro e w' ⟨rfl, rfl⟩
      go_wp2_with (fail)
      refine (num_67 seen W).mono ?_
      rintro e w' ⟨rfl, hb⟩
      go_wp2
      go_ret
      exact ⟨rfl, hb⟩
    | announced =>
      replace x2 : W.cell? ⟨gs, k * 3 + 2, none⟩ = some (.iface 86 (.agg #[])) := x2
      go_enter Try.func17, Try.ntmps17
      go_wp2_with (fail)
      refine hc.out.mono ?_
      rintro e w' ⟨rfl, rfl⟩
      go_wp2_with (fail)
      refine (num_68  W).mono ?_
      rintro e w' ⟨rfl, hb⟩
      go_wp2
      go_ret
      exact ⟨rfl, hb⟩
    | choice j =>
      replace x2 : W.cell? ⟨gs, k * 3 + 2, none⟩ = some (.iface 88 (.agg #[.int .i64 j])) := x2
      go_enter Try.func17, Try.ntmps17
      go_wp2_with (fail)
      refine hc.out.mono ?_
      rintro e w' ⟨rfl, rfl⟩
      go_wp2_with (fail)
      refine (num_69 j W).mono ?_
      rintro e w' ⟨rfl, hb⟩
      go_wp2
      go_ret
      exact ⟨rfl, hb⟩
    | turn j =>
      replace x2 : W.cell? ⟨gs, k * 3 + 2, none⟩ = some (.iface 89 (.agg #[.int .i64 j])) := x2
      go_enter Try.func17, Try.ntmps17
      go_wp2_with (fail)
      refine hc.out.mono ?_
      rintro e w' ⟨rfl, rfl⟩
      go_wp2_with (fail)
      refine (num_70 j W).mono ?_
      rintro e w' ⟨rfl, hb⟩
      go_wp2
      go_ret
      exact ⟨rfl, hb⟩
  · rw [if_neg c]
    have cb : (errI sh i != 0) = true := bne_iff_ne.2 c
    generalize errI sh i = er at *
    clear h c
    go_enter Try.func17, Try.ntmps17
    go_wp2_with (fail)
    refine hc.out.mono ?_
    rintro e w' ⟨rfl, rfl⟩
    go_wp2
    go_ret
    exact ⟨rfl, Below.refl _ _⟩
end Go.Proofs.Ytjjnglngldfglaa.P
