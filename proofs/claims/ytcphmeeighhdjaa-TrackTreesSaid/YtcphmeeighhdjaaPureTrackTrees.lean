/- For every number of leaves, Trees answers the product of the odd numbers, or the error: in plain numbers. -/
import Derived.Test.YtcphmeeighhdjaaPF5
namespace Go.Proofs.Ytcphmeeighhdjaa.Pure
open Go.RowKit Go.Proofs.Ytcphmeeighhdjaa.P Go.Proofs.YtcphmeeighhdjaaW.PrintWords Go.Proofs.YtcphmeeighhdjaaW.PrintLast
set_option maxRecDepth 100000

theorem lives_at (j : Nat) : wogglelaw02_lives.f (40 + j) = some true := leo_up wogglelaw02_lives.mono track_lives_at j
theorem trees_few : ∀ n ∈ List.range 9, 2 ≤ n → wogglelaw02_TrackTrees.f 100 ((n : Nat) : Int) = some true := by decide +kernel
theorem trees_out (a0 : Int) (h : a0 < 2 ∨ a0 > 8) : wogglelaw02_TrackTrees.f 100 a0 = some true := by
  have e1 : track_Trees.f 100 a0 = some (0, 1) := by
    unfold track_Trees.f
    by_cases c : a0 < 2
    · rw [if_pos c]; rfl
    · rw [if_neg c, decide_eq_true (h.resolve_left c)]; rfl
  have e2 : wogglelaw02_TrackTrees.j0 100 a0 0 1 true = some true := by
    have h : wogglelaw02_lives.f 99 = some true := lives_at 59
    simp only [wogglelaw02_TrackTrees.j0, if_true, h]; rfl
  unfold wogglelaw02_TrackTrees.f
  rw [e1]
  show (if a0 < 2 then wogglelaw02_TrackTrees.j0 100 a0 0 1 true else wogglelaw02_TrackTrees.j0 100 a0 0 1 (decide (a0 > 8))) = _
  by_cases c : a0 < 2
  · rw [if_pos c, e2]
  · rw [if_neg c, decide_eq_true (h.resolve_left c), e2]
theorem TrackTrees : wogglelaw02_TrackTrees.Pure := by
  intro a0 _
  refine ⟨100, ?_⟩
  by_cases h : a0 < 2 ∨ a0 > 8
  · exact trees_out a0 h
  · obtain ⟨n, rfl⟩ : ∃ n : Nat, a0 = n := ⟨a0.toNat, by omega⟩
    exact trees_few n (List.mem_range.2 (by omega)) (by omega)

end Go.Proofs.Ytcphmeeighhdjaa.Pure
