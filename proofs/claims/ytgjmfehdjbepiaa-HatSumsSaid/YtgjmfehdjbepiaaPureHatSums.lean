import Derived.Test.YtgjmfehdjbepiaaPF7
namespace Go.Proofs.Ytgjmfehdjbepiaa.Pure
open Go.RowKit Go.Proofs.Ytgjmfehdjbepiaa.P Go.Proofs.YtgjmfehdjbepiaaW.PrintWords Go.Proofs.YtgjmfehdjbepiaaW.PrintLast
set_option maxRecDepth 100000

theorem sums1 : wogglelaw09_HatSums.f 3000 1 = some true := by decide +kernel
theorem sums2 : wogglelaw09_HatSums.f 3000 2 = some true := by decide +kernel
theorem sums3 : wogglelaw09_HatSums.f 3000 3 = some true := by decide +kernel
theorem sums4 : wogglelaw09_HatSums.f 3000 4 = some true := by decide +kernel
theorem sums_lives : wogglelaw09_lives.f 40 = some true := by decide +kernel
theorem sums_bad (a : Int) (h : a < 1 ∨ a > 4) : hat_Sum.f 50 a = some ([], 1) ∧ wogglelaw09_HatSums.f 50 a = wogglelaw09_HatSums.j0 50 a [] 1 true := by
  have h1 : hat_Sum.f 50 a = some ([], 1) := by
    unfold hat_Sum.f
    by_cases h1 : a < 1
    · rw [if_pos h1]; rfl
    · rw [if_neg h1, decide_eq_true (by omega)]; rfl
  refine ⟨h1, ?_⟩
  unfold wogglelaw09_HatSums.f
  rw [h1, Option.bind_some]
  by_cases h1 : a < 1
  · rw [if_pos h1]
  · rw [if_neg h1, decide_eq_true (by omega)]
theorem HatSums : wogglelaw09_HatSums.Pure := by
  intro a _
  by_cases h : a < 1 ∨ a > 4
  · refine ⟨50, ?_⟩
    rw [(sums_bad a h).2]
    show ((wogglelaw09_lives.f 49).bind fun t449 => (some t449)) = some true
    rw [at_rounds wogglelaw09_lives.mono (k := 40) (by decide) sums_lives]; rfl
  · refine ⟨3000, ?_⟩
    obtain rfl | rfl | rfl | rfl : a = 1 ∨ a = 2 ∨ a = 3 ∨ a = 4 := by omega
    · exact sums1
    · exact sums2
    · exact sums3
    · exact sums4

end Go.Proofs.Ytgjmfehdjbepiaa.Pure
