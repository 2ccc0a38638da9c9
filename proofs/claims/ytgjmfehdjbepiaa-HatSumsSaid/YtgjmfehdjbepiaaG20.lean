import Derived.Test.YtgjmfehdjbepiaaPF20d
namespace Go.Proofs.Ytgjmfehdjbepiaa.P
open Go.RowKit Go.Proofs.YtgjmfehdjbepiaaW.PrintWords
set_option maxRecDepth 100000
theorem hat_lives_at : wogglelaw09_lives.f 40 = some true := by decide +kernel
theorem leo_up {α : Type} {f : Nat → Option α} (m : ∀ k, LeO (f k) (f (k + 1))) {k : Nat} {r : α} (h : f k = some r) : ∀ j, f (k + j) = some r
  | 0 => h
  | j + 1 => m _ _ (leo_up m h j)
theorem wogglelaw09_lives.only (k : Nat) (r : Bool) (h : wogglelaw09_lives.f k = some r) : r = true := by
  have h1 := leo_up wogglelaw09_lives.mono h 40
  have h2 := leo_up wogglelaw09_lives.mono hat_lives_at k
  rw [Nat.add_comm] at h2
  exact Option.some.inj (h1.symm.trans h2)
#print axioms wogglelaw09_lives.only
end Go.Proofs.Ytgjmfehdjbepiaa.P
