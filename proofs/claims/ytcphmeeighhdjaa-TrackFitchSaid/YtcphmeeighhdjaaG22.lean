/- What lives answers: true, and nothing else. -/
import Derived.Test.YtcphmeeighhdjaaPF22d
namespace Go.Proofs.Ytcphmeeighhdjaa.P
open Go.RowKit Go.Proofs.YtcphmeeighhdjaaW.PrintWords
set_option maxRecDepth 100000
theorem track_lives_at : wogglelaw02_lives.f 40 = some true := by decide +kernel
theorem leo_up {α : Type} {f : Nat → Option α} (m : ∀ k, LeO (f k) (f (k + 1))) {k : Nat} {r : α} (h : f k = some r) : ∀ j, f (k + j) = some r
  | 0 => h
  | j + 1 => m _ _ (leo_up m h j)
theorem wogglelaw02_lives.only (k : Nat) (r : Bool) (h : wogglelaw02_lives.f k = some r) : r = true := by
  have h1 := leo_up wogglelaw02_lives.mono h 40
  have h2 := leo_up wogglelaw02_lives.mono track_lives_at k
  rw [Nat.add_comm] at h2
  exact Option.some.inj (h1.symm.trans h2)
end Go.Proofs.Ytcphmeeighhdjaa.P
