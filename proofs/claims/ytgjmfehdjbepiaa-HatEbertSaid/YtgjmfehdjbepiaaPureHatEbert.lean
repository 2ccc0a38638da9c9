import Derived.Test.YtgjmfehdjbepiaaPF9
import Derived.OpenShut
import Derived.IntWalk
namespace Go.Proofs.Ytgjmfehdjbepiaa.Pure
open Go Go.Proofs Go.RowKit Go.Proofs.Ytgjmfehdjbepiaa.P Go.Proofs.YtgjmfehdjbepiaaW.PrintWords Go.Proofs.YtgjmfehdjbepiaaW.PrintLast
set_option maxRecDepth 100000

theorem ebert0 : wogglelaw09_HatEbert.f 3000 0 = some true := by decide +kernel
theorem ebert1 : wogglelaw09_HatEbert.f 3000 1 = some true := by decide +kernel
theorem ebert2 : wogglelaw09_HatEbert.f 3000 2 = some true := by decide +kernel
theorem ebert_mod (a b : Int) (h : Int.tmod (wrap64 a) 3 = Int.tmod (wrap64 b) 3) (k : Nat) : wogglelaw09_HatEbert.f k a = wogglelaw09_HatEbert.f k b := by
  unfold wogglelaw09_HatEbert.f
  rw [h]
theorem HatEbert : wogglelaw09_HatEbert.Pure := by
  intro a h
  have h0 := bounds_u8 h
  have hw : wrap64 a = a := IntWalk.wrap64_in a (by omega)
  refine ⟨3000, ?_⟩
  have hm : Int.tmod a 3 = 0 ∨ Int.tmod a 3 = 1 ∨ Int.tmod a 3 = 2 := by
    have := Int.tmod_eq_emod_of_nonneg (b := 3) h0.1; omega
  obtain hm | hm | hm := hm
  · rw [ebert_mod a 0 (by rw [hw, hm]; decide +kernel)]; exact ebert0
  · rw [ebert_mod a 1 (by rw [hw, hm]; decide +kernel)]; exact ebert1
  · rw [ebert_mod a 2 (by rw [hw, hm]; decide +kernel)]; exact ebert2

end Go.Proofs.Ytgjmfehdjbepiaa.Pure
