/- HatFound's plain law: for every two small numbers the function tells true, with some number of rounds. No condition. -/
import Derived.Test.YtgjmfehdjbepiaaPF11
import Derived.OpenShut
import Derived.IntWalk
namespace Go.Proofs.Ytgjmfehdjbepiaa.Pure
open Go Go.Proofs Go.RowKit Go.Proofs.Ytgjmfehdjbepiaa.P Go.Proofs.YtgjmfehdjbepiaaW.PrintWords Go.Proofs.YtgjmfehdjbepiaaW.PrintLast
set_option maxRecDepth 100000

theorem found0 : ((List.range 256).all fun s => wogglelaw09_HatFound.f 100 0 (s : Int) == some true) = true := by decide +kernel
theorem found1 : ((List.range 256).all fun s => wogglelaw09_HatFound.f 100 1 (s : Int) == some true) = true := by decide +kernel
theorem found2 : ((List.range 256).all fun s => wogglelaw09_HatFound.f 100 2 (s : Int) == some true) = true := by decide +kernel
theorem found_mod (a b s : Int) (h : Int.tmod (wrap64 a) 3 = Int.tmod (wrap64 b) 3) (k : Nat) : wogglelaw09_HatFound.f k a s = wogglelaw09_HatFound.f k b s := by
  unfold wogglelaw09_HatFound.f
  rw [h]
theorem HatFound : wogglelaw09_HatFound.Pure := by
  intro a s h hs
  have h0 := bounds_u8 h
  have s0 := bounds_u8 hs
  obtain ⟨s, rfl⟩ := Int.eq_ofNat_of_zero_le s0.1
  have hsr : s ∈ List.range 256 := List.mem_range.2 (by omega)
  have hw : wrap64 a = a := IntWalk.wrap64_in a (by omega)
  refine ⟨100, ?_⟩
  have hm : Int.tmod a 3 = 0 ∨ Int.tmod a 3 = 1 ∨ Int.tmod a 3 = 2 := by
    have := Int.tmod_eq_emod_of_nonneg (b := 3) h0.1; omega
  obtain hm | hm | hm := hm
  · rw [found_mod a 0 s (by rw [hw, hm]; decide +kernel)]; simpa using List.all_eq_true.1 found0 s hsr
  · rw [found_mod a 1 s (by rw [hw, hm]; decide +kernel)]; simpa using List.all_eq_true.1 found1 s hsr
  · rw [found_mod a 2 s (by rw [hw, hm]; decide +kernel)]; simpa using List.all_eq_true.1 found2 s hsr

end Go.Proofs.Ytgjmfehdjbepiaa.Pure
