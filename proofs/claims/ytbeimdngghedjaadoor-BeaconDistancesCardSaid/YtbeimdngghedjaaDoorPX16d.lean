-- written by a program of this session
import Derived.Test.YtbeimdngghedjaaDoorPK
import Derived.Test.YtbeimdngghedjaaDoorPK2
import Derived.Test.YtbeimdngghedjaaDoorPF21
import Derived.Test.YtbeimdngghedjaaDoorPF39
import Derived.Test.YtbeimdngghedjaaDoorBB
import Derived.Test.YtbeimdngghedjaaDoorBId
import Derived.Test.YtbeimdngghedjaaDoorBZ
namespace Go.Proofs.YtbeimdngghedjaaDoor.P
open Go.RowKit Go.Proofs.YtbeimdngghedjaaDoorW.PrintWords Go.Proofs.YtbeimdngghedjaaDoorW.PrintLast Go.Proofs.YtbeimdngghedjaaDoorW.PrintMore
attribute [local go_sem] max2_int min2_int max_two min_two max_three min_three max_four min_four   -- for this text's walks alone
set_option linter.unusedVariables false
set_option linter.unusedSimpArgs false

/-! ### wogglelaw07_lives: function 16 -/
def wogglelaw07_lives.f (k : Nat)  : Option (Bool) := (some (([(⟨0, 1⟩ : S47), (⟨0, 2⟩ : S47), (⟨0, 3⟩ : S47)] : List (S47)) : List (S47))).bind fun y160 => ((beacon_Basis.f 4 y160).bind fun bt163 => ((beacon_Codes.f k 4 y160 (([1, 2] : List Int))).bind fun bt170 => ((beacon_Slater.f k 4 y160).bind fun bt174 => ((beacon_Double.f 3 (([(⟨0, 1⟩ : S47), (⟨1, 2⟩ : S47)] : List (S47)))).bind fun bt179 => ((woggleref01_Same.f k bt163.1 (([1, 2] : List Int))).bind fun t186 => (if t186 = true then (if bt163.2 = 0 then ((woggleref01_SameLists.f k bt170.1 (([(([1, 1] : List Int)), (([0, 2] : List Int)), (([2, 0] : List Int)), (([2, 2] : List Int))] : List (List Int)))).bind fun t202 => (if t202 = true then (if bt170.2 = 0 then (if bt174.1 = 2 then (if bt174.2 = 0 then ((woggleref01_Same.f k bt179.1 (([0, 2] : List Int))).bind fun t206 => (if t206 = true then (some (bt179.2 == 0)) else (some false))) else (some false)) else (some false)) else (some false)) else (some false))) else (some false)) else (some false)))))))
theorem wogglelaw07_lives.mono : ∀ k, LeO (wogglelaw07_lives.f k ) (wogglelaw07_lives.f (k + 1) ) := by
  intro  k
  unfold wogglelaw07_lives.f
  repeat' first
      | (with_reducible exact beacon_Codes.mono _ _ _ _)
      | (with_reducible exact beacon_Slater.mono _ _ _)
      | (with_reducible exact woggleref01_Same.mono _ _ _)
      | (with_reducible exact woggleref01_SameLists.mono _ _ _)
      | (with_reducible exact LeO.refl _)
      | (with_reducible exact LeO.none _)
      | (with_reducible refine LeO.ite ?_ ?_)
      | (with_reducible refine LeO.bind ?_ (fun _ => ?_))
      | exact beacon_Codes.mono _ _ _ _
      | exact beacon_Slater.mono _ _ _
      | exact woggleref01_Same.mono _ _ _
      | exact woggleref01_SameLists.mono _ _ _
      | exact LeO.none _
      | refine LeO.ite ?_ ?_
      | refine LeO.bind ?_ (fun _ => ?_)

end Go.Proofs.YtbeimdngghedjaaDoor.P
