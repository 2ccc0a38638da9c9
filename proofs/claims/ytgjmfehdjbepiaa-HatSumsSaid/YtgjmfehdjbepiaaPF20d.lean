-- written by a program of this session
import Derived.Test.YtgjmfehdjbepiaaPK
import Derived.Test.YtgjmfehdjbepiaaPF23
import Derived.Test.YtgjmfehdjbepiaaPF24
import Derived.Test.YtgjmfehdjbepiaaPF25
import Derived.Test.YtgjmfehdjbepiaaPF28
import Derived.Test.YtgjmfehdjbepiaaPF30
import Derived.Test.YtgjmfehdjbepiaaG18
namespace Go.Proofs.Ytgjmfehdjbepiaa.P
open Go.RowKit Go.Proofs.YtgjmfehdjbepiaaW.PrintWords Go.Proofs.YtgjmfehdjbepiaaW.PrintLast Go.Proofs.YtgjmfehdjbepiaaW.PrintMore
attribute [local go_sem] max2_int min2_int max_two min_two max_three min_three max_four min_four   -- for this text's walks alone
set_option linter.unusedVariables false
set_option linter.unusedSimpArgs false

/-! ### wogglelaw09_lives: function 20 -/
def wogglelaw09_lives.f (k : Nat)  : Option (Bool) := (hat_Find.f 2 2 (([(⟨0, 1⟩ : S71)] : List (S71)))).bind fun bt195 => ((hat_Ebert.f k (([0, 1, 0] : List Int))).bind fun bt202 => ((hat_Wins.f k (([0, 0, 0] : List Int))).bind fun bt209 => ((hat_Line.f k 2 (([1, 0, 1] : List Int))).bind fun bt214 => ((woggleref01_SameLists.f k bt195.1 (([(([0, 1] : List Int)), (([1, 0] : List Int))] : List (List Int)))).bind fun t227 => (if t227 = true then (if bt195.2 = 0 then ((woggleref01_Same.f k bt202.1 (([(-1), 1, (-1)] : List Int))).bind fun t231 => (if t231 = true then (if bt202.2 = 0 then (if bt209.1 = true then (some false) else (if bt209.2 = 0 then ((woggleref01_Same.f k bt214.1 (([1, 0, 1] : List Int))).bind fun t235 => (if t235 = true then (some (bt214.2 == 0)) else (some false))) else (some false))) else (some false)) else (some false))) else (some false)) else (some false))))))
theorem wogglelaw09_lives.mono : ∀ k, LeO (wogglelaw09_lives.f k ) (wogglelaw09_lives.f (k + 1) ) := by
  intro  k
  unfold wogglelaw09_lives.f
  repeat' first
      | (with_reducible exact hat_Ebert.mono _ _)
      | (with_reducible exact hat_Line.mono _ _ _)
      | (with_reducible exact hat_Wins.mono _ _)
      | (with_reducible exact woggleref01_Same.mono _ _ _)
      | (with_reducible exact woggleref01_SameLists.mono _ _ _)
      | (with_reducible exact LeO.refl _)
      | (with_reducible exact LeO.none _)
      | (with_reducible refine LeO.ite ?_ ?_)
      | (with_reducible refine LeO.bind ?_ (fun _ => ?_))
      | exact hat_Ebert.mono _ _
      | exact hat_Line.mono _ _ _
      | exact hat_Wins.mono _ _
      | exact woggleref01_Same.mono _ _ _
      | exact woggleref01_SameLists.mono _ _ _
      | exact LeO.none _
      | refine LeO.ite ?_ ?_
      | refine LeO.bind ?_ (fun _ => ?_)

end Go.Proofs.Ytgjmfehdjbepiaa.P
