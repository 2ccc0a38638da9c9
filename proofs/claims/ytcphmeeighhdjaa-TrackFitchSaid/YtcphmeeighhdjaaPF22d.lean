-- written by a program of this session
import Derived.Test.YtcphmeeighhdjaaPK
import Derived.Test.YtcphmeeighhdjaaPF19
import Derived.Test.YtcphmeeighhdjaaPF25
import Derived.Test.YtcphmeeighhdjaaPF29
import Derived.Test.YtcphmeeighhdjaaPF31
import Derived.Test.YtcphmeeighhdjaaPF37
import Derived.Test.YtcphmeeighhdjaaGH
import Derived.Test.YtcphmeeighhdjaaGI
namespace Go.Proofs.Ytcphmeeighhdjaa.P
open Go.RowKit Go.Proofs.YtcphmeeighhdjaaW.PrintWords Go.Proofs.YtcphmeeighhdjaaW.PrintLast Go.Proofs.YtcphmeeighhdjaaW.PrintMore
attribute [local go_sem] max2_int min2_int max_two min_two max_three min_three max_four min_four   -- for this text's walks alone
set_option linter.unusedVariables false
set_option linter.unusedSimpArgs false

/-! ### wogglelaw02_lives: function 22 -/
def wogglelaw02_lives.f (k : Nat)  : Option (Bool) := (some (([(⟨0, 1⟩ : S67), (⟨2, 3⟩ : S67), (⟨4, 5⟩ : S67)] : List (S67)) : List (S67))).bind fun y204 => ((track_Fitch.f k 4 y204 2 (([0, 0, 1, 1] : List Int))).bind fun bt210 => ((woggleref02_Unit.f k 2).bind fun t215 => ((track_Label.f k 4 y204 t215 (([0, 1, 0, 1] : List Int))).bind fun bt221 => ((woggleref02_Unit.f k 2).bind fun t225 => ((track_Ways.f k 4 y204 t225 (([0, 1, 0, 1] : List Int))).bind fun bt231 => ((track_Trees.f k 4).bind fun bt233 => ((woggleref01_SameLists.f k bt210.1 (([(([0] : List Int)), (([1] : List Int)), (([0, 1] : List Int))] : List (List Int)))).bind fun t247 => (if t247 = true then (if bt210.2.1 = 1 then (if bt210.2.2 = 0 then ((woggleref01_Same.f k bt221.1 (([0, 0, 0] : List Int))).bind fun t251 => (if t251 = true then (if bt221.2 = 0 then (if bt231.1 = 2 then (if bt231.2 = 0 then (if bt233.1 = 15 then (some (bt233.2 == 0)) else (some false)) else (some false)) else (some false)) else (some false)) else (some false))) else (some false)) else (some false)) else (some false)))))))))
theorem wogglelaw02_lives.mono : ∀ k, LeO (wogglelaw02_lives.f k ) (wogglelaw02_lives.f (k + 1) ) := by
  intro  k
  unfold wogglelaw02_lives.f
  repeat' first
      | (with_reducible exact track_Fitch.mono _ _ _ _ _)
      | (with_reducible exact track_Label.mono _ _ _ _ _)
      | (with_reducible exact track_Trees.mono _ _)
      | (with_reducible exact track_Ways.mono _ _ _ _ _)
      | (with_reducible exact woggleref01_Same.mono _ _ _)
      | (with_reducible exact woggleref01_SameLists.mono _ _ _)
      | (with_reducible exact woggleref02_Unit.mono _ _)
      | (with_reducible exact LeO.refl _)
      | (with_reducible exact LeO.none _)
      | (with_reducible refine LeO.ite ?_ ?_)
      | (with_reducible refine LeO.bind ?_ (fun _ => ?_))
      | exact track_Fitch.mono _ _ _ _ _
      | exact track_Label.mono _ _ _ _ _
      | exact track_Trees.mono _ _
      | exact track_Ways.mono _ _ _ _ _
      | exact woggleref01_Same.mono _ _ _
      | exact woggleref01_SameLists.mono _ _ _
      | exact woggleref02_Unit.mono _ _
      | exact LeO.none _
      | refine LeO.ite ?_ ?_
      | refine LeO.bind ?_ (fun _ => ?_)

end Go.Proofs.Ytcphmeeighhdjaa.P
