-- written by a program of this session
import Derived.Test.YtcphmeeighhdjaaPK
import Derived.Test.YtcphmeeighhdjaaPF35
import Derived.Test.YtcphmeeighhdjaaPF36
import Derived.Test.YtcphmeeighhdjaaPX39
import Derived.Test.YtcphmeeighhdjaaPF22
import Derived.Test.YtcphmeeighhdjaaPF22d
import Derived.Test.YtcphmeeighhdjaaGH
import Derived.Test.YtcphmeeighhdjaaRN2
namespace Go.Proofs.Ytcphmeeighhdjaa.P
open Go.RowKit Go.Proofs.YtcphmeeighhdjaaW.PrintWords Go.Proofs.YtcphmeeighhdjaaW.PrintLast Go.Proofs.YtcphmeeighhdjaaW.PrintMore
attribute [local go_sem] max2_int min2_int max_two min_two max_three min_three max_four min_four   -- for this text's walks alone
set_option linter.unusedVariables false
set_option linter.unusedSimpArgs false

/-! ### wogglelaw02_TrackRoot_t: function 8 -/
def wogglelaw02_TrackRoot_t.f (k : Nat) (a0 : Int) (a1 : Int) (a2 : Int) (a3 : Int) (l4 : List (S67)) (a5 : Int) (l6 : List (List Int)) (l7 : List Int) (a8 : Int) (a9 : Int) (a10 : Int) (a11 : Int) (a12 : Int) (l13 : List (S67)) : Option (Bool) := (track_Least.f k a3 l4 l6 l7).bind fun bt295 => ((track_Least.f k a3 l13 l6 l7).bind fun bt297 => (if bt295.2 = 0 then (if bt297.2 = 0 then (if bt295.1 = bt297.1 then ((wogglelaw02_lives.f k).bind fun t299 => (some t299)) else (some false)) else (some false)) else (some false)))
/-- The node's number once inner is gone. -/
def name8 (inner v : Int) : Int := if v > inner then v - 1 else v
/-- The joins up to i, less the one that leaves. -/
def mv8 (inner a : Int) (J : List S67) : Nat → List S67
  | 0 => []
  | i + 1 => if (i : Int) = a then mv8 inner a J i else mv8 inner a J i ++ [⟨name8 inner (rd_T67 J i).f0, name8 inner (rd_T67 J i).f1⟩]
def moved8 (n inner other : Int) (J : List S67) : List S67 :=
  mv8 inner (inner - n) J (J.length - 1) ++ [⟨name8 inner (rd_T67 J (inner - n)).f1, name8 inner other⟩, ⟨name8 inner (rd_T67 J (inner - n)).f0, n + (J.length : Int) - 2⟩]
open Classical in
/-- What follows the reading. -/
noncomputable def mid8 (k : Nat) (n : Int) (J : List S67) (C : List (List Int)) (L : List Int) : Option Bool :=
  if Pure.TreeOk n J then
    if (rd_T67 J ((J.length - 1 : Nat) : Int)).f0 < n then
      if (rd_T67 J ((J.length - 1 : Nat) : Int)).f1 < n then wogglelaw02_lives.f k
      else wogglelaw02_TrackRoot_t.f k 0 0 0 n J 0 C L 0 0 0 0 0 (moved8 n (rd_T67 J ((J.length - 1 : Nat) : Int)).f1 (rd_T67 J ((J.length - 1 : Nat) : Int)).f0 J)
    else wogglelaw02_TrackRoot_t.f k 0 0 0 n J 0 C L 0 0 0 0 0 (moved8 n (rd_T67 J ((J.length - 1 : Nat) : Int)).f0 (rd_T67 J ((J.length - 1 : Nat) : Int)).f1 J)
  else none
noncomputable def wogglelaw02_TrackRoot.f (k : Nat) (a0_0 : Int) (a0_1 : Int) (l0_2 : List Int) (l0_3 : List Int) (l0_4 : List Int) : Option (Bool) := (wogglelaw02_made.f k a0_0 l0_2).bind fun bt296 => ((wogglelaw02_costs.f k (wrap64 ((Int.tmod (wrap64 (a0_1)) 4) + 1)) l0_3 true).bind fun t300 => ((wogglelaw02_states.f k bt296.1 (wrap64 ((Int.tmod (wrap64 (a0_1)) 4) + 1)) l0_4).bind fun t303 => (mid8 k bt296.1 bt296.2 t300 t303)))
/-- THE ONE PURE STATEMENT of wogglelaw02_TrackRoot: yours. -/
def wogglelaw02_TrackRoot.Pure : Prop := ∀ (a0_0 : Int) (a0_1 : Int) (l0_2 : List Int) (l0_3 : List Int) (l0_4 : List Int), (Lit.int .u8 a0_0).wf = true → (Lit.int .u8 a0_1).wf = true → (l0_2.length ≤ maxLen ∧ ∀ x0_ ∈ l0_2, (Lit.int .u8 x0_).wf = true) → (l0_3.length ≤ maxLen ∧ ∀ x0_ ∈ l0_3, (Lit.int .u8 x0_).wf = true) → (l0_4.length ≤ maxLen ∧ ∀ x0_ ∈ l0_4, (Lit.int .u8 x0_).wf = true) → ∃ k, wogglelaw02_TrackRoot.f k a0_0 a0_1 l0_2 l0_3 l0_4 = some true

end Go.Proofs.Ytcphmeeighhdjaa.P
