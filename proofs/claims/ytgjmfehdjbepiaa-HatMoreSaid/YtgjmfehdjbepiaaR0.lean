/- That a list equals itself by woggleref01.Same, for lists of at most 1000000 numbers. -/
import Derived.Test.YtgjmfehdjbepiaaML1
import Derived.Test.YtgjmfehdjbepiaaML2
import Derived.Test.YtgjmfehdjbepiaaRT
import Derived.OpenShut
import Derived.IntWalk
namespace Go.Proofs.Ytgjmfehdjbepiaa.Pure
open Go Go.Proofs Go.RowKit Go.Proofs.Ytgjmfehdjbepiaa.P Go.Proofs.YtgjmfehdjbepiaaW.PrintWords Go.Proofs.YtgjmfehdjbepiaaW.PrintLast
set_option maxRecDepth 100000

theorem before_l0_self (l : List Int) (hl : l.length ≤ 1000000) (m : Nat) : ∀ (i k : Nat), i + m = l.length → 2 * m + 1 < k →
    woggleref01_Before.l0 k l l i = some false := by
  induction m with
  | zero =>
    intro i k h hk
    obtain ⟨k, rfl⟩ : ∃ j, k = j + 1 + 1 := ⟨k - 2, by omega⟩
    rw [woggleref01_Before.l0, if_neg (by omega), woggleref01_Before.j1, if_neg (by decide), decide_eq_false (by omega)]
  | succ m ih =>
    intro i k h hk
    obtain ⟨k, rfl⟩ : ∃ j, k = j + 1 + 1 := ⟨k - 2, by omega⟩
    have hi : i < l.length := by omega
    rw [woggleref01_Before.l0, if_pos (by omega), decide_eq_true (by omega), woggleref01_Before.j1, if_pos rfl, if_pos (by omega), if_pos (by omega), if_pos (by omega), if_pos rfl,
      succ_w i (by omega)]
    exact ih (i + 1) k (by omega) (by omega)
theorem same_self (l : List Int) (hl : l.length ≤ 1000000) (k : Nat) (hk : 2 * l.length + 1 < k) : woggleref01_Same.f k l l = some true := by
  have h : woggleref01_Before.f k l l = some false := before_l0_self l hl l.length 0 k (by omega) hk
  unfold woggleref01_Same.f
  rw [h]; rfl
theorem lives_40 : wogglelaw09_lives.f 40 = some true := by decide +kernel
theorem lives_k (k : Nat) (h : 40 ≤ k) : wogglelaw09_lives.f k = some true := at_rounds wogglelaw09_lives.mono h lives_40

end Go.Proofs.Ytgjmfehdjbepiaa.Pure
