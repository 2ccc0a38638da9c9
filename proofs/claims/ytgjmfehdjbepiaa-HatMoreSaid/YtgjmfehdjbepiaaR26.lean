/- What woggleref09.Hats answers, in plain Lean, for lists of at most 1000000 numbers and few colours. -/
import Derived.Test.YtgjmfehdjbepiaaPF26
import Derived.Test.YtgjmfehdjbepiaaML1
import Derived.Test.YtgjmfehdjbepiaaR0
import Derived.OpenShut
import Derived.IntWalk
namespace Go.Proofs.Ytgjmfehdjbepiaa.Pure
open Go Go.Proofs Go.RowKit Go.Proofs.Ytgjmfehdjbepiaa.P Go.Proofs.YtgjmfehdjbepiaaW.PrintWords Go.Proofs.YtgjmfehdjbepiaaW.PrintLast
set_option maxRecDepth 100000

def inB (q x : Int) : Bool := decide (0 ≤ x) && decide (x ≤ q - 1)
/-- What ref.Hats answers. -/
theorem hats_l0 (n q : Int) (hq : -1000000 ≤ q ∧ q ≤ 1000000) (l : List Int) (hl : l.length ≤ 1000000) (m : Nat) : ∀ (i k : Nat), i + m = l.length → m < k →
    woggleref09_Hats.l0 k n q l i = some ((l.drop i).all (inB q) && ((l.length : Int) == n)) := by
  induction m with
  | zero =>
    intro i k h hk
    obtain ⟨k, rfl⟩ : ∃ j, k = j + 1 := ⟨k - 1, by omega⟩
    rw [woggleref09_Hats.l0, if_neg (by omega), List.drop_of_length_le (by omega)]; simp
  | succ m ih =>
    intro i k h hk
    obtain ⟨k, rfl⟩ : ∃ j, k = j + 1 := ⟨k - 1, by omega⟩
    have hi : i < l.length := by omega
    rw [woggleref09_Hats.l0, if_pos (by omega), if_pos (by omega), rd_nat l i hi, List.drop_eq_getElem_cons hi]
    have hw : wrap64 (q - 1) = q - 1 := IntWalk.wrap64_in _ (by omega)
    have hw2 : wrap64 ((i : Int) + 1) = ((i + 1 : Nat) : Int) := by rw [IntWalk.wrap64_in _ (by omega)]; rfl
    rw [hw, hw2]
    have hin : woggleref09_in.f l[i] 0 (q - 1) = some (inB q l[i]) := by
      unfold woggleref09_in.f inB
      by_cases h0 : l[i] ≥ 0
      · rw [if_pos h0, decide_eq_true (show 0 ≤ l[i] from h0), Bool.true_and]
      · rw [if_neg h0, decide_eq_false (show ¬ 0 ≤ l[i] from h0), Bool.false_and]
    rw [hin, Option.bind_some, List.all_cons]
    by_cases hb : inB q l[i] = true
    · rw [if_pos hb, ih (i + 1) k (by omega) (by omega), hb, Bool.true_and]
    · rw [if_neg hb, Bool.eq_false_iff.2 hb]; rfl
theorem hats_f (n q : Int) (hq : -1000000 ≤ q ∧ q ≤ 1000000) (l : List Int) (hl : l.length ≤ 1000000) (k : Nat) (hk : l.length < k) :
    woggleref09_Hats.f k n q l = some (l.all (inB q) && ((l.length : Int) == n)) := by
  have := hats_l0 n q hq l hl l.length 0 k (by omega) hk
  rw [List.drop_zero] at this
  exact this
theorem inB_outside (q x : Int) : inB q x = !(outside q x) := by
  unfold inB outside
  rw [Bool.eq_iff_iff]
  simp
  omega
theorem all_inB (q : Int) (l : List Int) : l.all (inB q) = !(l.any (outside q)) := by
  rw [List.all_eq_not_any_not]
  congr 1; congr 1; funext x
  rw [inB_outside]; simp

end Go.Proofs.Ytgjmfehdjbepiaa.Pure
