/- What the statements' own functions about games answer, in plain Lean: the cut game, the tables, the error. -/
import Derived.Test.YtgjmfehdjbepiaaRT
import Derived.Test.YtgjmfehdjbepiaaR26
import Derived.Test.YtgjmfehdjbepiaaG39
import Derived.Test.YtgjmfehdjbepiaaPF22
import Derived.Test.YtgjmfehdjbepiaaPF45
import Derived.Test.YtgjmfehdjbepiaaPF56
import Derived.Test.YtgjmfehdjbepiaaPF41
namespace Go.Proofs.Ytgjmfehdjbepiaa.Pure
open Go Go.Proofs Go.RowKit Go.Proofs.Ytgjmfehdjbepiaa.P Go.Proofs.YtgjmfehdjbepiaaW.PrintWords Go.Proofs.YtgjmfehdjbepiaaW.PrintLast Go.Proofs.YtgjmfehdjbepiaaW.PrintMore
set_option maxRecDepth 100000

theorem rdL_nat (l : List (List Int)) (i : Nat) (h : i < l.length) : rd_L2 l i = l[i] := by
  unfold rd_L2; rw [Int.toNat_natCast, List.getD_eq_getElem?_getD, List.getElem?_eq_getElem h]; rfl
theorem rdT_nat (l : List S71) (i : Nat) (h : i < l.length) : rd_T71 l i = l[i] := by
  unfold rd_T71; rw [Int.toNat_natCast, List.getD_eq_getElem?_getD, List.getElem?_eq_getElem h]; rfl
/-- An edge as the reference tries it. -/
def okE (m : Int) (e : S71) : Bool := (decide (0 ≤ e.f0) && decide (e.f0 ≤ m)) && ((decide (0 ≤ e.f1) && decide (e.f1 ≤ m)) && !(decide (e.f0 = e.f1)))
theorem okE_bad (n : Int) (e : S71) : okE (n - 1) e = !(badEdge n e) := by
  unfold okE badEdge
  rw [Bool.eq_iff_iff]
  simp only [Bool.and_eq_true, decide_eq_true_eq, Bool.not_eq_true', decide_eq_false_iff_not, Bool.or_eq_false_iff, beq_eq_false_iff_ne]
  by_cases h : e.f0 < e.f1
  · rw [if_pos h, if_pos h]; omega
  · rw [if_neg h, if_neg h]; omega
def numsB (n q : Int) (l : List S71) : Bool := (decide (1 ≤ n) && decide (n ≤ 4)) && ((decide (1 ≤ q) && decide (q ≤ 4)) && decide ((l.length : Int) ≤ 12))
theorem numsB_iff (n q : Int) (l : List S71) : numsB n q l = true ↔ goodNums n q l := by
  unfold numsB goodNums
  simp only [Bool.and_eq_true, decide_eq_true_eq]
  omega
/-- Is it a game? -/
def isGame (n q : Int) (l : List S71) : Bool := numsB n q l && !(l.any (badEdge n))
theorem isGame_iff (n q : Int) (l : List S71) : isGame n q l = true ↔ goodNums n q l ∧ l.any (badEdge n) = false := by
  unfold isGame
  rw [Bool.and_eq_true, numsB_iff, Bool.not_eq_true']

end Go.Proofs.Ytgjmfehdjbepiaa.Pure
