/- A slice against nil. -/
import Derived.Test.YtcphmeeighhdjaaPK
import Derived.Shelf.Abstract
import Derived.WalkSpells
import Derived.Lib.SliceRun
namespace Go.Proofs.Ytcphmeeighhdjaa.P
open Go Go.Lib Go.RowKit Go.Proofs.YtcphmeeighhdjaaW.PrintWords

theorem nil_yes {α : Type} {A : Option Addr} {c : Nat} {l : List α} (h : l = [] → (Value.slice A l.length c) = .slice none 0 0) (hb : ((l.length : Int) == 0) = true) : A.isNone = true := by
  have hl : l = [] := List.eq_nil_of_length_eq_zero (by have := beq_iff_eq.1 hb; omega)
  have e := h hl
  injection e with e1 _ _
  rw [e1]; rfl
theorem nil_no {α : Type} {d : Kd α} {w : World} {A : Option Addr} {l : List α} (h : Kd.C d w A l.length l) (hb : ((l.length : Int) == 0) = false) : A.isNone = false := by
  have hl := beq_eq_false_iff_ne.1 hb
  obtain ⟨ad, e, _⟩ := h.2.2 (by omega)
  rw [e]; rfl
theorem nil_neq {P : Program} (W : World) (T e : TypeId) (A : Option Addr) (n c : Nat) (h : P.underlying T = some (.slice e)) {b : Bool} (hz : A.isNone = b) : (binOp .neq T (.slice A n c) (.slice none 0 0)).run P W = .ok (.bool (!b)) W := by
  subst hz
  exact run_neq_slice_nil_any (P := P) W T e A n c 0 0 h
theorem nil_eql {P : Program} (W : World) (T e : TypeId) (A : Option Addr) (n c : Nat) (h : P.underlying T = some (.slice e)) {b : Bool} (hz : A.isNone = b) : (binOp .eql T (.slice A n c) (.slice none 0 0)).run P W = .ok (.bool b) W := by
  subst hz
  exact Lib.run_eql_slice_nil (P := P) W T e A n c 0 0 h

end Go.Proofs.Ytcphmeeighhdjaa.P
