/- Sets as bits: what or, shift and test do to them. -/
import Derived.Test.YtbeimdngghedjaaDoorPL
namespace Go.Proofs.YtbeimdngghedjaaDoor.Pure
open Go Go.Proofs Go.RowKit Go.Proofs.YtbeimdngghedjaaDoor.P Go.Proofs.YtbeimdngghedjaaDoorW.PrintWords Go.Proofs.YtbeimdngghedjaaDoorW.PrintLast
set_option linter.unusedVariables false
/-- The number holds a set of numbers below 10. -/
def Rep (x : Int) (S : Nat → Bool) : Prop := ∃ X : Nat, x = (X : Int) ∧ X < 1024 ∧ ∀ i, X.testBit i = S i
theorem wrap_small {A : Nat} (h : A < 1048576) : IntKind.wrap .i64 (A : Int) = (A : Int) := by
  rw [IntWalk.i64_left, IntWalk.wrap64_in _ (by omega)]
theorem or_nat {A B : Nat} (hA : A < 1048576) (hB : B < 1048576) : Go.bits .or .i64 (A : Int) (B : Int) = ((A ||| B : Nat) : Int) := by
  have e : (BitVec.ofInt 64 (A : Int) ||| BitVec.ofInt 64 (B : Int)).toNat = A ||| B := by
    rw [BitVec.ofInt_natCast, BitVec.ofInt_natCast, BitVec.toNat_or, BitVec.toNat_ofNat, BitVec.toNat_ofNat, Nat.mod_eq_of_lt (by omega), Nat.mod_eq_of_lt (by omega)]
  show IntKind.wrap .i64 ((BitVec.ofInt 64 (A : Int) ||| BitVec.ofInt 64 (B : Int)).toNat : Int) = _
  rw [e, wrap_small (Nat.or_lt_two_pow (n := 20) hA hB)]
theorem and_nat {A B : Nat} (hA : A < 1048576) (hB : B < 1048576) : Go.bits .and .i64 (A : Int) (B : Int) = ((A &&& B : Nat) : Int) := by
  have e : (BitVec.ofInt 64 (A : Int) &&& BitVec.ofInt 64 (B : Int)).toNat = A &&& B := by
    rw [BitVec.ofInt_natCast, BitVec.ofInt_natCast, BitVec.toNat_and, BitVec.toNat_ofNat, BitVec.toNat_ofNat, Nat.mod_eq_of_lt (by omega), Nat.mod_eq_of_lt (by omega)]
  show IntKind.wrap .i64 ((BitVec.ofInt 64 (A : Int) &&& BitVec.ofInt 64 (B : Int)).toNat : Int) = _
  rw [e, wrap_small (Nat.lt_of_le_of_lt Nat.and_le_left hA)]
theorem Rep.zero : Rep 0 (fun _ => false) := ⟨0, rfl, by omega, fun i => Nat.zero_testBit i⟩
theorem Rep.congr {x : Int} {S T : Nat → Bool} (h : Rep x S) (e : ∀ i, S i = T i) : Rep x T := by
  obtain ⟨X, h1, h2, h3⟩ := h
  exact ⟨X, h1, h2, fun i => (h3 i).trans (e i)⟩
theorem Rep.or {x y : Int} {S T : Nat → Bool} (h : Rep x S) (g : Rep y T) : Rep (Go.bits .or .i64 x y) (fun i => S i || T i) := by
  obtain ⟨X, rfl, h2, h3⟩ := h
  obtain ⟨Y, rfl, g2, g3⟩ := g
  refine ⟨X ||| Y, or_nat (by omega) (by omega), Nat.or_lt_two_pow (n := 10) h2 g2, fun i => ?_⟩
  rw [Nat.testBit_or, h3, g3]
theorem shl_all : ((List.range 10).all fun i => shl .i64 1 ((i : Nat) : Int) == ((2 ^ i : Nat) : Int)) = true := by decide +kernel
theorem Rep.one {i : Nat} (hi : i < 10) : Rep (shl .i64 1 (i : Int)) (fun j => decide (i = j)) := by
  refine ⟨2 ^ i, eq_of_beq (List.all_eq_true.1 shl_all i (List.mem_range.2 hi)), ?_, fun j => Nat.testBit_two_pow⟩
  have : 2 ^ i < 2 ^ 10 := Nat.pow_lt_pow_right (by omega) hi
  omega
theorem Rep.bit {x : Int} {S : Nat → Bool} (h : Rep x S) {v : Nat} (hv : v ≤ 20) : Go.bits .and .i64 (shr .i64 x (v : Int)) 1 = if S v = true then 1 else 0 := by
  obtain ⟨X, rfl, h2, h3⟩ := h
  have e : shr .i64 (X : Int) (v : Int) = ((X / 2 ^ v : Nat) : Int) := by
    unfold shr
    rw [Int.toNat_natCast, show min v IntKind.i64.bits = v from Nat.min_eq_left (by have : IntKind.i64.bits = 64 := rfl; omega)]
    rw [Int.natCast_ediv, Int.natCast_pow]; rfl
  have hl : X / 2 ^ v ≤ X := Nat.div_le_self _ _
  have a := and_nat (A := X / 2 ^ v) (B := 1) (by omega) (by omega)
  rw [e, show (1 : Int) = ((1 : Nat) : Int) from rfl, a, Nat.and_one_is_mod, ← h3 v, Nat.testBit_eq_decide_div_mod_eq]
  have : X / 2 ^ v % 2 < 2 := Nat.mod_lt _ (by omega)
  by_cases hh : X / 2 ^ v % 2 = 1
  · rw [hh]; simp
  · rw [show X / 2 ^ v % 2 = 0 by omega]; simp
theorem rd_set (L : List Int) (a v : Nat) (x : Int) (ha : a < L.length) : rd (L.set a x) (v : Int) = if a = v then x else rd L (v : Int) := by
  unfold rd
  rw [Int.toNat_natCast, List.getD_eq_getElem?_getD, List.getD_eq_getElem?_getD]
  by_cases h : a = v
  · subst h; rw [if_pos rfl, List.getElem?_set_self ha]; rfl
  · rw [if_neg h, List.getElem?_set_ne h]
end Go.Proofs.YtbeimdngghedjaaDoor.Pure
