/- slices.Repeat at scouts, for one idle scout and at most 4 copies: the rows. -/
import Derived.Test.YtjjnglngldfglaaQK
import Derived.Test.YtjjnglngldfglaaPF45
import Derived.Laws.MakeOwn
namespace Go.Proofs.Ytjjnglngldfglaa.P
set_option linter.unusedVariables false
open Go Go.RowKit Go.Proofs.YtjjnglngldfglaaW.PrintWords Go.Proofs.YtjjnglngldfglaaW.PrintLast Go.Proofs.YtjjnglngldfglaaW.PrintMore

theorem info76 : (Try.prog.info? 76).map (fun i => (i.zero, i.size, i.bytes)) = some (some (.agg #[.bool false, .int .i64 0, .nilIface]), 3, 32) := by kernel_rfl
theorem mul_small : ∀ c ∈ List.range 5, bits_Mul.f 1 ((c : Nat) : Int) = some ((0 : Int), ((c : Nat) : Int)) := by decide +kernel
/-- Scouts that nothing was written to. -/
def zcs (n : Nat) : List Value := (List.replicate n [Value.bool false, .int .i64 0, .nilIface]).flatten
def scs (n : Nat) : List Value := scV (List.replicate n sc0)
/-- The new row when m scouts are copied. -/
def sr (c m : Nat) : List Value := scs m ++ zcs (c - m)
theorem zcs_len (n : Nat) : (zcs n).length = 3 * n := by
  induction n with
  | zero => rfl
  | succ n ih => unfold zcs at *; rw [List.replicate_succ, List.flatten_cons, List.length_append, ih]; simp; omega
theorem scs_len (n : Nat) : (scs n).length = 3 * n := by unfold scs; rw [scV_length, List.length_replicate]
theorem zcs_add (a b : Nat) : zcs (a + b) = zcs a ++ zcs b := by unfold zcs; rw [← List.replicate_append_replicate, List.flatten_append]
theorem scs_add (a b : Nat) : scs (a + b) = scs a ++ scs b := by unfold scs scV; rw [← List.replicate_append_replicate, List.flatMap_append]
theorem sr_len (c m : Nat) (h : m ≤ c) : (sr c m).length = 3 * c := by unfold sr; rw [List.length_append, scs_len, zcs_len]; omega
theorem sr_splice (c m k : Nat) (h : m + k ≤ c) : splice (sr c m) (m * 3) (scs k) = sr c (m + k) := by
  obtain ⟨r, rfl⟩ : ∃ r, c = m + k + r := ⟨c - (m + k), by omega⟩
  unfold splice sr
  rw [show m + k + r - m = k + r by omega, show m + k + r - (m + k) = r by omega, zcs_add, scs_add]
  have e1 : (scs m).length = m * 3 := by rw [scs_len]; omega
  have e2 : (zcs k).length = (scs k).length := by rw [scs_len, zcs_len]
  rw [← e1, List.take_left, ← List.drop_drop, List.drop_left, ← e2, List.drop_left, List.append_assoc]
theorem scs_at (n j : Nat) (u : Value) (h : (scs n)[j]? = some u) (m : Nat) (hm : n ≤ m) : (scs m)[j]? = some u := by
  obtain ⟨r, rfl⟩ : ∃ r, m = n + r := ⟨m - n, by omega⟩
  rw [scs_add, List.getElem?_append_left (List.getElem?_eq_some_iff.1 h).1]; exact h
theorem scs_one (n : Nat) : ∀ u ∈ scs n, u.oneCell' = true := by
  induction n with
  | zero => intro u hu; cases hu
  | succ n ih =>
    intro u hu
    rw [scs_add] at hu
    rcases List.mem_append.1 hu with h | h
    · exact ih u h
    · have : scs 1 = [.bool false, .int .i64 0, .iface 80 (.agg #[])] := rfl
      rw [this] at h
      simp at h
      rcases h with rfl | rfl | rfl <;> rfl
theorem sr_made (c : Nat) (h : c ≤ 4) : madeCells #[.bool false, .int .i64 0, .nilIface] (c * 3) = (sr c 0).toArray := by
  obtain rfl | rfl | rfl | rfl | rfl : c = 0 ∨ c = 1 ∨ c = 2 ∨ c = 3 ∨ c = 4 := by omega
  all_goals first | kernel_rfl | (apply Array.ext'; simp [madeCells, sr, scs, zcs, scV, sc0, St.val, List.range_succ, List.replicate_succ])
end Go.Proofs.Ytjjnglngldfglaa.P
