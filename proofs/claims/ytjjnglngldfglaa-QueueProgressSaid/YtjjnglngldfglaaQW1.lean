/- QueueExclusion. -/
import Derived.Test.YtjjnglngldfglaaQV
import Derived.Test.YtjjnglngldfglaaRD
namespace Go.Proofs.Ytjjnglngldfglaa.P
set_option linter.unusedVariables false
open Go Go.RowKit Go.Proofs.YtjjnglngldfglaaW.PrintWords Go.Proofs.YtjjnglngldfglaaW.PrintLast Go.Proofs.YtjjnglngldfglaaW.PrintMore

theorem u8_of {n : Int} (h : (Lit.int .u8 n).wf = true) : 0 ≤ n ∧ n < 256 := by
  simp [Lit.wf, IntKind.min, IntKind.max, IntKind.signed, IntKind.bits] at h
  omega
theorem u8s_of {l : List Int} (h : l.length ≤ maxLen ∧ ∀ x ∈ l, (Lit.int .u8 x).wf = true) : ∀ x ∈ l, 0 ≤ x ∧ x < 256 := fun x hx => u8_of (h.2 x hx)
theorem Exclusion_row (W : World) (n : Int) (hn : (Lit.int .u8 n).wf = true) (A : Option Addr) (c : Nat) (x : List Int) (hx : Kd.C (Kd.int .u8) W A x.length x) (hc : x.length ≤ c) (hg : x.length ≤ maxLen ∧ ∀ y ∈ x, (Lit.int .u8 y).wf = true) :
    Calls Try.prog 3 #[.int .u8 n, .slice A x.length c] W fun e w' => e = .returned (.bool true) ∧ Below W.heap.size W w' := by
  obtain ⟨h0, h1⟩ := u8_of hn
  have hk : n % 4 + 1 = (((n % 4 + 1).toNat : Nat) : Int) := by omega
  have k1 : 1 ≤ (n % 4 + 1).toNat := by omega
  have k4 : (n % 4 + 1).toNat ≤ 4 := by omega
  have hl := mkL_len (n % 4 + 1).toNat x
  exact Exclusion_calls W n _ h0 h1 hk A c x hx (u8s_of hg) ⟨bak_most (bak_new _ k4) _ (by omega) (mkL_err _ false x k1), runS_last _ _⟩
end Go.Proofs.Ytjjnglngldfglaa.P
