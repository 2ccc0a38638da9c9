/- Step out of the shop; the places stay sound. -/
import Derived.Test.YtjjnglngldfglaaQI
namespace Go.Proofs.Ytjjnglngldfglaa.P
set_option linter.unusedVariables false
open Go Go.RowKit Go.Proofs.YtjjnglngldfglaaW.PrintWords Go.Proofs.YtjjnglngldfglaaW.PrintLast Go.Proofs.YtjjnglngldfglaaW.PrintMore

set_option maxRecDepth 100000 in
set_option maxHeartbeats 8000000 in
theorem step_out (W : World) (b g gs : Nat) (sh : Sh) (h : Shp W b g gs sh) (i : Int) (hi : errI sh i ≠ 0) : Calls Try.prog 19 #[.pointer (some ⟨g, 0, none⟩), .int .i64 i] W fun e w' => e = .returned (.tuple #[.bool false, .int .i64 (errI sh i)]) ∧ W = w' := by
  have hc := Aside0.mk (check_calls W b g gs sh h i)
  generalize errI sh i = r at hc hi ⊢
  have r0 : (r != 0) = true := bne_iff_ne.2 hi
  have r1 : (r = 0) = False := eq_false hi
  clear h hi
  go_enter Try.func19, Try.ntmps19
  go_wp2_with (fail)
  refine hc.out.mono ?_
  rintro e w' ⟨rfl, rfl⟩
  go_wp2
  go_ret2
  exact ⟨rfl, rfl⟩

/-- Every scout's place is sound. -/
def okSh (sh : Sh) : Prop := sh.sc.length ≤ 4 ∧ ∀ k : Nat, k < sh.sc.length → okSt sh.sc.length (scAt sh k).st
theorem scAt_upd_ne (sh : Sh) (k i : Nat) (hik : i ≠ k) (hi : i < sh.sc.length) (c : Bool) (m : Int) (s : St) : scAt (upd sh k c m s) i = scAt sh i := by
  rw [scAt_nat _ i (by rw [upd_len]; exact hi), scAt_nat _ i hi]
  exact List.getElem_set_ne (Ne.symm hik) _
theorem okSh_upd {sh : Sh} (h : okSh sh) (k : Nat) (hk : k < sh.sc.length) (c : Bool) (m : Int) (s : St) (hs : okSt sh.sc.length s) (t : Int) : okSh { upd sh k c m s with tk := t } := by
  have hl : ({ upd sh k c m s with tk := t } : Sh).sc.length = sh.sc.length := upd_len sh k c m s
  refine ⟨by rw [hl]; exact h.1, fun i hi => ?_⟩
  rw [hl] at hi ⊢
  have e : scAt { upd sh k c m s with tk := t } i = scAt (upd sh k c m s) i := rfl
  rw [e]
  by_cases c : i = k
  · subst c; rw [upd_at _ _ _ _ _ hk]; exact hs
  · rw [scAt_upd_ne _ _ _ c hi]; exact h.2 i hi
theorem okSh_upd0 {sh : Sh} (h : okSh sh) (k : Nat) (hk : k < sh.sc.length) (c : Bool) (m : Int) (s : St) (hs : okSt sh.sc.length s) : okSh (upd sh k c m s) := okSh_upd h k hk c m s hs sh.tk
theorem wrap_few (j : Int) (h0 : 0 ≤ j) (h1 : j ≤ 4) : wrap64 (j + 1) = j + 1 := by unfold wrap64; omega
theorem okSh_step {sh : Sh} (h : okSh sh) (k : Nat) (hk : k < sh.sc.length) : okSh (stepS sh k) := by
  have h0 := h.2 k hk
  have h4 := h.1
  unfold stepS
  cases hs : (scAt sh k).st with
  | idle => exact h
  | announce => exact okSh_upd0 h k hk _ _ _ ⟨Int.le_refl 0, by omega⟩
  | read j seen =>
    rw [hs] at h0
    obtain ⟨a, d⟩ := h0
    refine okSh_upd0 h k hk _ _ _ ?_
    by_cases c : j + 1 = sh.sc.length
    · rw [if_pos c]; trivial
    · rw [if_neg c]; exact ⟨by omega, by omega⟩
  | take seen => exact okSh_upd0 h k hk _ _ _ trivial
  | announced => exact okSh_upd0 h k hk _ _ _ ⟨Int.le_refl 0, by omega⟩
  | choice j =>
    rw [hs] at h0
    obtain ⟨a, d⟩ := h0
    by_cases c : j = sh.sc.length
    · simp only [if_pos c]
      exact okSh_upd h k hk _ _ .inside trivial _
    · simp only [if_neg c]
      by_cases c2 : j = k
      · simp only [if_pos c2]
        refine okSh_upd0 h k hk _ _ _ ?_
        rw [wrap_few j a (by omega)]
        exact ⟨by omega, by omega⟩
      · simp only [if_neg c2]
        split
        · exact h
        · exact okSh_upd0 h k hk _ _ _ ⟨a, by omega⟩
  | turn j =>
    rw [hs] at h0
    obtain ⟨a, d⟩ := h0
    by_cases c : firstOf sh j k = true
    · simp only [if_pos c]; exact h
    · simp only [if_neg c]
      refine okSh_upd0 h k hk _ _ _ ?_
      rw [wrap_few j a (by omega)]
      exact ⟨by omega, by omega⟩
  | inside => exact okSh_upd0 h k hk _ _ _ trivial
end Go.Proofs.Ytjjnglngldfglaa.P
