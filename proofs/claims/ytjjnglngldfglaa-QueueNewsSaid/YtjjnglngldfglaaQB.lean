/- The contracts of Number, Choosing, Taken, Stage, first and Want. -/
import Derived.Test.YtjjnglngldfglaaQA
namespace Go.Proofs.Ytjjnglngldfglaa.P
set_option linter.unusedVariables false
open Go Go.RowKit Go.Proofs.YtjjnglngldfglaaW.PrintWords Go.Proofs.YtjjnglngldfglaaW.PrintLast Go.Proofs.YtjjnglngldfglaaW.PrintMore

def scAt (sh : Sh) (i : Int) : Sc := sh.sc.getD i.toNat sc0
theorem scAt_nat (sh : Sh) (k : Nat) (h : k < sh.sc.length) : scAt sh k = sh.sc[k] := by
  unfold scAt
  rw [Int.toNat_natCast, List.getD_eq_getElem?_getD, List.getElem?_eq_getElem h]; rfl
theorem errI_ok {sh : Sh} {i : Int} (h : errI sh i = 0) : ∃ k : Nat, i = k ∧ k < sh.sc.length := by
  unfold errI at h
  by_cases k1 : i < 0
  · rw [if_pos k1] at h; exact absurd h (by decide)
  · rw [if_neg k1] at h
    by_cases k2 : i ≥ (sh.sc.length : Int)
    · rw [if_pos k2] at h; exact absurd h (by decide)
    · exact ⟨i.toNat, by omega, by omega⟩
theorem Shp.at_ {W : World} {b g gs : Nat} {sh : Sh} (h : Shp W b g gs sh) (k : Nat) (hk : k < sh.sc.length) : W.cell? ⟨gs, k * 3, none⟩ = some (.bool (scAt sh k).ch) ∧ W.cell? ⟨gs, k * 3 + 1, none⟩ = some (.int .i64 (scAt sh k).no) ∧ W.cell? ⟨gs, k * 3 + 2, none⟩ = some (scAt sh k).st.val := by
  rw [scAt_nat sh k hk]; exact h.sc k hk
/-- What Number answers. -/
def noOf (sh : Sh) (i : Int) : Int := if errI sh i = 0 then (scAt sh i).no else -1
theorem Number_calls (W : World) (b g gs : Nat) (sh : Sh) (h : Shp W b g gs sh) (i : Int) : Calls Try.prog 20 #[.pointer (some ⟨g, 0, none⟩), .int .i64 i] W fun e w' => e = .returned (.int .i64 (noOf sh i)) ∧ W = w' := by
  have hc := Aside0.mk (check_calls W b g gs sh h i)
  unfold noOf
  by_cases c : errI sh i = 0
  · rw [if_pos c]
    obtain ⟨k, rfl, hk⟩ := errI_ok c
    have c0 := h.c0
    obtain ⟨x0, x1, x2⟩ := h.at_ k hk
    have cb : (errI sh k != 0) = false := bne_eq_false_iff_eq.2 c
    have p1 : decide (k < sh.sc.length) = true := decide_eq_true hk
    have p2 : ((k : Int) < (sh.sc.length : Int)) = True := eq_true (by omega)
    generalize errI sh k = er at *
    clear h hk c x0 x2
    go_enter Try.func20, Try.ntmps20
    go_wp2_with (fail)
    refine hc.out.mono ?_
    rintro e w' ⟨rfl, rfl⟩
    go_wp2
    go_ret
    exact ⟨rfl, rfl⟩
  · rw [if_neg c]
    have cb : (errI sh i != 0) = true := bne_iff_ne.2 c
    generalize errI sh i = er at *
    clear h c
    go_enter Try.func20, Try.ntmps20
    go_wp2_with (fail)
    refine hc.out.mono ?_
    rintro e w' ⟨rfl, rfl⟩
    go_wp2
    go_ret
    exact ⟨rfl, rfl⟩
/-- What Choosing answers. -/
def chOf (sh : Sh) (i : Int) : Bool := if errI sh i = 0 then (scAt sh i).ch else false
theorem Choosing_calls (W : World) (b g gs : Nat) (sh : Sh) (h : Shp W b g gs sh) (i : Int) : Calls Try.prog 32 #[.pointer (some ⟨g, 0, none⟩), .int .i64 i] W fun e w' => e = .returned (.bool (chOf sh i)) ∧ W = w' := by
  have hc := Aside0.mk (check_calls W b g gs sh h i)
  unfold chOf
  by_cases c : errI sh i = 0
  · rw [if_pos c]
    obtain ⟨k, rfl, hk⟩ := errI_ok c
    have c0 := h.c0
    obtain ⟨x0, x1, x2⟩ := h.at_ k hk
    have cb : (errI sh k == 0) = true := beq_iff_eq.2 c
    have p1 : decide (k < sh.sc.length) = true := decide_eq_true hk
    have p2 : ((k : Int) < (sh.sc.length : Int)) = True := eq_true (by omega)
    generalize errI sh k = er at *
    generalize (scAt sh k).ch = cc at *
    clear h hk c x1 x2
    go_enter Try.func32, Try.ntmps32
    go_wp2_with (fail)
    refine hc.out.mono ?_
    rintro e w' ⟨rfl, rfl⟩
    go_wp2
    go_ret
    exact ⟨rfl, rfl⟩
  · rw [if_neg c]
    have cb : (errI sh i == 0) = false := beq_eq_false_iff_ne.2 c
    generalize errI sh i = er at *
    clear h c
    go_enter Try.func32, Try.ntmps32
    go_wp2_with (fail)
    refine hc.out.mono ?_
    rintro e w' ⟨rfl, rfl⟩
    go_wp2
    go_ret
    exact ⟨rfl, rfl⟩
theorem Taken_calls (W : World) (b g gs : Nat) (sh : Sh) (h : Shp W b g gs sh) : Calls Try.prog 22 #[.pointer (some ⟨g, 0, none⟩)] W fun e w' => e = .returned (.int .i64 sh.tk) ∧ W = w' := by
  have hc := Aside0.mk (made_calls W b g gs sh h)
  have c2 := h.c2
  clear h
  go_enter Try.func22, Try.ntmps22
  go_wp2_with (fail)
  refine hc.out.mono ?_
  rintro e w' ⟨rfl, rfl⟩
  go_wp2
  go_ret
  exact ⟨rfl, rfl⟩
/-- first: is the turn of another scout before one's own? -/
def firstOf (sh : Sh) (j i : Int) : Bool := (scAt sh j).no != 0 && (decide ((scAt sh j).no < (scAt sh i).no) || ((scAt sh j).no == (scAt sh i).no && decide (j < i)))
theorem first_calls (W : World) (b g gs : Nat) (sh : Sh) (h : Shp W b g gs sh) (j i : Nat) (hj : j < sh.sc.length) (hi : i < sh.sc.length) : Calls Try.prog 38 #[.pointer (some ⟨g, 0, none⟩), .int .i64 j, .int .i64 i] W fun e w' => e = .returned (.bool (firstOf sh j i)) ∧ ∃ nd, W.drewN nd = w' := by
  have c0 := h.c0
  have y1 := (h.at_ j hj).2.1
  have x1 := (h.at_ i hi).2.1
  have p1 : decide (j < sh.sc.length) = true := decide_eq_true hj
  have p2 : ((j : Int) < (sh.sc.length : Int)) = True := eq_true (by omega)
  have p3 : decide (i < sh.sc.length) = true := decide_eq_true hi
  have p4 : ((i : Int) < (sh.sc.length : Int)) = True := eq_true (by omega)
  unfold firstOf
  generalize (scAt sh j).no = a at *
  generalize (scAt sh i).no = d at *
  by_cases k1 : a = 0
  · have k1b : (a != 0) = false := bne_eq_false_iff_eq.2 k1
    rw [k1b, Bool.false_and]
    clear k1 h hj hi
    go_enter Try.func38, Try.ntmps38
    go_wp2
    go_quiet (fail)
    go_wp2
    go_ret
    exact ⟨rfl, _, rfl⟩
  · have k1b : (a != 0) = true := bne_iff_ne.2 k1
    rw [k1b, Bool.true_and]
    by_cases k2 : a < d
    · have k2b : decide (a < d) = true := decide_eq_true k2
      rw [k2b, Bool.true_or]
      clear k1 k2 h hj hi
      go_enter Try.func38, Try.ntmps38
      go_wp2
      go_quiet (fail)
      go_wp2
      go_ret
      exact ⟨rfl, _, rfl⟩
    · have k2b : decide (a < d) = false := decide_eq_false k2
      rw [k2b, Bool.false_or]
      by_cases k3 : a = d
      · have k3b : (a == d) = true := beq_iff_eq.2 k3
        rw [k3b, Bool.true_and]
        clear k1 k2 k3 h hj hi
        go_enter Try.func38, Try.ntmps38
        go_wp2
        go_quiet (fail)
        go_wp2
        go_ret
        exact ⟨by first | rfl | simp, _, rfl⟩
      · have k3b : (a == d) = false := beq_eq_false_iff_ne.2 k3
        rw [k3b, Bool.false_and]
        clear k1 k2 k3 h hj hi
        go_enter Try.func38, Try.ntmps38
        go_wp2
        go_quiet (fail)
        go_wp2
        go_ret
        exact ⟨rfl, _, rfl⟩
end Go.Proofs.Ytjjnglngldfglaa.P
