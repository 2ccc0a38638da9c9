/- QueueNobody: shops that nobody made. -/
import Derived.Test.YtjjnglngldfglaaQS
import Derived.Test.YtjjnglngldfglaaRD
namespace Go.Proofs.Ytjjnglngldfglaa.P
set_option linter.unusedVariables false
open Go Go.RowKit Go.Proofs.YtjjnglngldfglaaW.PrintWords Go.Proofs.YtjjnglngldfglaaW.PrintLast Go.Proofs.YtjjnglngldfglaaW.PrintMore
attribute [local go_sem] min2_int min_two

/-- A pointer to a shop that was not made. -/
def NM (W : World) (po : Option Addr) : Prop := Calls Try.prog 34 #[.pointer po] W fun e w' => e = .returned (.bool false) ∧ W = w'
theorem NM_nil (W : World) : NM W none := by
  unfold NM
  go_enter Try.func34, Try.ntmps34
  go_wp2
  go_ret
  exact ⟨rfl, rfl⟩
theorem NM_zero (W : World) (g : Nat) (c0 : W.cell? ⟨g, 0, none⟩ = some (.slice none 0 0)) : NM W (some ⟨g, 0, none⟩) := by
  unfold NM
  go_enter Try.func34, Try.ntmps34
  go_wp2
  go_ret
  exact ⟨rfl, rfl⟩
section
variable (W : World) (po : Option Addr) (h : NM W po)
include h
theorem check_nob (i : Int) : Calls Try.prog 37 #[.pointer po, .int .i64 i] W fun e w' => e = .returned (.int .i64 6) ∧ W = w' := by
  have H := Aside0.mk h
  clear h
  unfold NM at H
  go_enter Try.func37, Try.ntmps37
  go_wp2_with (fail)
  refine H.out.mono ?_
  rintro e w' ⟨rfl, rfl⟩
  go_wp2
  go_ret
  exact ⟨rfl, rfl⟩
theorem Want_nob (i : Int) : Calls Try.prog 28 #[.pointer po, .int .i64 i] W fun e w' => e = .returned (.int .i64 6) ∧ W = w' := by
  have H := Aside0.mk (check_nob W po h i)
  clear h
  go_enter Try.func28, Try.ntmps28
  go_wp2_with (fail)
  refine H.out.mono ?_
  rintro e w' ⟨rfl, rfl⟩
  go_wp2
  go_ret
  exact ⟨rfl, rfl⟩
theorem Stage_nob (i : Int) : Calls Try.prog 17 #[.pointer po, .int .i64 i] W fun e w' => e = .returned (.int .i64 (-1)) ∧ W = w' := by
  have H := Aside0.mk (check_nob W po h i)
  clear h
  go_enter Try.func17, Try.ntmps17
  go_wp2_with (fail)
  refine H.out.mono ?_
  rintro e w' ⟨rfl, rfl⟩
  go_wp2
  go_ret
  exact ⟨rfl, rfl⟩
theorem Number_nob (i : Int) : Calls Try.prog 20 #[.pointer po, .int .i64 i] W fun e w' => e = .returned (.int .i64 (-1)) ∧ W = w' := by
  have H := Aside0.mk (check_nob W po h i)
  clear h
  go_enter Try.func20, Try.ntmps20
  go_wp2_with (fail)
  refine H.out.mono ?_
  rintro e w' ⟨rfl, rfl⟩
  go_wp2
  go_ret
  exact ⟨rfl, rfl⟩
theorem Choosing_nob (i : Int) : Calls Try.prog 32 #[.pointer po, .int .i64 i] W fun e w' => e = .returned (.bool false) ∧ W = w' := by
  have H := Aside0.mk (check_nob W po h i)
  clear h
  go_enter Try.func32, Try.ntmps32
  go_wp2_with (fail)
  refine H.out.mono ?_
  rintro e w' ⟨rfl, rfl⟩
  go_wp2
  go_ret
  exact ⟨rfl, rfl⟩
theorem Taken_nob : Calls Try.prog 22 #[.pointer po] W fun e w' => e = .returned (.int .i64 0) ∧ W = w' := by
  have H := Aside0.mk h
  clear h
  unfold NM at H
  go_enter Try.func22, Try.ntmps22
  go_wp2_with (fail)
  refine H.out.mono ?_
  rintro e w' ⟨rfl, rfl⟩
  go_wp2
  go_ret
  exact ⟨rfl, rfl⟩
theorem Inside_nob : Calls Try.prog 16 #[.pointer po] W fun e w' => e = .returned (.slice none 0 0) ∧ W = w' := by
  have H := Aside0.mk h
  clear h
  unfold NM at H
  go_enter Try.func16, Try.ntmps16
  go_wp2_with (fail)
  refine H.out.mono ?_
  rintro e w' ⟨rfl, rfl⟩
  go_wp2
  go_ret
  exact ⟨rfl, rfl⟩
theorem Clone_nob : Calls Try.prog 30 #[.pointer po] W fun e w' => e = .returned (.pointer none) ∧ W = w' := by
  have H := Aside0.mk h
  clear h
  unfold NM at H
  go_enter Try.func30, Try.ntmps30
  go_wp2_with (fail)
  refine H.out.mono ?_
  rintro e w' ⟨rfl, rfl⟩
  go_wp2
  go_ret
  exact ⟨rfl, rfl⟩
set_option maxRecDepth 100000 in
set_option maxHeartbeats 8000000 in
theorem Step_nob (i : Int) : Calls Try.prog 19 #[.pointer po, .int .i64 i] W fun e w' => e = .returned (.tuple #[.bool false, .int .i64 6]) ∧ W = w' := by
  have H := Aside0.mk (check_nob W po h i)
  clear h
  go_enter Try.func19, Try.ntmps19
  go_wp2_with (fail)
  refine H.out.mono ?_
  rintro e w' ⟨rfl, rfl⟩
  go_wp2
  go_ret2
  exact ⟨rfl, rfl⟩
end
theorem Run_nob (W : World) (po : Option Addr) (h : ∀ W1, Below W.heap.size W W1 → NM W1 po) (A : Option Addr) (n c : Nat) : Calls Try.prog 15 #[.pointer po, .slice A n c] W fun e w' => e = .returned (.tuple #[.int .i64 0, .int .i64 6]) ∧ Below W.heap.size W w' := by
  have HB := Aside0.mk (below_alloc (Below.refl W.heap.size W) (.cells #[.pointer po] 23))
  have H := Aside0.mk (h _ HB.out)
  clear h
  unfold NM at H
  go_enter Try.func15, Try.ntmps15
  go_wp2_with (fail)
  refine H.out.mono ?_
  rintro e w' ⟨rfl, rfl⟩
  go_wp2
  go_ret2
  exact ⟨rfl, HB.out⟩

set_option maxRecDepth 100000 in
set_option maxHeartbeats 400000 in
theorem Nobody_row (W : World) (i : Int) (hi : (Lit.int .i64 i).wf = true) (A : Option Addr) (c : Nat) (l : List Int) (hl : Kd.C (Kd.int .i64) W A l.length l) (hc : l.length ≤ c) (hg : l.length ≤ maxLen ∧ ∀ y ∈ l, (Lit.int .i64 y).wf = true) :
    Calls Try.prog 11 #[.int .i64 i, .slice A l.length c] W fun e w' => e = .returned (.bool true) ∧ Below W.heap.size W w' := by
  obtain ⟨w1, hw1⟩ : ∃ w1, (W.alloc (.cells #[.slice none 0 0, .bool false, .int .i64 0] 67)).alloc (.cells #[.pointer none, .pointer (some ⟨W.heap.size, 0, none⟩)] 23) = w1 := ⟨_, rfl⟩
  have HB1 := Aside0.mk (show Below W.heap.size W w1 by rw [← hw1]; exact below_alloc (below_alloc (Below.refl _ _) _) _)
  have HZ := Aside0.mk (show W.heap.size + 1 < w1.heap.size by rw [← hw1]; simp)
  have z0 : w1.cell? ⟨W.heap.size, 0, none⟩ = some (.slice none 0 0) := by rw [← hw1]; simp
  have p0 : w1.cell? ⟨W.heap.size + 1, 0, none⟩ = some (.pointer none) := by rw [← hw1]; simp
  have p1 : w1.cell? ⟨W.heap.size + 1, 1, none⟩ = some (.pointer (some ⟨W.heap.size, 0, none⟩)) := by rw [← hw1]; simp
  have HC := Aside0.mk (And.intro z0 (And.intro p0 p1))
  have HN : ∀ (po : Option Addr), (po = none ∨ po = some ⟨W.heap.size, 0, none⟩) → ∀ w', Below w1.heap.size w1 w' → NM w' po := fun po hp w' hb => by
    rcases hp with rfl | rfl
    · exact NM_nil w'
    · exact NM_zero w' _ ((hb.cell (p := ⟨W.heap.size, 0, none⟩) (by have := HZ.out; show W.heap.size < _; omega)).trans z0)
  have HNM := Aside0.mk HN
  have hc9 : (l.length ≤ c) = True := eq_true hc
  have HCC := Aside0.mk hc
  clear hl hi hg HN z0 p0 p1 hc
  go_enter Try.func11, Try.ntmps11
  go_wp2
  clear hw1
  go_loopg [17] 2 (fun gg v17 w' => ∃ m : Nat, m ≤ 2 ∧ 2 - m ≤ gg ∧ v17 = .int .i64 m ∧ Aside0 (Below w1.heap.size w1 w'))
  case atStart => exact ⟨0, by omega, by omega, rfl, ⟨Below.refl _ _⟩⟩
  case round =>
    obtain ⟨m, hm, hgg, rfl, HBm⟩ := hrel
    by_cases hlt : m < 2
    · have hltb : decide ((m : Int) < 2) = true := decide_eq_true (by omega)
      have hltc : decide (m < 2) = true := decide_eq_true hlt
      obtain ⟨po, hpo, hcell⟩ : ∃ po, (po = none ∨ po = some ⟨W.heap.size, 0, none⟩) ∧ wr.cell? ⟨W.heap.size + 1, m, none⟩ = some (.pointer po) := by
        obtain rfl | rfl : m = 0 ∨ m = 1 := by omega
        · exact ⟨none, .inl rfl, (HBm.out.cell (p := ⟨W.heap.size + 1, 0, none⟩) HZ.out).trans HC.out.2.1⟩
        · exact ⟨_, .inr rfl, (HBm.out.cell (p := ⟨W.heap.size + 1, 1, none⟩) HZ.out).trans HC.out.2.2⟩
      have HNP := Aside0.mk (HNM.out po hpo)
      clear hpo
      have hw1 : wrap64 ((m : Int) + 1) = (m : Int) + 1 := by unfold wrap64; omega
      have HLT := Aside0.mk hlt
      clear hlt hm
      have hltz : ((m : Int) < 2) = True := eq_true (by have := HLT.out; omega)
      by_cases h9 : 9 < l.length
      · have h9a : (9 < (l.length : Int)) = True := eq_true (by omega)
        have h9b : ((9 : Int) ≤ (c : Int)) = True := eq_true (by have := HCC.out; omega)
        have h9c : (9 ≤ c) = True := eq_true (by have := HCC.out; omega)
        clear h9
        go_wp2_with (fail)
        with_reducible refine (Step_nob wr po (HNP.out _ HBm.out) i).mono ?_
        rintro e w2 ⟨rfl, rfl⟩
        go_wp2_with (fail)
        with_reducible refine (Run_nob wr po (fun W1 hb => HNP.out _ (HBm.out.trans (hb.mono HBm.out.size))) A _ c).mono ?_
        rintro e w2 ⟨rfl, hb⟩
        have HB2 := Aside0.mk (HBm.out.trans (hb.mono HBm.out.size))
        clear hb
        go_wp2_with (fail)
        with_reducible refine (Want_nob w2 po (HNP.out _ HB2.out) i).mono ?_
        rintro e w' ⟨rfl, rfl⟩
        go_wp2_with (fail)
        with_reducible refine (Inside_nob w2 po (HNP.out _ HB2.out)).mono ?_
        rintro e w' ⟨rfl, rfl⟩
        go_wp2_with (fail)
        with_reducible refine (Stage_nob w2 po (HNP.out _ HB2.out) i).mono ?_
        rintro e w' ⟨rfl, rfl⟩
        go_wp2_with (fail)
        with_reducible refine (Number_nob w2 po (HNP.out _ HB2.out) i).mono ?_
        rintro e w' ⟨rfl, rfl⟩
        go_wp2_with (fail)
        with_reducible refine (Choosing_nob w2 po (HNP.out _ HB2.out) i).mono ?_
        rintro e w' ⟨rfl, rfl⟩
        go_wp2_with (fail)
        with_reducible refine (Taken_nob w2 po (HNP.out _ HB2.out)).mono ?_
        rintro e w' ⟨rfl, rfl⟩
        go_wp2_with (fail)
        with_reducible refine (Clone_nob w2 po (HNP.out _ HB2.out)).mono ?_
        rintro e w' ⟨rfl, rfl⟩
        go_wp2
        go_roundg (2 - (m + 1))
        case measure => have := HLT.out; omega
        case rel => exact ⟨m + 1, by have := HLT.out; omega, Nat.le_refl _, by go_num, HB2⟩
      · have h9a : (9 < (l.length : Int)) = False := eq_false (by omega)
        clear h9
        go_wp2_with (fail)
        with_reducible refine (Step_nob wr po (HNP.out _ HBm.out) i).mono ?_
        rintro e w2 ⟨rfl, rfl⟩
        go_wp2_with (fail)
        with_reducible refine (Run_nob wr po (fun W1 hb => HNP.out _ (HBm.out.trans (hb.mono HBm.out.size))) A _ c).mono ?_
        rintro e w2 ⟨rfl, hb⟩
        have HB2 := Aside0.mk (HBm.out.trans (hb.mono HBm.out.size))
        clear hb
        go_wp2_with (fail)
        with_reducible refine (Want_nob w2 po (HNP.out _ HB2.out) i).mono ?_
        rintro e w' ⟨rfl, rfl⟩
        go_wp2_with (fail)
        with_reducible refine (Inside_nob w2 po (HNP.out _ HB2.out)).mono ?_
        rintro e w' ⟨rfl, rfl⟩
        go_wp2_with (fail)
        with_reducible refine (Stage_nob w2 po (HNP.out _ HB2.out) i).mono ?_
        rintro e w' ⟨rfl, rfl⟩
        go_wp2_with (fail)
        with_reducible refine (Number_nob w2 po (HNP.out _ HB2.out) i).mono ?_
        rintro e w' ⟨rfl, rfl⟩
        go_wp2_with (fail)
        with_reducible refine (Choosing_nob w2 po (HNP.out _ HB2.out) i).mono ?_
        rintro e w' ⟨rfl, rfl⟩
        go_wp2_with (fail)
        with_reducible refine (Taken_nob w2 po (HNP.out _ HB2.out)).mono ?_
        rintro e w' ⟨rfl, rfl⟩
        go_wp2_with (fail)
        with_reducible refine (Clone_nob w2 po (HNP.out _ HB2.out)).mono ?_
        rintro e w' ⟨rfl, rfl⟩
        go_wp2
        go_roundg (2 - (m + 1))
        case measure => have := HLT.out; omega
        case rel => exact ⟨m + 1, by have := HLT.out; omega, Nat.le_refl _, by go_num, HB2⟩
    · have hm2 := Aside0.mk (show m = 2 by omega)
      have hltb : decide ((m : Int) < 2) = false := decide_eq_false (by omega)
      have hltc : decide (m < 2) = false := decide_eq_false hlt
      have hltz : ((m : Int) < 2) = False := eq_false (by omega)
      clear hlt hm hgg
      go_wp2_with (fail)
      with_reducible refine (lives_calls wr).mono ?_
      rintro e w' ⟨rfl, hb⟩
      have HE := Aside0.mk ((HB1.out.trans (HBm.out.mono HB1.out.size)).trans (hb.mono (Nat.le_trans HB1.out.size HBm.out.size)))
      clear hb
      go_wp2
      go_ret
      exact ⟨rfl, HE.out⟩
end Go.Proofs.Ytjjnglngldfglaa.P
