/- What the statements' own functions about strategies answer, in plain Lean: what players see, powers, strategies, guesses. -/
import Derived.Test.YtgjmfehdjbepiaaRG
namespace Go.Proofs.Ytgjmfehdjbepiaa.Pure
open Go Go.Proofs Go.RowKit Go.Proofs.Ytgjmfehdjbepiaa.P Go.Proofs.YtgjmfehdjbepiaaW.PrintWords Go.Proofs.YtgjmfehdjbepiaaW.PrintLast Go.Proofs.YtgjmfehdjbepiaaW.PrintMore
set_option maxRecDepth 100000

theorem power_f (q : Int) (h0 : 0 ≤ q) (h4 : q ≤ 4) (m : Nat) (hm : m ≤ 8) : Ev (fun k => woggleref09_Power.f k q m) (q ^ m) := by
  unfold woggleref09_Power.f
  suffices h : Ev (fun k => woggleref09_Power.l0 k q m (q ^ 0) ((0 : Nat) : Int)) (q ^ m) by
    rw [Int.pow_zero] at h; exact h
  refine up_ind (fun i => Ev (fun k => woggleref09_Power.l0 k q m (q ^ i) (i : Int)) (q ^ m)) m ?_ ?_
  · exact Ev.step (fun k => woggleref09_Power.l0.eq_2 ..) (ev_neg (by omega) (Ev.now _))
  · intro i hi ih
    refine Ev.step (fun k => woggleref09_Power.l0.eq_2 ..) (ev_pos (by omega) ?_)
    have e : q ^ i * q = q ^ (i + 1) := (Int.pow_succ q i).symm
    have hb := pow_small q h0 h4 (i + 1) (by omega)
    rw [succ_w i (by omega), e, IntWalk.wrap64_in _ (by omega)]
    exact ih
/-- Four bits as a number. -/
def b01 (b : Bool) : Int := if b = true then 1 else 0
def setOf (a b c d : Bool) : Int := b01 a + 2 * b01 b + 4 * b01 c + 8 * b01 d
def picks (a b c d : Bool) : List Int := (if a = true then [0] else []) ++ ((if b = true then [1] else []) ++ ((if c = true then [2] else []) ++ (if d = true then [3] else [])))
theorem members_4 (a b c d : Bool) : woggleref01_Members.f 6 (setOf a b c d) = some (picks a b c d) := by
  cases a <;> cases b <;> cases c <;> cases d <;> decide +kernel
theorem members_f (a b c d : Bool) : Ev (fun k => woggleref01_Members.f k (setOf a b c d)) (picks a b c d) := Ev.of (woggleref01_Members.mono _) (members_4 a b c d)
def isAt (x : Int) (j : Int) : Bool := x == j
theorem or_bit (a b c d : Bool) (x : Int) (h0 : 0 ≤ x) (h3 : x ≤ 3) : Go.bits .or .i64 (setOf a b c d) (shl .i64 1 x) = setOf (a || isAt x 0) (b || isAt x 1) (c || isAt x 2) (d || isAt x 3) := by
  obtain rfl | rfl | rfl | rfl : x = 0 ∨ x = 1 ∨ x = 2 ∨ x = 3 := by omega
  all_goals (cases a <;> cases b <;> cases c <;> cases d <;> decide +kernel)
/-- i and j are joined by one of the edges. -/
def joins (l : List S71) (i j : Int) : Bool := l.any fun e => (e.f0 == i && e.f1 == j) || (e.f1 == i && e.f0 == j)
theorem joins_snoc (l : List S71) (e : S71) (i j : Int) : joins (l ++ [e]) i j = (joins l i j || ((e.f0 == i && e.f1 == j) || (e.f1 == i && e.f0 == j))) := by
  unfold joins; rw [List.any_append]; simp
/-- Edges of a game of n players. -/
def Edges (n : Int) (l : List S71) : Prop := ∀ e ∈ l, (0 ≤ e.f0 ∧ e.f0 < n) ∧ (0 ≤ e.f1 ∧ e.f1 < n) ∧ e.f0 ≠ e.f1
theorem edges_of (n : Int) (l : List S71) (h : l.any (badEdge n) = false) : Edges n l := by
  intro e he
  have hb := List.any_eq_false.1 h e he
  have ho := okE_bad n e
  rw [Bool.eq_false_iff.2 hb] at ho
  unfold okE at ho
  simp only [Bool.and_eq_true, decide_eq_true_eq, Bool.not_eq_true', decide_eq_false_iff_not, Bool.not_false] at ho
  omega
def setAt (l : List S71) (i : Int) : Int := setOf (joins l i 0) (joins l i 1) (joins l i 2) (joins l i 3)
theorem sees_row (n : Int) (hn : 0 ≤ n ∧ n ≤ 4) (l : List S71) (hl : l.length ≤ 12) (he : Edges n l) (out : List (List Int)) (ho : out.length ≤ 4) (i : Nat) (hi : (i : Int) < n) (r : List (List Int))
    (h : Ev (fun k => woggleref09_Sees.l0 k n l (out ++ [picks (joins l i 0) (joins l i 1) (joins l i 2) (joins l i 3)]) ((i + 1 : Nat) : Int)) r) : Ev (fun k => woggleref09_Sees.l0 k n l out i) r := by
  refine Ev.step (fun k => woggleref09_Sees.l0.eq_2 ..) (ev_pos hi ?_)
  refine up_ind (fun j => Ev (fun k => woggleref09_Sees.l1 k n l out i (setAt (l.take j) i) (j : Int)) r) l.length ?_ ?_
  · refine Ev.step (fun k => woggleref09_Sees.l1.eq_2 ..) (ev_neg (by omega) ?_)
    rw [List.take_length]
    refine Ev.bind (members_f _ _ _ _) (ev_pos (by omega) ?_)
    rw [succ_w i (by omega)]
    exact h
  · intro j hj ih
    refine Ev.step (fun k => woggleref09_Sees.l1.eq_2 ..) (ev_pos (by omega) (ev_pos (by omega) ?_))
    rw [rdT_nat l j hj, succ_w j (by omega)]
    rw [take_up l j hj] at ih
    unfold setAt at ih ⊢
    rw [joins_snoc, joins_snoc, joins_snoc, joins_snoc] at ih
    obtain ⟨h0, h1, h2⟩ := he l[j] (List.getElem_mem hj)
    by_cases c0 : l[j].f0 = (i : Int)
    · have c1 : ¬ l[j].f1 = (i : Int) := by omega
      refine ev_pos c0 (ev_pos h1.1 (ev_neg c1 ?_))
      rw [or_bit _ _ _ _ l[j].f1 h1.1 (by omega)]
      have e0 : (l[j].f0 == (i : Int)) = true := beq_iff_eq.2 c0
      have e1 : (l[j].f1 == (i : Int)) = false := beq_eq_false_iff_ne.2 c1
      rw [e0, e1] at ih
      simp only [Bool.true_and, Bool.false_and, Bool.or_false] at ih
      exact ih
    · have e0 : (l[j].f0 == (i : Int)) = false := beq_eq_false_iff_ne.2 c0
      refine ev_neg c0 ?_
      by_cases c1 : l[j].f1 = (i : Int)
      · refine ev_pos c1 (ev_pos h0.1 ?_)
        rw [or_bit _ _ _ _ l[j].f0 h0.1 (by omega)]
        have e1 : (l[j].f1 == (i : Int)) = true := beq_iff_eq.2 c1
        rw [e0, e1] at ih
        simp only [Bool.true_and, Bool.false_and, Bool.false_or] at ih
        exact ih
      · refine ev_neg c1 ?_
        have e1 : (l[j].f1 == (i : Int)) = false := beq_eq_false_iff_ne.2 c1
        rw [e0, e1] at ih
        simp only [Bool.false_and, Bool.or_false] at ih
        exact ih
theorem nb_joins (l : List S71) (n : Int) (he : Edges n l) (i j : Int) : nb l i j = joins l i j := by
  unfold nb joins has
  rw [Bool.eq_iff_iff]
  simp only [Bool.and_eq_true, Bool.or_eq_true, List.any_eq_true, bne_iff_ne, beq_iff_eq]
  constructor
  · rintro ⟨hij, ⟨e, hm, h1, h2⟩ | ⟨e, hm, h1, h2⟩⟩
    · exact ⟨e, hm, .inl ⟨h1.symm, h2.symm⟩⟩
    · exact ⟨e, hm, .inr ⟨h2.symm, h1.symm⟩⟩
  · rintro ⟨e, hm, ⟨h1, h2⟩ | ⟨h1, h2⟩⟩
    · have := (he e hm).2.2
      exact ⟨by omega, .inl ⟨e, hm, h1.symm, h2.symm⟩⟩
    · have := (he e hm).2.2
      exact ⟨by omega, .inr ⟨e, hm, h2.symm, h1.symm⟩⟩
theorem joins_out (l : List S71) (n : Int) (he : Edges n l) (i j : Int) (h : n ≤ j) : joins l i j = false := by
  unfold joins
  rw [List.any_eq_false]
  intro e hm hb
  simp only [Bool.or_eq_true, Bool.and_eq_true, beq_iff_eq] at hb
  have := he e hm
  omega
theorem picks_row (l : List S71) (n : Nat) (hn : n ≤ 4) (he : Edges n l) (i : Int) : picks (joins l i 0) (joins l i 1) (joins l i 2) (joins l i 3) = rowTo l i n := by
  unfold rowTo
  have hf : nb l i = joins l i := funext fun j => nb_joins l n he i j
  rw [hf]
  have hn' : n = 0 ∨ n = 1 ∨ n = 2 ∨ n = 3 ∨ n = 4 := by omega
  obtain rfl | rfl | rfl | rfl | rfl := hn'
  · rw [joins_out l _ he i 0 (by decide), joins_out l _ he i 1 (by decide), joins_out l _ he i 2 (by decide), joins_out l _ he i 3 (by decide)]; rfl
  · rw [joins_out l _ he i 1 (by decide), joins_out l _ he i 2 (by decide), joins_out l _ he i 3 (by decide)]
    have e : (List.range 1).map (fun k : Nat => (k : Int)) = [0] := by decide
    rw [e]; simp only [List.filter]; cases joins l i 0 <;> rfl
  · rw [joins_out l _ he i 2 (by decide), joins_out l _ he i 3 (by decide)]
    have e : (List.range 2).map (fun k : Nat => (k : Int)) = [0, 1] := by decide
    rw [e]; simp only [List.filter]; cases joins l i 0 <;> cases joins l i 1 <;> rfl
  · rw [joins_out l _ he i 3 (by decide)]
    have e : (List.range 3).map (fun k : Nat => (k : Int)) = [0, 1, 2] := by decide
    rw [e]; simp only [List.filter]; cases joins l i 0 <;> cases joins l i 1 <;> cases joins l i 2 <;> rfl
  · have e : (List.range 4).map (fun k : Nat => (k : Int)) = [0, 1, 2, 3] := by decide
    rw [e]; simp only [List.filter]; cases joins l i 0 <;> cases joins l i 1 <;> cases joins l i 2 <;> cases joins l i 3 <;> rfl
/-- What ref.Sees answers. -/
theorem sees_f (n : Nat) (hn : n ≤ 4) (l : List S71) (hl : l.length ≤ 12) (he : Edges n l) : Ev (fun k => woggleref09_Sees.f k n l) (seesTo l n n) := by
  unfold woggleref09_Sees.f
  refine up_ind (fun i => Ev (fun k => woggleref09_Sees.l0 k n l (seesTo l n i) (i : Int)) (seesTo l n n)) n ?_ ?_
  · exact Ev.step (fun k => woggleref09_Sees.l0.eq_2 ..) (ev_neg (by omega) (Ev.now _))
  · intro i hi ih
    refine sees_row n (by omega) l hl he _ (by rw [seesTo_len]; omega) i (by omega) _ ?_
    rw [picks_row l n hn he i, ← seesTo_succ]
    exact ih

end Go.Proofs.Ytgjmfehdjbepiaa.Pure
