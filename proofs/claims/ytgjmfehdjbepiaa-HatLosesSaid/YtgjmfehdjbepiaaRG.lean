/- What the statements' own functions about games answer, in plain Lean: the cut game, the tables, the error. -/
import Derived.Test.YtgjmfehdjbepiaaRT
import Derived.Test.YtgjmfehdjbepiaaR26
import Derived.Test.YtgjmfehdjbepiaaG39
import Derived.Test.YtgjmfehdjbepiaaPF17
import Derived.Test.YtgjmfehdjbepiaaPF38
import Derived.Test.YtgjmfehdjbepiaaPF40
import Derived.Test.YtgjmfehdjbepiaaPF45
import Derived.Test.YtgjmfehdjbepiaaPF56
import Derived.Test.YtgjmfehdjbepiaaPF41
namespace Go.Proofs.Ytgjmfehdjbepiaa.Pure
open Go Go.Proofs Go.RowKit Go.Proofs.Ytgjmfehdjbepiaa.P Go.Proofs.YtgjmfehdjbepiaaW.PrintWords Go.Proofs.YtgjmfehdjbepiaaW.PrintLast Go.Proofs.YtgjmfehdjbepiaaW.PrintMore
set_option maxRecDepth 100000

theorem rdL_nat (l : List (List Int)) (i : Nat) (h : i < l.length) : rd_L2 l i = l[i] := by
  unfold rd_L2; rw [Int.toNat_natCast, List.getD_eq_getElem?_getD, List.getElem?_eq_getElem h]; rfl
theorem rdT_nat (l : List S71) (i : Nat) (h : i < l.length) : rd_T71 l i = l[i] := by
  unfold rd_T71; rw [Int.toNat_natCast, List.getD_eq_getElem?_getD, List.getElem?_eq_getElem h]; rfl
theorem few_f (n q : Int) (l : List S71) : wogglelaw09_Game_few.f n q l = some (n, q, l.take 13) := by
  have h := mn_cut l.length 13 (by decide)
  unfold wogglelaw09_Game_few.f
  simp only [Option.bind_some]
  rw [if_pos h.1, if_pos h.2, cut_take l 13 (by decide)]
  simp only [List.nil_append]
  rw [if_pos (by rw [List.length_take]; simp only [List.length_nil, show (13 : Int).toNat = 13 from rfl]; omega)]
  rfl
/-- The tables as the statement cuts them. -/
def tab (x : List (List Int)) : List (List Int) := (x.take 5).map (fun r => r.take 65)
theorem tables_f (x : List (List Int)) : Ev (fun k => wogglelaw09_tables.f k x) (tab x) := by
  unfold wogglelaw09_tables.f
  have step : ∀ i, i < (x.take 5).length → Ev (fun k => wogglelaw09_tables.l0 k x (((x.take (i + 1)).map fun r => r.take 65)) ((i + 1 : Nat) : Int)) (tab x) → Ev (fun k => wogglelaw09_tables.l0 k x ((x.take i).map fun r => r.take 65) (i : Int)) (tab x) := by
    intro i hi ih
    have hi' : i < x.length ∧ i < 5 := by rw [List.length_take] at hi; omega
    have h := mn_cut (x[i]'hi'.1).length 65 (by decide)
    refine Ev.step (fun k => wogglelaw09_tables.l0.eq_2 ..) ?_
    refine ev_pos (by omega) (ev_pos (by omega) ?_)
    simp only [Option.bind_some]
    refine ev_pos (by omega) ?_
    rw [rdL_nat x i hi'.1]
    refine ev_pos h.1 (ev_pos h.2 ?_)
    rw [cut_take x[i] 65 (by decide), show ((65 : Int).toNat) = 65 from rfl]
    have hl : (([] : List Int).length + (x[i].take 65).length) < 17592186044416 := by rw [List.length_take]; simp only [List.length_nil]; omega
    have hl2 : ((x.take i).map fun r => r.take 65).length < 5864062014805 := by rw [List.length_map, List.length_take]; omega
    refine ev_pos hl (ev_pos hl2 ?_)
    rw [succ_w i (by omega), List.nil_append]
    rw [take_up x i hi'.1, List.map_append] at ih
    exact ih
  have stop : Ev (fun k => wogglelaw09_tables.l0 k x ((x.take (x.take 5).length).map fun r => r.take 65) ((x.take 5).length : Int)) (tab x) := by
    refine Ev.step (fun k => wogglelaw09_tables.l0.eq_2 ..) ?_
    have e : ((x.take (x.take 5).length).map fun r => r.take 65) = tab x := by
      unfold tab
      rw [List.length_take]
      by_cases h : 5 ≤ x.length
      · rw [Nat.min_eq_left h]
      · rw [Nat.min_eq_right (by omega), List.take_length, List.take_of_length_le (by omega)]
    by_cases h : ((x.take 5).length : Int) < (x.length : Int)
    · refine ev_pos h (ev_neg (by rw [List.length_take] at h ⊢; omega) ?_)
      rw [e]; exact Ev.now _
    · refine ev_neg h ?_
      rw [e]; exact Ev.now _
  have := up_ind (fun i => Ev (fun k => wogglelaw09_tables.l0 k x ((x.take i).map fun r => r.take 65) (i : Int)) (tab x)) (x.take 5).length stop step
  exact this
theorem in_f (x a b : Int) : woggleref09_in.f x a b = some (decide (a ≤ x) && decide (x ≤ b)) := by
  unfold woggleref09_in.f
  by_cases h : x ≥ a
  · rw [if_pos h, decide_eq_true (show a ≤ x from h), Bool.true_and]
  · rw [if_neg h, decide_eq_false (show ¬ a ≤ x from h), Bool.false_and]
/-- An edge as the reference tries it. -/
def okE (m : Int) (e : S71) : Bool := (decide (0 ≤ e.f0) && decide (e.f0 ≤ m)) && ((decide (0 ≤ e.f1) && decide (e.f1 ≤ m)) && !(decide (e.f0 = e.f1)))
theorem okE_bad (n : Int) (e : S71) : okE (n - 1) e = !(badEdge n e) := by
  unfold okE badEdge
  rw [Bool.eq_iff_iff]
  simp only [Bool.and_eq_true, decide_eq_true_eq, Bool.not_eq_true', decide_eq_false_iff_not, Bool.or_eq_false_iff, beq_eq_false_iff_ne]
  by_cases h : e.f0 < e.f1
  · rw [if_pos h, if_pos h]; omega
  · rw [if_neg h, if_neg h]; omega
def numsB (n q : Int) (l : List S71) : Bool := (decide (1 ≤ n) && decide (n ≤ 4)) && ((decide (1 ≤ q) && decide (q ≤ 4)) && decide ((l.length : Int) ≤ 12))
theorem numsB_iff (n q : Int) (l : List S71) : numsB n q l = true ↔ goodNums n q l := by
  unfold numsB goodNums
  simp only [Bool.and_eq_true, decide_eq_true_eq]
  omega
theorem game_l0 (n q : Int) (l : List S71) (hl : l.length ≤ 1000) : Ev (fun k => woggleref09_Game.f k n q l) (l.all (okE (wrap64 (n - 1))) && numsB n q l) := by
  unfold woggleref09_Game.f
  have stop : Ev (fun k => woggleref09_Game.l0 k n q l (l.length : Int)) ((l.drop l.length).all (okE (wrap64 (n - 1))) && numsB n q l) := by
    refine Ev.step (fun k => woggleref09_Game.l0.eq_2 ..) (ev_neg (by omega) ?_)
    rw [List.drop_length]
    simp only [in_f, Option.bind_some, List.all_nil, Bool.true_and]
    unfold numsB
    by_cases h1 : (decide (1 ≤ n) && decide (n ≤ 4)) = true
    · rw [if_pos h1, h1, Bool.true_and]
      by_cases h2 : (decide (1 ≤ q) && decide (q ≤ 4)) = true
      · rw [if_pos h2, h2, Bool.true_and]; exact Ev.now _
      · rw [if_neg h2, Bool.eq_false_iff.2 h2, Bool.false_and]; exact Ev.now _
    · rw [if_neg h1, Bool.eq_false_iff.2 h1, Bool.false_and]; exact Ev.now _
  have step : ∀ i, i < l.length → Ev (fun k => woggleref09_Game.l0 k n q l ((i + 1 : Nat) : Int)) ((l.drop (i + 1)).all (okE (wrap64 (n - 1))) && numsB n q l) → Ev (fun k => woggleref09_Game.l0 k n q l (i : Int)) ((l.drop i).all (okE (wrap64 (n - 1))) && numsB n q l) := by
    intro i hi ih
    refine Ev.step (fun k => woggleref09_Game.l0.eq_2 ..) (ev_pos (by omega) (ev_pos (by omega) ?_))
    rw [rdT_nat l i hi, List.drop_eq_getElem_cons hi, List.all_cons]
    simp only [in_f, Option.bind_some]
    rw [succ_w i (by omega)]
    unfold okE at ih ⊢
    by_cases h1 : (decide (0 ≤ l[i].f0) && decide (l[i].f0 ≤ wrap64 (n - 1))) = true
    · refine ev_pos h1 ?_
      rw [h1, Bool.true_and]
      by_cases h2 : (decide (0 ≤ l[i].f1) && decide (l[i].f1 ≤ wrap64 (n - 1))) = true
      · refine ev_pos h2 ?_
        rw [h2, Bool.true_and]
        by_cases h3 : l[i].f0 = l[i].f1
        · refine ev_pos h3 ?_
          rw [decide_eq_true h3]
          exact Ev.now _
        · refine ev_neg h3 ?_
          rw [decide_eq_false h3]
          exact ih
      · refine ev_neg h2 ?_
        rw [Bool.eq_false_iff.2 h2]
        exact Ev.now _
    · refine ev_neg h1 ?_
      rw [Bool.eq_false_iff.2 h1]
      exact Ev.now _
  have := up_ind (fun i => Ev (fun k => woggleref09_Game.l0 k n q l (i : Int)) ((l.drop i).all (okE (wrap64 (n - 1))) && numsB n q l)) l.length stop step
  rw [List.drop_zero] at this
  exact this
/-- Is it a game? -/
def isGame (n q : Int) (l : List S71) : Bool := numsB n q l && !(l.any (badEdge n))
theorem game_f (n q : Int) (l : List S71) (hl : l.length ≤ 1000) : Ev (fun k => woggleref09_Game.f k n q l) (isGame n q l) := by
  refine ev_eq (game_l0 n q l hl) ?_
  unfold isGame
  by_cases h : numsB n q l = true
  · have hg := (numsB_iff n q l).1 h
    unfold goodNums at hg
    rw [h, Bool.and_true, Bool.true_and, IntWalk.wrap64_in _ (by omega), List.all_eq_not_any_not]
    congr 2; funext e; rw [okE_bad, Bool.not_not]
  · rw [Bool.eq_false_iff.2 h, Bool.and_false, Bool.false_and]
theorem isGame_iff (n q : Int) (l : List S71) : isGame n q l = true ↔ goodNums n q l ∧ l.any (badEdge n) = false := by
  unfold isGame
  rw [Bool.and_eq_true, numsB_iff, Bool.not_eq_true']

end Go.Proofs.Ytgjmfehdjbepiaa.Pure
