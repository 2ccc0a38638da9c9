/- What strategies are and what they guess, in plain Lean: the reference's and the program's answers. -/
import Derived.Test.YtgjmfehdjbepiaaRS
namespace Go.Proofs.Ytgjmfehdjbepiaa.Pure
open Go Go.Proofs Go.RowKit Go.Proofs.Ytgjmfehdjbepiaa.P Go.Proofs.YtgjmfehdjbepiaaW.PrintWords Go.Proofs.YtgjmfehdjbepiaaW.PrintLast Go.Proofs.YtgjmfehdjbepiaaW.PrintMore
set_option maxRecDepth 100000

def tabOk (q : Int) (row x : List Int) : Bool := x.all (inB q) && ((x.length : Int) == q ^ row.length)
def rowsOk (q : Int) (sees t : List (List Int)) : Bool := (List.zip sees t).all fun p => tabOk q p.1 p.2
/-- Are the tables a strategy? -/
def isStrat (q : Int) (sees t : List (List Int)) : Bool := decide (t.length = sees.length) && rowsOk q sees t
theorem rowsOk_drop (q : Int) (sees t : List (List Int)) (i : Nat) (h : i < sees.length) (h2 : i < t.length) : rowsOk q (sees.drop i) (t.drop i) = (tabOk q sees[i] t[i] && rowsOk q (sees.drop (i + 1)) (t.drop (i + 1))) := by
  unfold rowsOk
  rw [List.drop_eq_getElem_cons h, List.drop_eq_getElem_cons h2, List.zip_cons_cons, List.all_cons]
theorem valid_0 (q : Int) (row x : List Int) : hat_valid.f 0 x (q ^ row.length) q = some (tabOk q row x) := by
  unfold hat_valid.f tabOk
  rw [if_neg (by decide), if_neg (by decide)]
  by_cases h : (x.length : Int) = q ^ row.length
  · rw [if_pos h, all_inB, beq_iff_eq.2 h, Bool.and_true]
  · rw [if_neg h, beq_eq_false_iff_ne.2 h, Bool.and_false]
theorem gtables_f (n q : Int) (h0 : 0 ≤ q) (h4 : q ≤ 4) (sees t : List (List Int)) (hn : (sees.length : Int) = n) (hs : ∀ r ∈ sees, r.length ≤ 4) (hl : t.length ≤ 1000) : Ev (fun k => hat_game_tables.f k [⟨n, q, sees⟩] t) (isStrat q sees t) := by
  unfold hat_game_tables.f isStrat
  refine ev_pos Int.zero_lt_one ?_
  have e2 : (rd_T103 [(⟨n, q, sees⟩ : S103)] 0) = ⟨n, q, sees⟩ := rfl
  rw [e2]
  by_cases e : t.length = sees.length
  · refine ev_pos (show (t.length : Int) = n by omega) ?_
    rw [decide_eq_true e, Bool.true_and]
    refine up_ind (fun i => Ev (fun k => hat_game_tables.l0 k [⟨n, q, sees⟩] t (t.length : Int) (i : Int)) (rowsOk q (sees.drop i) (t.drop i))) t.length ?_ ?_
    · rw [List.drop_length, e, List.drop_length]
      exact Ev.step (fun k => hat_game_tables.l0.eq_2 ..) (ev_neg (by omega) (Ev.now _))
    · intro i hi ih
      have hi2 : i < sees.length := by omega
      rw [rowsOk_drop q sees t i hi2 hi]
      refine Ev.step (fun k => hat_game_tables.l0.eq_2 ..) (ev_pos (by omega) (ev_pos (by omega) (ev_pos (by omega) (ev_pos Int.zero_lt_one ?_))))
      rw [e2]
      refine ev_pos (show (i : Int) < (sees.length : Int) by omega) ?_
      rw [rdL_nat t i hi, show rd_L2 (⟨n, q, sees⟩ : S103).f2 (i : Int) = sees[i] from rdL_nat sees i hi2, succ_w i (by omega)]
      have h1 := hs sees[i] (List.getElem_mem hi2)
      refine Ev.bind (ev_from sees[i].length (fun k hk => pow_f q h0 h4 _ (by omega) k hk)) (ev_call (valid_0 q sees[i] t[i]) ?_)
      by_cases hb : tabOk q sees[i] t[i] = true
      · rw [hb, Bool.true_and]; exact ev_pos rfl ih
      · rw [Bool.eq_false_iff.2 hb, Bool.false_and]; exact ev_neg (by decide) (Ev.now _)
  · rw [decide_eq_false e, Bool.false_and]
    exact ev_neg (show ¬ (t.length : Int) = n by omega) (Ev.now _)
theorem seesTo_row (l : List S71) (n i : Nat) (hi : i < n) : rd_L2 (seesTo l n n) (i : Int) = rowTo l i n := by
  rw [rdL_nat _ i (by rw [seesTo_len]; exact hi)]
  simp only [seesTo, List.getElem_map, List.getElem_range]
theorem seesTo_mem (l : List S71) (n : Nat) (r : List Int) (h : r ∈ seesTo l n n) : ∃ i, i < n ∧ r = rowTo l i n := by
  unfold seesTo at h
  obtain ⟨i, hi, rfl⟩ := List.mem_map.1 h
  exact ⟨i, List.mem_range.1 hi, rfl⟩
theorem rowTo_below (l : List S71) (i : Int) (n : Nat) : Below_ n (rowTo l i n) := by
  intro j hj
  unfold rowTo at hj
  obtain ⟨h1, -⟩ := List.mem_filter.1 hj
  obtain ⟨k, hk, rfl⟩ := List.mem_map.1 h1
  have := List.mem_range.1 hk
  omega
theorem rowTo_self (l : List S71) (i : Int) (n : Nat) : i ∉ rowTo l i n := by
  intro hj
  unfold rowTo at hj
  obtain ⟨-, h2⟩ := List.mem_filter.1 hj
  unfold nb at h2
  rw [bne_self_eq_false, Bool.false_and] at h2
  exact Bool.noConfusion h2
/-- What hat.with answers. -/
def withP (n q : Int) (l : List S71) (t : List (List Int)) : List S103 × Int := if isGame n q l = true then (if isStrat q (seesTo l n.toNat n.toNat) t = true then ([gameOf n q l], 0) else ([], 2)) else ([], 1)
theorem seesOf_eq (l : List S71) (n : Int) : seesOf l n.toNat = seesTo l n.toNat n.toNat := rfl
theorem sees_rows (l : List S71) (n : Nat) (hn : n ≤ 4) : ∀ r ∈ seesTo l n n, r.length ≤ 4 := by
  intro r hr
  obtain ⟨i, _, rfl⟩ := seesTo_mem l n r hr
  exact Nat.le_trans (rowTo_len l i n) hn
theorem withOf_f (n q : Int) (l : List S71) (t : List (List Int)) (hl : t.length ≤ 1000) : Ev (fun k => withOf k n q l t) (withP n q l t) := by
  unfold withOf withP
  by_cases h : isGame n q l = true
  · have hg := (isGame_iff n q l).1 h
    have hg2 := hg.1
    unfold goodNums at hg2
    rw [if_pos h]
    refine ev_pos hg ?_
    have hb := gtables_f n q (by omega) (by omega) (seesTo l n.toNat n.toNat) t (by rw [seesTo_len]; omega) (sees_rows l n.toNat (by omega)) hl
    obtain ⟨K, hK⟩ := hb
    refine ⟨K, fun k hk => ?_⟩
    have := hK k hk
    have e : hat_game_tables.f k [gameOf n q l] t = some (isStrat q (seesTo l n.toNat n.toNat) t) := this
    show Option.map _ (hat_game_tables.f k [gameOf n q l] t) = _
    rw [e, Option.map_some]
  · rw [if_neg h]
    exact ev_neg (fun hc => h ((isGame_iff n q l).2 hc)) (Ev.now _)
/-- The error that the statements name. -/
def whyP (n q : Int) (l : List S71) (t : List (List Int)) : Int := if isGame n q l = true then (if isStrat q (seesTo l n.toNat n.toNat) t = true then 0 else 2) else 1
theorem withP_snd (n q : Int) (l : List S71) (t : List (List Int)) : (withP n q l t).2 = whyP n q l t := by
  unfold withP whyP
  split
  · split <;> rfl
  · rfl

end Go.Proofs.Ytgjmfehdjbepiaa.Pure
