/- What Right and Loses answer, in plain Lean: the sum of the right guesses over all hats, the first hats for which nobody is right. -/
import Derived.Test.YtgjmfehdjbepiaaRV
import Derived.Test.YtgjmfehdjbepiaaPF49
import Derived.Test.YtgjmfehdjbepiaaG43
import Derived.Test.YtgjmfehdjbepiaaG47
namespace Go.Proofs.Ytgjmfehdjbepiaa.Pure
open Go Go.Proofs Go.RowKit Go.Proofs.Ytgjmfehdjbepiaa.P Go.Proofs.YtgjmfehdjbepiaaW.PrintWords Go.Proofs.YtgjmfehdjbepiaaW.PrintLast Go.Proofs.YtgjmfehdjbepiaaW.PrintMore
set_option maxRecDepth 100000

/-- The number of right guesses among the first m players. -/
def hits (q : Int) (sees t : List (List Int)) (hats : List Int) : Nat → Int
  | 0 => 0
  | m + 1 => hits q sees t hats m + (if guessP q (rd_L2 sees m) (rd_L2 t m) hats = rd hats m then 1 else 0)
theorem hits_bound (q : Int) (sees t : List (List Int)) (hats : List Int) : ∀ m : Nat, 0 ≤ hits q sees t hats m ∧ hits q sees t hats m ≤ m
  | 0 => by simp [hits]
  | m + 1 => by
    have := hits_bound q sees t hats m
    rw [hits]
    split <;> omega
theorem right_f (n : Nat) (hn : n ≤ 4) (q : Int) (h1 : 1 ≤ q) (h4 : q ≤ 4) (sees t : List (List Int)) (hf : Fits n q sees t) (hats : List Int) (hc : Colours q hats) (hl : hats.length = n) :
    Ev (fun k => hat_game_right.f k [⟨(n : Int), q, sees⟩] t hats) (hits q sees t hats n) := by
  obtain ⟨hs, ht, hf⟩ := hf
  unfold hat_game_right.f
  refine ev_pos Int.zero_lt_one ?_
  rw [show ((rd_T103 [(⟨(n : Int), q, sees⟩ : S103)] 0).f0) = (n : Int) from rfl]
  refine up_ind (fun i => Ev (fun k => hat_game_right.l0 k [⟨(n : Int), q, sees⟩] t hats (hits q sees t hats i) n (i : Int)) (hits q sees t hats n)) n ?_ ?_
  · exact Ev.step (fun k => hat_game_right.l0.eq_2 ..) (ev_neg (by omega) (Ev.now _))
  · intro i hi ih
    obtain ⟨hb, hl4, hsz, -⟩ := hf i hi
    have hh := hits_bound q sees t hats i
    refine Ev.step (fun k => hat_game_right.l0.eq_2 ..) (ev_pos (by omega) ?_)
    refine Ev.bind (ev_from 12 (fun k hk => guess_some n q i sees t hats h1 h4 (by omega) (by omega) (by omega) hc (by rw [hl]; exact hb) hl4 hsz k hk)) (ev_pos (by omega) (ev_pos (by omega) ?_))
    rw [succ_w i (by omega)]
    rw [hits] at ih
    by_cases c : guessP q (rd_L2 sees i) (rd_L2 t i) hats = rd hats i
    · rw [if_pos c] at ih
      refine ev_pos c ?_
      rw [IntWalk.wrap64_in _ (by omega)]
      exact ih
    · rw [if_neg c, Int.add_zero] at ih
      exact ev_neg c ih
theorem guessesP_at (q : Int) (sees t : List (List Int)) (hats : List Int) (n i : Nat) (h : i < n) : rd (guessesP q sees t hats n) i = guessP q (rd_L2 sees i) (rd_L2 t i) hats := by
  rw [rd_nat _ i (by rw [guessesP_len]; exact h)]
  simp only [guessesP, List.getElem_map, List.getElem_range]
theorem rright_f (n : Nat) (hn : n ≤ 1000) (q : Int) (sees t : List (List Int)) (hats : List Int) (hl : hats.length = n) : Ev (fun k => woggleref09_Right.f k (guessesP q sees t hats n) hats) (hits q sees t hats n) := by
  unfold woggleref09_Right.f
  refine up_ind (fun i => Ev (fun k => woggleref09_Right.l0 k (guessesP q sees t hats n) hats (hits q sees t hats i) (i : Int)) (hits q sees t hats n)) n ?_ ?_
  · exact Ev.step (fun k => woggleref09_Right.l0.eq_2 ..) (ev_neg (by omega) (Ev.now _))
  · intro i hi ih
    have hh := hits_bound q sees t hats i
    refine Ev.step (fun k => woggleref09_Right.l0.eq_2 ..) (ev_pos (by omega) (ev_pos (by omega) (ev_pos (by rw [guessesP_len]; omega) ?_)))
    rw [succ_w i (by omega), guessesP_at _ _ _ _ _ _ hi]
    rw [hits] at ih
    by_cases c : guessP q (rd_L2 sees i) (rd_L2 t i) hats = rd hats i
    · rw [if_pos c] at ih
      refine ev_pos c ?_
      rw [IntWalk.wrap64_in _ (by omega)]
      exact ih
    · rw [if_neg c, Int.add_zero] at ih
      exact ev_neg c ih
/-- The first hats for which nobody is right; none: []. -/
def loseP (n : Nat) (q : Int) (sees t L : List (List Int)) : List Int := (L.find? fun h => hits q sees t h n == 0).getD []
theorem hats_ok (n : Nat) (q : Int) (h1 : 1 ≤ q) : ∀ h ∈ allHats n q, Colours q h ∧ h.length = n := by
  intro h hm
  unfold allHats at hm
  obtain ⟨x, _, rfl⟩ := List.mem_map.1 hm
  exact ⟨fun c hc => digs_mem q h1 n x c (List.mem_reverse.1 hc), by rw [List.length_reverse, digs_len]⟩
theorem allHats_len (n : Nat) (q : Int) : (allHats n q).length = (q ^ n).toNat := by unfold allHats; simp
theorem glose_l0 (n : Nat) (hn : n ≤ 4) (q : Int) (h1 : 1 ≤ q) (h4 : q ≤ 4) (sees t : List (List Int)) (hf : Fits n q sees t) (L : List (List Int)) (hL : ∀ h ∈ L, Colours q h ∧ h.length = n) (hLl : L.length ≤ 1000000) :
    Ev (fun k => hat_game_loses.l0 k [⟨(n : Int), q, sees⟩] t L L.length 0) (loseP n q sees t L) := by
  have key : Ev (fun k => hat_game_loses.l0 k [⟨(n : Int), q, sees⟩] t L L.length ((0 : Nat) : Int)) (loseP n q sees t (L.drop 0)) := by
    refine up_ind (fun i => Ev (fun k => hat_game_loses.l0 k [⟨(n : Int), q, sees⟩] t L L.length (i : Int)) (loseP n q sees t (L.drop i))) L.length ?_ ?_
    · rw [List.drop_length]
      exact Ev.step (fun k => hat_game_loses.l0.eq_2 ..) (ev_neg (by omega) (Ev.now _))
    · intro i hi ih
      have hm := hL L[i] (List.getElem_mem hi)
      refine Ev.step (fun k => hat_game_loses.l0.eq_2 ..) (ev_pos (by omega) (ev_pos (by omega) (ev_pos (by omega) ?_)))
      rw [rdL_nat L i hi, succ_w i (by omega)]
      refine Ev.bind (right_f n hn q h1 h4 sees t hf L[i] hm.1 hm.2) ?_
      by_cases c : hits q sees t L[i] n = 0
      · refine ev_pos c (ev_eq (Ev.now _) ?_)
        unfold loseP
        rw [List.drop_eq_getElem_cons hi, List.find?_cons_of_pos (by rw [c]; rfl)]; rfl
      · refine ev_neg c (ev_eq ih ?_)
        unfold loseP
        rw [List.drop_eq_getElem_cons hi, List.find?_cons_of_neg (by rw [beq_iff_eq]; exact c)]
  rw [List.drop_zero] at key
  exact key
theorem all_ev (n : Nat) (hn : n ≤ 4) (q : Int) (h1 : 1 ≤ q) (h4 : q ≤ 4) (sees : List (List Int)) : Ev (fun k => hat_game_all.f k [⟨(n : Int), q, sees⟩]) (allHats n q) := by
  obtain ⟨k, hk⟩ := all_some n hn q h1 h4 sees
  exact Ev.of (hat_game_all.mono _) hk
/-- What hat.Loses answers for a strategy. -/
def lossP (n : Nat) (q : Int) (sees t : List (List Int)) : List Int × Int := if (loseP n q sees t (allHats n q)).length = 0 then ([], 5) else (loseP n q sees t (allHats n q), 0)
theorem loses_f (n q : Int) (l : List S71) (t : List (List Int)) (hl : t.length ≤ 1000) (h : whyP n q l t = 0) : Ev (fun k => hat_Loses.f k n q l t) (lossP n.toNat q (seesTo l n.toNat n.toNat) t) := by
  unfold hat_Loses.f
  refine Ev.bind (withOf_f n q l t hl) ?_
  rw [withP_zero h]
  obtain ⟨m, rfl, hm1, hm4, hq1, hq4, _, _, hf⟩ := whyP_game h
  refine ev_pos rfl ?_
  rw [Int.toNat_natCast]
  have hp := pow_small q (by omega) hq4 m (by omega)
  have hg : Ev (fun k => hat_game_loses.f k [gameOf m q l] t) (loseP m q (seesTo l m m) t (allHats m q)) := by
    unfold hat_game_loses.f
    exact Ev.bind (all_ev m hm4 q hq1 hq4 _) (glose_l0 m hm4 q hq1 hq4 _ t hf (allHats m q) (hats_ok m q hq1) (by rw [allHats_len]; omega))
  refine Ev.bind hg ?_
  unfold lossP
  by_cases c : (loseP m q (seesTo l m m) t (allHats m q)).length = 0
  · exact ev_pos c (ev_eq (Ev.now _) (if_pos c).symm)
  · exact ev_neg c (ev_eq (Ev.now _) (if_neg c).symm)
theorem loses_bad (n q : Int) (l : List S71) (t : List (List Int)) (hl : t.length ≤ 1000) (h : whyP n q l t ≠ 0) : Ev (fun k => hat_Loses.f k n q l t) ([], whyP n q l t) := by
  unfold hat_Loses.f
  refine Ev.bind (withOf_f n q l t hl) ?_
  rw [withP_pos h]
  exact ev_neg h (Ev.now _)
/-- The sum of the right guesses over some hats. -/
def sumHits (n : Nat) (q : Int) (sees t L : List (List Int)) : Int := (L.map fun h => hits q sees t h n).sum
theorem sumHits_bound (n : Nat) (q : Int) (sees t : List (List Int)) : ∀ L : List (List Int), 0 ≤ sumHits n q sees t L ∧ sumHits n q sees t L ≤ n * L.length
  | [] => by simp [sumHits]
  | h :: L => by
    have ih := sumHits_bound n q sees t L
    have := hits_bound q sees t h n
    unfold sumHits at ih ⊢
    rw [List.map_cons, List.sum_cons, List.length_cons, Int.natCast_add, Int.mul_add]
    omega
theorem sumHits_up (n : Nat) (q : Int) (sees t L : List (List Int)) (i : Nat) (h : i < L.length) : sumHits n q sees t (L.take (i + 1)) = sumHits n q sees t (L.take i) + hits q sees t L[i] n := by
  unfold sumHits
  rw [take_up L i h, List.map_append, List.sum_append]; simp
theorem rightAll_f (n q : Int) (l : List S71) (t : List (List Int)) (hl : t.length ≤ 1000) (h : whyP n q l t = 0) : Ev (fun k => hat_Right.f k n q l t) (sumHits n.toNat q (seesTo l n.toNat n.toNat) t (allHats n.toNat q), 0) := by
  unfold hat_Right.f
  refine Ev.bind (withOf_f n q l t hl) ?_
  rw [withP_zero h]
  obtain ⟨m, rfl, hm1, hm4, hq1, hq4, _, _, hf⟩ := whyP_game h
  refine ev_pos rfl ?_
  rw [Int.toNat_natCast]
  have hp := pow_small q (by omega) hq4 m (by omega)
  have hL := hats_ok m q hq1
  have hlen := allHats_len m q
  refine Ev.bind (all_ev m hm4 q hq1 hq4 _) ?_
  refine Ev.bind (a := sumHits m q (seesTo l m m) t (allHats m q)) ?_ (Ev.now _)
  generalize allHats m q = L at hL hlen ⊢
  refine up_ind (fun i => Ev (fun k => hat_Right.l0 k [gameOf m q l] t L (sumHits m q (seesTo l m m) t (L.take i)) (i : Int)) (sumHits m q (seesTo l m m) t L)) L.length ?_ ?_
  · rw [List.take_length]
    exact Ev.step (fun k => hat_Right.l0.eq_2 ..) (ev_neg (by omega) (Ev.now _))
  · intro i hi ih
    have hm := hL L[i] (List.getElem_mem hi)
    refine Ev.step (fun k => hat_Right.l0.eq_2 ..) (ev_pos (by omega) (ev_pos (by omega) ?_))
    rw [rdL_nat L i hi, succ_w i (by omega)]
    refine Ev.bind (right_f m hm4 q hq1 hq4 _ t hf L[i] hm.1 hm.2) ?_
    have hb := sumHits_bound m q (seesTo l m m) t (L.take i)
    have hh := hits_bound q (seesTo l m m) t L[i] m
    have hti : (L.take i).length ≤ 65536 := by rw [List.length_take]; omega
    have hpr : (m : Int) * ((L.take i).length : Int) ≤ 4 * 65536 := Int.mul_le_mul (by omega) (by omega) (by omega) (by omega)
    rw [sumHits_up _ _ _ _ _ i hi] at ih
    rw [IntWalk.wrap64_in _ (by omega)]
    exact ih
theorem rightAll_bad (n q : Int) (l : List S71) (t : List (List Int)) (hl : t.length ≤ 1000) (h : whyP n q l t ≠ 0) : Ev (fun k => hat_Right.f k n q l t) (0, whyP n q l t) := by
  unfold hat_Right.f
  refine Ev.bind (withOf_f n q l t hl) ?_
  rw [withP_pos h]
  exact ev_neg h (Ev.now _)

end Go.Proofs.Ytgjmfehdjbepiaa.Pure
