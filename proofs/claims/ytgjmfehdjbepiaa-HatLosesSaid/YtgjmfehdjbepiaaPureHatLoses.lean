/- HatLoses' plain law: for every game and strategy the function tells true, with some number of rounds. No condition. -/
import Derived.Test.YtgjmfehdjbepiaaPF14
import Derived.Test.YtgjmfehdjbepiaaRZ
namespace Go.Proofs.Ytgjmfehdjbepiaa.Pure
open Go Go.Proofs Go.RowKit Go.Proofs.Ytgjmfehdjbepiaa.P Go.Proofs.YtgjmfehdjbepiaaW.PrintWords Go.Proofs.YtgjmfehdjbepiaaW.PrintLast Go.Proofs.YtgjmfehdjbepiaaW.PrintMore
set_option maxRecDepth 100000

theorem livesL : Ev (fun k => wogglelaw09_lives.f k) true := ev_from 40 (fun k hk => lives_k k (by omega))
theorem tabL_len (x : List (List Int)) : (tab x).length ≤ 5 := by unfold tab; rw [List.length_map, List.length_take]; omega
theorem tabL_rows (x : List (List Int)) : ∀ r ∈ tab x, r.length ≤ 65 := by
  intro r hr
  unfold tab at hr
  obtain ⟨s, _, rfl⟩ := List.mem_map.1 hr
  rw [List.length_take]; omega
theorem HatLoses : wogglelaw09_HatLoses.Pure := by
  intro n q l x _ _ _ _
  refine Ev.rounds ?_
  unfold wogglelaw09_HatLoses.f
  refine ev_call (few_f n q l) (Ev.bind (tables_f x) ?_)
  have ht := tabL_len x
  have hr := tabL_rows x
  generalize tab x = t at ht hr ⊢
  have hl : (l.take 13).length ≤ 13 := by rw [List.length_take]; omega
  generalize l.take 13 = g at hl ⊢
  have hwhy := why_f n q g (by omega) t (fun r hx => by have := hr r hx; omega) (by omega)
  by_cases h : whyP n q g t = 0
  · have hR := rightAll_f n q g t (by omega) h
    have hL := loses_f n q g t (by omega) h
    refine Ev.bind hL (Ev.bind hR (Ev.bind hwhy (ev_pos h ?_)))
    obtain ⟨m, rfl, hm1, hm4, hq1, hq4, hg12, he, hf⟩ := whyP_game h
    obtain ⟨q, rfl⟩ := Int.eq_ofNat_of_zero_le (show 0 ≤ q by omega)
    refine Ev.bind (sees_f m hm4 g hg12 he) (Ev.bind (all_f m q hm4 (by omega)) ?_)
    rw [Int.toNat_natCast, allHats_eq q (by omega) m]
    have hok : ∀ h ∈ allL q m, Colours q h ∧ h.length = m := by
      rw [← allHats_eq q (by omega) m]; exact hats_ok m q (by omega)
    have hsm := allL_small q m (by omega) hm4
    have hlo : Ev (fun k => woggleref09_Loses.f k m q (seesTo g m m) t) (loseP m q (seesTo g m m) t (allL q m)) := rloses_f m q hm1 hm4 (by omega) (by omega) (seesTo g m m) t hf
    unfold lossP
    rw [allHats_eq q (by omega) m]
    generalize allL q m = L at hok hsm hlo ⊢
    have fin : Ev (fun k => wogglelaw09_HatLoses.j1 k m q t (if (loseP m q (seesTo g m m) t L).length = 0 then (([] : List Int), (5 : Int)) else (loseP m q (seesTo g m m) t L, 0)).1 (if (loseP m q (seesTo g m m) t L).length = 0 then (([] : List Int), (5 : Int)) else (loseP m q (seesTo g m m) t L, 0)).2 (seesTo g m m) (!true)) true := by
      refine Ev.step (fun k => wogglelaw09_HatLoses.j1.eq_2 ..) (ev_neg (by decide) (Ev.bind hlo ?_))
      by_cases c : (loseP m q (seesTo g m m) t L).length = 0
      · rw [if_pos c]
        exact ev_pos (by omega) (ev_pos rfl (Ev.now _))
      · rw [if_neg c]
        refine ev_neg (by omega) (Ev.bind (ev_from (2 * (loseP m q (seesTo g m m) t L).length + 1) (fun k hk => same_self _ ?_ k hk)) (ev_pos rfl (Ev.now _)))
        unfold loseP
        cases e : L.find? fun h => hits q (seesTo g m m) t h m == 0 with
        | none => simp
        | some y =>
          have := (hok y (List.mem_of_find?_eq_some e)).2
          simp only [Option.getD_some]
          omega
    generalize (if (loseP m q (seesTo g m m) t L).length = 0 then (([] : List Int), (5 : Int)) else (loseP m q (seesTo g m m) t L, 0)) = u at fin ⊢
    have key : Ev (fun k => wogglelaw09_HatLoses.l0 k m q t u.1 u.2 (sumHits m q (seesTo g m m) t L) 0 (seesTo g m m) (sumHits m q (seesTo g m m) t (L.take 0)) L ((0 : Nat) : Int)) true := by
      refine up_ind (fun i => Ev (fun k => wogglelaw09_HatLoses.l0 k m q t u.1 u.2 (sumHits m q (seesTo g m m) t L) 0 (seesTo g m m) (sumHits m q (seesTo g m m) t (L.take i)) L (i : Int)) true) L.length ?_ ?_
      · rw [List.take_length]
        exact Ev.step (fun k => wogglelaw09_HatLoses.l0.eq_2 ..) (ev_neg (by omega) (ev_pos rfl (ev_pos rfl (Ev.bind livesL fin))))
      · intro i hi ih
        have hm := hok L[i] (List.getElem_mem hi)
        refine Ev.step (fun k => wogglelaw09_HatLoses.l0.eq_2 ..) (ev_pos (by omega) (ev_pos (by omega) ?_))
        rw [rdL_nat L i hi, succ_w i (by omega)]
        refine Ev.bind (rguesses_f m hm4 q (by omega) (by omega) _ t hf L[i] hm.1 hm.2) (Ev.bind (rright_f m (by omega) q _ t L[i] hm.2) ?_)
        have hb := sumHits_bound m q (seesTo g m m) t (L.take i)
        have hh := hits_bound q (seesTo g m m) t L[i] m
        have hti : (L.take i).length ≤ 256 := by rw [List.length_take]; omega
        have hpr : (m : Int) * ((L.take i).length : Int) ≤ 4 * 256 := Int.mul_le_mul (by omega) (by omega) (by omega) (by omega)
        rw [sumHits_up _ _ _ _ _ i hi] at ih
        rw [IntWalk.wrap64_in _ (by omega)]
        exact ih
    exact key
  · have hR := rightAll_bad n q g t (by omega) h
    have hL := loses_bad n q g t (by omega) h
    refine Ev.bind hL (Ev.bind hR (Ev.bind hwhy (ev_neg h ?_)))
    exact ev_pos rfl (ev_pos rfl (ev_pos rfl (ev_pos rfl (Ev.bind livesL (Ev.now _)))))

end Go.Proofs.Ytgjmfehdjbepiaa.Pure
