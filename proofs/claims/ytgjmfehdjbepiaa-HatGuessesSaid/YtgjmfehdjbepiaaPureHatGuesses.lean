/- HatGuesses' plain law: for every game, strategy and hats the function tells true, with some number of rounds. No condition. -/
import Derived.Test.YtgjmfehdjbepiaaPF10
import Derived.Test.YtgjmfehdjbepiaaRV
namespace Go.Proofs.Ytgjmfehdjbepiaa.Pure
open Go Go.Proofs Go.RowKit Go.Proofs.Ytgjmfehdjbepiaa.P Go.Proofs.YtgjmfehdjbepiaaW.PrintWords Go.Proofs.YtgjmfehdjbepiaaW.PrintLast Go.Proofs.YtgjmfehdjbepiaaW.PrintMore
set_option maxRecDepth 100000

theorem tab_len (x : List (List Int)) : (tab x).length ≤ 5 := by unfold tab; rw [List.length_map, List.length_take]; omega
theorem tab_rows (x : List (List Int)) : ∀ r ∈ tab x, r.length ≤ 65 := by
  intro r hr
  unfold tab at hr
  obtain ⟨s, _, rfl⟩ := List.mem_map.1 hr
  rw [List.length_take]; omega
theorem lives_ev : Ev (fun k => wogglelaw09_lives.f k) true := ev_from 40 (fun k hk => lives_k k (by omega))
theorem same_ev (l : List Int) (hl : l.length ≤ 1000000) : Ev (fun k => woggleref01_Same.f k l l) true := ev_from (2 * l.length + 1) (fun k hk => same_self l hl k hk)
theorem HatGuesses : wogglelaw09_HatGuesses.Pure := by
  intro n q l x z _ _ _ _ _
  refine Ev.rounds ?_
  unfold wogglelaw09_HatGuesses.f
  refine ev_call (few_f n q l) (Ev.bind (tables_f x) (ev_call rfl ?_))
  have hm := mn_cut z.length 5 (by decide)
  refine ev_pos hm.1 (ev_pos hm.2 ?_)
  rw [cut_take z 5 (by decide), show (5 : Int).toNat = 5 from rfl]
  have hz : (z.take 5).length ≤ 5 := by rw [List.length_take]; omega
  refine ev_pos (by simp only [List.length_nil]; omega) (ev_call rfl ?_)
  rw [List.nil_append]
  have ht := tab_len x
  have hr := tab_rows x
  generalize tab x = t at ht hr ⊢
  generalize z.take 5 = hats at hz ⊢
  have hl : (l.take 13).length ≤ 13 := by rw [List.length_take]; omega
  generalize l.take 13 = g at hl ⊢
  refine Ev.bind (pguesses_f n q g t (by omega) hats) (Ev.bind (why_f n q g (by omega) t (fun r hx => by have := hr r hx; omega) (by omega)) ?_)
  by_cases h : whyP n q g t = 0
  · obtain ⟨m, rfl, hm1, hm4, hq1, hq4, hg12, he, hf⟩ := whyP_game h
    refine ev_pos h (Ev.bind (ev_from hats.length (fun k hk => hats_f m q (by omega) hats (by omega) k hk)) ?_)
    refine Ev.step (fun k => wogglelaw09_HatGuesses.j0.eq_2 ..) ?_
    unfold guessP_f
    rw [if_pos h, Int.toNat_natCast]
    by_cases hv : hats.all (inB q) = true ∧ (hats.length : Int) = m
    · rw [if_pos hv, hv.1, beq_iff_eq.2 hv.2]
      refine ev_neg (by decide) (Ev.step (fun k => wogglelaw09_HatGuesses.j1.eq_2 ..) (ev_pos h ?_))
      refine Ev.bind (sees_f m hm4 g hg12 he) (Ev.bind (rguesses_f m hm4 q hq1 hq4 _ t hf hats ((colours_inB q hats).1 hv.1) (by omega)) (Ev.bind (same_ev _ (by rw [guessesP_len]; omega)) ?_))
      exact ev_pos rfl (ev_pos rfl (Ev.bind lives_ev (Ev.now _)))
    · rw [if_neg hv]
      have e : (!(hats.all (inB q) && ((hats.length : Int) == m))) = true := by
        rw [Bool.not_eq_true', Bool.eq_false_iff]
        intro hc
        rw [Bool.and_eq_true, beq_iff_eq] at hc
        exact hv hc
      exact ev_pos e (Ev.step (fun k => wogglelaw09_HatGuesses.j1.eq_2 ..) (ev_neg (by decide) (ev_pos rfl (ev_pos rfl (Ev.bind lives_ev (Ev.now _))))))
  · refine ev_neg h (Ev.step (fun k => wogglelaw09_HatGuesses.j0.eq_2 ..) (ev_neg (by decide) (Ev.step (fun k => wogglelaw09_HatGuesses.j1.eq_2 ..) (ev_neg h ?_))))
    unfold guessP_f
    rw [if_neg h]
    exact ev_pos rfl (ev_pos rfl (Ev.bind lives_ev (Ev.now _)))

end Go.Proofs.Ytgjmfehdjbepiaa.Pure
