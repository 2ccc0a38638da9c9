/- HatAverage's plain law: for every deal the function tells true, with some number of rounds. No condition. -/
import Derived.Test.YtgjmfehdjbepiaaPF15
import Derived.Test.YtgjmfehdjbepiaaRX
import Derived.Test.YtgjmfehdjbepiaaRY
namespace Go.Proofs.Ytgjmfehdjbepiaa.Pure
open Go Go.Proofs Go.RowKit Go.Proofs.Ytgjmfehdjbepiaa.P Go.Proofs.YtgjmfehdjbepiaaW.PrintWords Go.Proofs.YtgjmfehdjbepiaaW.PrintLast Go.Proofs.YtgjmfehdjbepiaaW.PrintMore
set_option maxRecDepth 100000

theorem lives_ev' : Ev (fun k => wogglelaw09_lives.f k) true := ev_from 40 (fun k hk => lives_k k (by omega))
/-- Where nobody loses, at least one guess is right for each hats. -/
theorem sum_ge (n : Nat) (q : Int) (sees t : List (List Int)) : ∀ L : List (List Int), (∀ h ∈ L, hits q sees t h n ≠ 0) → (L.length : Int) ≤ sumHits n q sees t L
  | [], _ => by simp [sumHits]
  | h :: L, hh => by
    have ih := sum_ge n q sees t L fun x hx => hh x (List.mem_cons_of_mem _ hx)
    have h0 := hits_bound q sees t h n
    have h1 := hh h List.mem_cons_self
    unfold sumHits at ih ⊢
    rw [List.map_cons, List.sum_cons, List.length_cons, Int.natCast_add]
    omega
theorem HatAverage : wogglelaw09_HatAverage.Pure := by
  intro a b s tb ha hb hs htb
  have ha := bounds_u8 ha
  have hb := bounds_u8 hb
  have hs := bounds_u8 hs
  refine Ev.rounds ?_
  unfold wogglelaw09_HatAverage.f
  obtain ⟨n, q, l, t, hmade, hn1, hn4, hq1, hq4, hl12, htl, hw⟩ := made_f a b s tb (by omega) (by omega) (by omega) (fun x hx => by have := bounds_u8 (htb.2 x hx); omega)
  have hR := rightAll_f n q l t (by omega) hw
  have hL := loses_f n q l t (by omega) hw
  obtain ⟨m, hm, -, -, -, -, -, -, hf⟩ := whyP_game hw
  have hm' : n = m := by omega
  subst hm'
  obtain ⟨n, rfl⟩ : ∃ i, n = i + 1 := ⟨n - 1, by omega⟩
  rw [Int.toNat_natCast] at hR hL
  have hsum := sumHits_all n q hq1 hq4 l t hf
  have hok := hats_ok (n + 1) q (by omega)
  have hlen := allHats_len (n + 1) q
  have hp := pow_small q (by omega) (by omega) n (by omega)
  have hp2 := pow_small q (by omega) (by omega) (n + 1) (by omega)
  have hpr : 0 ≤ ((n + 1 : Nat) : Int) * (q : Int) ^ n ∧ ((n + 1 : Nat) : Int) * (q : Int) ^ n ≤ 4 * 65536 := ⟨Int.mul_nonneg (by omega) hp.1, Int.mul_le_mul (by omega) hp.2 hp.1 (by omega)⟩
  refine Ev.bind hmade (Ev.bind hR (Ev.bind hL (ev_pos rfl ?_)))
  have hpow : Ev (fun k => woggleref09_Power.f k (q : Int) (wrap64 (((n + 1 : Nat) : Int) - 1))) ((q : Int) ^ n) := by
    rw [pred_w n (by omega)]
    exact power_f q (by omega) (by omega) n (by omega)
  refine Ev.bind hpow (ev_pos ?_ (Ev.bind lives_ev' (Ev.step (fun k => wogglelaw09_HatAverage.j0.eq_2 ..) (ev_neg (by decide) ?_))))
  · show sumHits (n + 1) q _ t _ = wrap64 (((n + 1 : Nat) : Int) * (q : Int) ^ n)
    rw [IntWalk.wrap64_in _ (by omega), hsum]
  unfold lossP
  by_cases c : (loseP (n + 1) q (seesTo l (n + 1) (n + 1)) t (allHats (n + 1) q)).length = 0
  · rw [if_pos c]
    refine ev_neg (by decide) (ev_pos rfl (ev_eq (Ev.now _) ?_))
    rw [decide_eq_true_eq]
    have none : ∀ h ∈ allHats (n + 1) q, hits q (seesTo l (n + 1) (n + 1)) t h (n + 1) ≠ 0 := by
      intro h hh h0
      unfold loseP at c
      cases e : (allHats (n + 1) q).find? fun h => hits q (seesTo l (n + 1) (n + 1)) t h (n + 1) == 0 with
      | none => exact absurd (beq_iff_eq.2 h0) (List.find?_eq_none.1 e h hh)
      | some x =>
        rw [e] at c
        have := (hok x (List.mem_of_find?_eq_some e)).2
        simp only [Option.getD_some] at c
        omega
    have hge := sum_ge (n + 1) q _ t _ none
    rw [hsum, hlen] at hge
    have e : ((q : Int) ^ (n + 1)).toNat = (q : Int) ^ (n + 1) := by omega
    rw [e, Int.pow_succ, Int.mul_comm] at hge
    have hpos : 0 < (q : Int) ^ n := Int.pow_pos (by omega)
    exact Int.le_of_mul_le_mul_right hge hpos
  · rw [if_neg c]
    refine ev_pos rfl ?_
    have hx : ∃ x, (allHats (n + 1) q).find? (fun h => hits q (seesTo l (n + 1) (n + 1)) t h (n + 1) == 0) = some x := by
      unfold loseP at c
      cases e : (allHats (n + 1) q).find? fun h => hits q (seesTo l (n + 1) (n + 1)) t h (n + 1) == 0 with
      | none => rw [e] at c; exact absurd rfl c
      | some x => exact ⟨x, rfl⟩
    obtain ⟨x, hx⟩ := hx
    have hxm := hok x (List.mem_of_find?_eq_some hx)
    have hx0 : hits q (seesTo l (n + 1) (n + 1)) t x (n + 1) = 0 := by simpa using List.find?_some hx
    have hlx : loseP (n + 1) q (seesTo l (n + 1) (n + 1)) t (allHats (n + 1) q) = x := by unfold loseP; rw [hx]; rfl
    rw [hlx]
    refine Ev.bind (pguesses_f ((n + 1 : Nat) : Int) q l t (by omega) x) ?_
    have hv : x.all (inB q) = true ∧ (x.length : Int) = ((n + 1 : Nat) : Int) := ⟨(colours_inB q x).2 hxm.1, by omega⟩
    unfold guessP_f
    rw [if_pos hw, if_pos hv, Int.toNat_natCast]
    refine ev_pos rfl (Ev.bind (ev_from x.length (fun k hk => hats_f ((n + 1 : Nat) : Int) q (by omega) x (by omega) k hk)) ?_)
    rw [hv.1, beq_iff_eq.2 hv.2]
    refine ev_pos rfl (ev_pos (by rw [guessesP_len]) (Ev.bind (rright_f (n + 1) (by omega) q _ t x hxm.2) (ev_eq (Ev.now _) ?_)))
    rw [hx0]; rfl

end Go.Proofs.Ytgjmfehdjbepiaa.Pure
