/- What strategies guess, in plain Lean: the reference's and the program's guesses. -/
import Derived.Test.YtgjmfehdjbepiaaRU
namespace Go.Proofs.Ytgjmfehdjbepiaa.Pure
open Go Go.Proofs Go.RowKit Go.Proofs.Ytgjmfehdjbepiaa.P Go.Proofs.YtgjmfehdjbepiaaW.PrintWords Go.Proofs.YtgjmfehdjbepiaaW.PrintLast Go.Proofs.YtgjmfehdjbepiaaW.PrintMore
set_option maxRecDepth 100000

/-- The place in a table, from the last hat on. -/
def horn (q : Int) (hats : List Int) : List Int → Int
  | [] => 0
  | j :: r => rd hats j + q * horn q hats r
theorem horn_ix (q : Int) (row hats : List Int) (m : Nat) : m ≤ row.length → ixTo q row hats m + q ^ m * horn q hats (row.drop m) = horn q hats row := by
  induction m with
  | zero => intro _; rw [ixTo, Int.pow_zero, List.drop_zero]; omega
  | succ m ih =>
    intro h
    rw [← ih (by omega), List.drop_eq_getElem_cons (show m < row.length by omega), horn, ixTo, rd_nat row m (by omega), Int.mul_add, Int.pow_succ, Int.mul_comm (rd hats row[m]) (q ^ m), Int.add_assoc, Int.mul_assoc]
theorem horn_all (q : Int) (row hats : List Int) : horn q hats row = ixTo q row hats row.length := by
  have := horn_ix q row hats row.length (Nat.le_refl _)
  rw [List.drop_length, horn, Int.mul_zero, Int.add_zero] at this
  exact this.symm
theorem horn_bound (q : Int) (hats : List Int) (hq : 1 ≤ q) (hc : Colours q hats) : ∀ row : List Int, Below_ hats.length row → 0 ≤ horn q hats row ∧ horn q hats row < q ^ row.length
  | [], _ => by simp [horn]
  | j :: r, h => by
    have ih := horn_bound q hats hq hc r (fun x hx => h x (List.mem_cons_of_mem _ hx))
    have hj := h j List.mem_cons_self
    have hx := hc _ (rd_mem hats j hj.1 hj.2)
    rw [horn, List.length_cons, Int.pow_succ]
    have h1 : 0 ≤ q * horn q hats r := Int.mul_nonneg (by omega) ih.1
    have h2 : q * (horn q hats r + 1) ≤ q * q ^ r.length := Int.mul_le_mul_of_nonneg_left (by omega) (by omega)
    rw [Int.mul_add, Int.mul_one] at h2
    rw [Int.mul_comm (q ^ r.length) q]
    omega
/-- A strategy that fits a game. -/
def Fits (n : Nat) (q : Int) (sees t : List (List Int)) : Prop :=
  sees.length = n ∧ t.length = n ∧ ∀ i : Nat, i < n → Below_ n (rd_L2 sees i) ∧ (rd_L2 sees i).length ≤ 4 ∧ (rd_L2 t i).length = (q ^ (rd_L2 sees i).length).toNat ∧ Colours q (rd_L2 t i)
def guessesP (q : Int) (sees t : List (List Int)) (hats : List Int) (m : Nat) : List Int := (List.range m).map fun i : Nat => guessP q (rd_L2 sees i) (rd_L2 t i) hats
theorem guessesP_succ (q : Int) (sees t : List (List Int)) (hats : List Int) (m : Nat) : guessesP q sees t hats (m + 1) = guessesP q sees t hats m ++ [guessP q (rd_L2 sees m) (rd_L2 t m) hats] := range_succ_map _ _
theorem guessesP_len (q : Int) (sees t : List (List Int)) (hats : List Int) (m : Nat) : (guessesP q sees t hats m).length = m := by unfold guessesP; simp
theorem rguesses_f (n : Nat) (hn : n ≤ 4) (q : Int) (h1 : 1 ≤ q) (h4 : q ≤ 4) (sees t : List (List Int)) (hf : Fits n q sees t) (hats : List Int) (hc : Colours q hats) (hl : hats.length = n) :
    Ev (fun k => woggleref09_Guesses.f k q sees t hats) (guessesP q sees t hats n) := by
  obtain ⟨hs, ht, hf⟩ := hf
  unfold woggleref09_Guesses.f
  refine up_ind (fun i => Ev (fun k => woggleref09_Guesses.l0 k q sees t hats (guessesP q sees t hats i) (i : Int)) (guessesP q sees t hats n)) n ?_ ?_
  · exact Ev.step (fun k => woggleref09_Guesses.l0.eq_2 ..) (ev_neg (by omega) (Ev.now _))
  · intro i hi ih
    obtain ⟨hb, hl4, hsz, -⟩ := hf i hi
    refine Ev.step (fun k => woggleref09_Guesses.l0.eq_2 ..) (ev_pos (by omega) (ev_pos (by omega) ?_))
    have hhb : ∀ r, Below_ hats.length r → r.length ≤ 4 → 0 ≤ horn q hats r ∧ horn q hats r < 65536 := by
      intro r hr hr4
      have h := horn_bound q hats h1 hc r hr
      have := pow_small q (by omega) h4 r.length (by omega)
      omega
    rw [← hl] at hb
    have down : ∀ m, m ≤ (rd_L2 sees i).length → Ev (fun k => woggleref09_Guesses.l1 k q sees t hats (guessesP q sees t hats i) (i : Int) (horn q hats ((rd_L2 sees i).drop m)) ((m : Int) - 1)) (guessesP q sees t hats n) := by
      intro m
      induction m with
      | zero =>
        intro _
        refine Ev.step (fun k => woggleref09_Guesses.l1.eq_2 ..) (ev_neg (by omega) (ev_pos (by omega) (ev_pos (by omega) ?_)))
        rw [List.drop_zero]
        have hx := horn_bound q hats h1 hc _ hb
        refine ev_pos hx.1 (ev_pos ?_ (ev_pos (by rw [guessesP_len]; omega) ?_))
        · rw [hsz]; omega
        · rw [succ_w i (by omega), horn_all]
          rw [guessesP_succ] at ih
          exact ih
      | succ m ihm =>
        intro hm
        have hj := hb _ (List.getElem_mem (show m < (rd_L2 sees i).length by omega))
        have e : (((m + 1 : Nat) : Int) - 1) = (m : Int) := by omega
        rw [e]
        refine Ev.step (fun k => woggleref09_Guesses.l1.eq_2 ..) (ev_pos (by omega) (ev_pos (by omega) (ev_pos (by omega) (ev_pos (by omega) (ev_pos (by omega) ?_)))))
        rw [rd_nat (rd_L2 sees i) m (by omega)]
        refine ev_pos hj.1 (ev_pos hj.2 ?_)
        have ih2 := ihm (by omega)
        rw [List.drop_eq_getElem_cons (show m < (rd_L2 sees i).length by omega), horn] at ih2
        have hb' : Below_ hats.length ((rd_L2 sees i).drop (m + 1)) := fun x hx => hb x (List.mem_of_mem_drop hx)
        have hx := hhb ((rd_L2 sees i).drop (m + 1)) hb' (by rw [List.length_drop]; omega)
        have hcol := hc _ (rd_mem hats _ hj.1 hj.2)
        have hq2 : 0 ≤ horn q hats ((rd_L2 sees i).drop (m + 1)) * q ∧ horn q hats ((rd_L2 sees i).drop (m + 1)) * q ≤ 65536 * 4 :=
          ⟨Int.mul_nonneg hx.1 (by omega), Int.mul_le_mul (by omega) h4 (by omega) (by omega)⟩
        rw [IntWalk.wrap64_in (horn q hats ((rd_L2 sees i).drop (m + 1)) * q) (by omega), IntWalk.wrap64_in (_ + _) (by omega), IntWalk.wrap64_in ((m : Int) - 1) (by omega), Int.add_comm, Int.mul_comm _ q]
        exact ih2
    have := down (rd_L2 sees i).length (Nat.le_refl _)
    rw [List.drop_length, horn] at this
    rw [IntWalk.wrap64_in _ (by omega)]
    exact this
theorem colours_inB (q : Int) (l : List Int) : l.all (inB q) = true ↔ Colours q l := by
  rw [List.all_eq_true]
  unfold Colours inB
  simp only [Bool.and_eq_true, decide_eq_true_eq]
  constructor
  · intro h c hc; have := h c hc; omega
  · intro h c hc; have := h c hc; omega
theorem fits_of (n : Nat) (hn : n ≤ 4) (q : Int) (l : List S71) (t : List (List Int)) (h : isStrat q (seesTo l n n) t = true) : Fits n q (seesTo l n n) t := by
  unfold isStrat at h
  rw [Bool.and_eq_true, decide_eq_true_eq, seesTo_len] at h
  refine ⟨seesTo_len _ _ _, h.1, fun i hi => ?_⟩
  have hr := h.2
  unfold rowsOk at hr
  rw [List.all_eq_true] at hr
  have hi1 : i < (seesTo l n n).length := by rw [seesTo_len]; exact hi
  have hi2 : i < t.length := by omega
  have hm : ((seesTo l n n)[i], t[i]) ∈ List.zip (seesTo l n n) t := by
    rw [List.mem_iff_getElem]
    exact ⟨i, by rw [List.length_zip]; omega, by rw [List.getElem_zip]⟩
  have ht := hr _ hm
  unfold tabOk at ht
  rw [Bool.and_eq_true, colours_inB, beq_iff_eq] at ht
  rw [rdL_nat _ i hi1, rdL_nat t i hi2]
  have hrow : (seesTo l n n)[i] = rowTo l i n := by rw [← rdL_nat _ i hi1]; exact seesTo_row l n i hi
  refine ⟨by rw [hrow]; exact rowTo_below l i n, by rw [hrow]; exact Nat.le_trans (rowTo_len l i n) hn, ?_, ht.1⟩
  have := ht.2
  simp only at this
  omega
/-- What hat.Guesses answers for a strategy and its hats. -/
theorem pguesses_l0 (n : Nat) (hn : n ≤ 4) (q : Int) (h1 : 1 ≤ q) (h4 : q ≤ 4) (sees t : List (List Int)) (hf : Fits n q sees t) (hats : List Int) (hc : Colours q hats) (hl : hats.length = n) :
    Ev (fun k => hat_Guesses.l0 k [⟨(n : Int), q, sees⟩] t hats n [] 0) (guessesP q sees t hats n) := by
  obtain ⟨hs, ht, hf⟩ := hf
  refine up_ind (fun i => Ev (fun k => hat_Guesses.l0 k [⟨(n : Int), q, sees⟩] t hats n (guessesP q sees t hats i) (i : Int)) (guessesP q sees t hats n)) n ?_ ?_
  · exact Ev.step (fun k => hat_Guesses.l0.eq_2 ..) (ev_neg (by omega) (Ev.now _))
  · intro i hi ih
    obtain ⟨hb, hl4, hsz, -⟩ := hf i hi
    refine Ev.step (fun k => hat_Guesses.l0.eq_2 ..) (ev_pos (by omega) ?_)
    refine Ev.bind (ev_from 12 (fun k hk => guess_some n q i sees t hats h1 h4 (by omega) (by omega) (by omega) hc (by rw [hl]; exact hb) hl4 hsz k hk)) (ev_pos (by rw [guessesP_len]; omega) ?_)
    rw [succ_w i (by omega), ← guessesP_succ]
    exact ih
/-- What hat.Guesses answers. -/
def guessP_f (n q : Int) (l : List S71) (t : List (List Int)) (hats : List Int) : List Int × Int :=
  if whyP n q l t = 0 then (if hats.all (inB q) = true ∧ (hats.length : Int) = n then (guessesP q (seesTo l n.toNat n.toNat) t hats n.toNat, 0) else ([], 2)) else ([], whyP n q l t)
theorem whyP_zero {n q : Int} {l : List S71} {t : List (List Int)} (h : whyP n q l t = 0) : isGame n q l = true ∧ isStrat q (seesTo l n.toNat n.toNat) t = true := by
  unfold whyP at h
  by_cases h1 : isGame n q l = true
  · rw [if_pos h1] at h
    by_cases h2 : isStrat q (seesTo l n.toNat n.toNat) t = true
    · exact ⟨h1, h2⟩
    · rw [if_neg h2] at h; omega
  · rw [if_neg h1] at h; omega
theorem withP_zero {n q : Int} {l : List S71} {t : List (List Int)} (h : whyP n q l t = 0) : withP n q l t = ([gameOf n q l], 0) := by
  obtain ⟨h1, h2⟩ := whyP_zero h
  unfold withP
  rw [if_pos h1, if_pos h2]
theorem withP_pos {n q : Int} {l : List S71} {t : List (List Int)} (h : whyP n q l t ≠ 0) : withP n q l t = ([], whyP n q l t) := by
  unfold whyP at h ⊢
  unfold withP
  by_cases h1 : isGame n q l = true
  · rw [if_pos h1] at h ⊢
    rw [if_pos h1]
    by_cases h2 : isStrat q (seesTo l n.toNat n.toNat) t = true
    · rw [if_pos h2] at h; exact absurd rfl h
    · rw [if_neg h2, if_neg h2]
  · rw [if_neg h1, if_neg h1]
theorem whyP_game {n q : Int} {l : List S71} {t : List (List Int)} (h : whyP n q l t = 0) : ∃ m : Nat, n = m ∧ 1 ≤ m ∧ m ≤ 4 ∧ 1 ≤ q ∧ q ≤ 4 ∧ l.length ≤ 12 ∧ Edges n l ∧ Fits m q (seesTo l m m) t := by
  obtain ⟨h1, h2⟩ := whyP_zero h
  have hg := (isGame_iff n q l).1 h1
  have hg2 := hg.1
  unfold goodNums at hg2
  have e : ((n.toNat : Nat) : Int) = n := by omega
  exact ⟨n.toNat, e.symm, by omega, by omega, by omega, by omega, by omega, edges_of n l hg.2, fits_of n.toNat (by omega) q l t h2⟩
theorem pguesses_f (n q : Int) (l : List S71) (t : List (List Int)) (hl : t.length ≤ 1000) (hats : List Int) : Ev (fun k => hat_Guesses.f k n q l t hats) (guessP_f n q l t hats) := by
  unfold hat_Guesses.f guessP_f
  refine Ev.bind (withOf_f n q l t hl) ?_
  by_cases h : whyP n q l t = 0
  · rw [if_pos h, withP_zero h]
    obtain ⟨m, rfl, hm1, hm4, hq1, hq4, _, _, hf⟩ := whyP_game h
    refine ev_pos rfl ?_
    rw [Int.toNat_natCast]
    by_cases hv : hats.all (inB q) = true ∧ (hats.length : Int) = m
    · rw [if_pos hv]
      have e : hat_valid.f 0 hats m q = some true := by
        unfold hat_valid.f
        rw [if_neg (by decide), if_neg (by decide), if_pos hv.2, ← all_inB, hv.1]
      refine ev_call e (ev_pos rfl ?_)
      exact Ev.bind (pguesses_l0 m hm4 q hq1 hq4 _ t hf hats ((colours_inB q hats).1 hv.1) (by omega)) (Ev.now _)
    · rw [if_neg hv]
      have e : hat_valid.f 0 hats m q = some false := by
        unfold hat_valid.f
        rw [if_neg (by decide), if_neg (by decide)]
        by_cases h2 : (hats.length : Int) = m
        · rw [if_pos h2, ← all_inB]
          congr 1
          exact Bool.eq_false_iff.2 (fun h1 => hv ⟨h1, h2⟩)
        · rw [if_neg h2]
      exact ev_call e (ev_neg (by decide) (Ev.now _))
  · rw [if_neg h, withP_pos h]
    exact ev_neg h (Ev.now _)

end Go.Proofs.Ytgjmfehdjbepiaa.Pure
