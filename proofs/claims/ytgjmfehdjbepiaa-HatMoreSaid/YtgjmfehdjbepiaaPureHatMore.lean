/- HatMore's plain law: for every deal and every further edge the function tells true, with some number of rounds. No condition. -/
import Derived.Test.YtgjmfehdjbepiaaPF12d
import Derived.Test.YtgjmfehdjbepiaaRX
import Derived.Test.YtgjmfehdjbepiaaRY
namespace Go.Proofs.Ytgjmfehdjbepiaa.Pure
open Go Go.Proofs Go.RowKit Go.Proofs.Ytgjmfehdjbepiaa.P Go.Proofs.YtgjmfehdjbepiaaW.PrintWords Go.Proofs.YtgjmfehdjbepiaaW.PrintLast Go.Proofs.YtgjmfehdjbepiaaW.PrintMore
set_option maxRecDepth 100000

theorem livesM : Ev (fun k => wogglelaw09_lives.f k) true := ev_from 40 (fun k hk => lives_k k (by omega))
/-- The digits of a number, laid at the places of a row. -/
def fill (q : Int) : List Int → List Int → Int → List Int
  | hats, [], _ => hats
  | hats, j :: r, v => fill q (hats.set j.toNat (v % q)) r (v / q)
theorem fill_len (q : Int) : ∀ (row hats : List Int) (v : Int), (fill q hats row v).length = hats.length
  | [], _, _ => rfl
  | j :: r, hats, v => by rw [fill, fill_len q r]; simp
theorem fill_colours (q : Int) (hq : 1 ≤ q) : ∀ (row hats : List Int) (v : Int), Colours q hats → Colours q (fill q hats row v)
  | [], _, _, h => h
  | j :: r, hats, v, h => by
    rw [fill]
    refine fill_colours q hq r _ _ fun c hc => ?_
    rcases List.mem_or_eq_of_mem_set hc with h1 | h1
    · exact h c h1
    · rw [h1]; exact ⟨Int.emod_nonneg _ (by omega), Int.emod_lt_of_pos _ (by omega)⟩
theorem rd_set_self (l : List Int) (j c : Int) (h0 : 0 ≤ j) (h : j < l.length) : rd (l.set j.toNat c) j = c := by
  unfold rd
  rw [List.getD_eq_getElem?_getD, List.getElem?_set_self (by omega)]; rfl
theorem fill_back (q : Int) (hq : 1 ≤ q) (h : List Int) (hc : Colours q h) : ∀ (row hats : List Int), Below_ h.length row → hats.length = h.length → ∀ j : Int, 0 ≤ j → rd (fill q hats row (horn q h row)) j = if j ∈ row then rd h j else rd hats j
  | [], hats, _, _, j, _ => by simp [fill]
  | a :: r, hats, hb, hl, j, hj => by
    have ha := hb a List.mem_cons_self
    have hca := hc _ (rd_mem h a ha.1 ha.2)
    have e1 : horn q h (a :: r) % q = rd h a := by
      rw [horn, Int.add_mul_emod_self_left]; exact Int.emod_eq_of_lt hca.1 hca.2
    have e2 : horn q h (a :: r) / q = horn q h r := by
      rw [horn, Int.add_mul_ediv_left _ _ (by omega : q ≠ 0), Int.ediv_eq_zero_of_lt hca.1 hca.2, Int.zero_add]
    rw [fill, e1, e2, fill_back q hq h hc r _ (fun x hx => hb x (List.mem_cons_of_mem _ hx)) (by simp [hl]) j hj]
    by_cases h1 : j ∈ r
    · rw [if_pos h1, if_pos (List.mem_cons_of_mem _ h1)]
    · rw [if_neg h1]
      by_cases h2 : j = a
      · subst h2
        rw [if_pos List.mem_cons_self, rd_set_self _ _ _ hj (by omega)]
      · rw [if_neg (by simp [h1, h2]), rd_set _ _ _ _ hj (by omega)]
theorem horn_same (q : Int) (h h' : List Int) : ∀ row : List Int, (∀ j ∈ row, rd h j = rd h' j) → horn q h row = horn q h' row
  | [], _ => rfl
  | a :: r, hr => by rw [horn, horn, hr a List.mem_cons_self, horn_same q h h' r fun j hj => hr j (List.mem_cons_of_mem _ hj)]
theorem rowTo_more (l : List S71) (e : S71) (i : Int) (n : Nat) : ∀ j ∈ rowTo l i n, j ∈ rowTo (l ++ [e]) i n := by
  intro j hj
  unfold rowTo at hj ⊢
  obtain ⟨h1, h2⟩ := List.mem_filter.1 hj
  refine List.mem_filter.2 ⟨h1, ?_⟩
  unfold nb has at h2 ⊢
  rw [List.any_append, List.any_append]
  rw [Bool.and_eq_true, Bool.or_eq_true] at h2 ⊢
  refine ⟨h2.1, ?_⟩
  rcases h2.2 with h | h
  · exact .inl (by rw [h, Bool.true_or])
  · exact .inr (by rw [h, Bool.true_or])
/-- A player's table for the game with a further edge. -/
def spreadRow (n : Nat) (q : Int) (sees wide t : List Int) : Nat → List Int := fun m => (List.range m).map fun y : Nat => rd t (horn q (fill q (List.replicate n 0) wide y) sees)
theorem spreadRow_succ (n : Nat) (q : Int) (sees wide t : List Int) (m : Nat) : spreadRow n q sees wide t (m + 1) = spreadRow n q sees wide t m ++ [rd t (horn q (fill q (List.replicate n 0) wide m) sees)] := range_succ_map _ _
theorem zeros_colours (n : Nat) (q : Int) (hq : 1 ≤ q) : Colours q (List.replicate n (0 : Int)) := fun c hc => by rw [List.eq_of_mem_replicate hc]; omega
section
variable (n q : Nat) (l : List S71) (t : List (List Int)) (more : List S71) (sees wide : List (List Int)) (hn : n ≤ 4) (hq1 : 1 ≤ q) (hq4 : q ≤ 4) (hs : sees.length = n) (hw : wide.length = n) (ht : t.length = n)
  (spread : List (List Int)) (hsp : spread.length ≤ 4) (i : Nat) (hi : i < n) (hb : Below_ n (rd_L2 sees i)) (hb4 : (rd_L2 sees i).length ≤ 4) (hwb : Below_ n (rd_L2 wide i)) (hw4 : (rd_L2 wide i).length ≤ 4)
  (htl : (rd_L2 t i).length = ((q : Int) ^ (rd_L2 sees i).length).toNat)
include hq1 hq4 hs ht hi hb hb4 htl
theorem more_l3 (row : List Int) (hrow : row.length ≤ 1000) (y : Nat) (hy : y ≤ 1000) (hats : List Int) (hc : Colours q hats) (hl : hats.length = n) (R : Bool)
    (h : Ev (fun k => wogglelaw09_HatMore.l1 k n q l t more sees wide spread i (row ++ [rd (rd_L2 t i) (horn q hats (rd_L2 sees i))]) ((y + 1 : Nat) : Int)) R) : ∀ m : Nat, m ≤ (rd_L2 sees i).length →
    Ev (fun k => wogglelaw09_HatMore.l3 k n q l t more sees wide spread i row y hats (horn q hats ((rd_L2 sees i).drop m)) ((m : Int) - 1)) R := by
  rw [← hl] at hb
  intro m
  induction m with
  | zero =>
    intro _
    rw [List.drop_zero]
    have hx := horn_bound q hats (by omega) hc _ hb
    have hp := pow_small q (by omega) (by omega) (rd_L2 sees i).length (by omega)
    refine Ev.step (fun k => wogglelaw09_HatMore.l3.eq_2 ..) (ev_neg (by omega) (ev_pos (by omega) (ev_pos (by omega) (ev_pos hx.1 (ev_pos (by rw [htl]; omega) (ev_call rfl (ev_pos ?_ ?_)))))))
    · simp only [List.length_singleton]; omega
    · rw [succ_w y (by omega)]; exact h
  | succ m ihm =>
    intro hm
    have hj := hb _ (List.getElem_mem (show m < (rd_L2 sees i).length by omega))
    have e : (((m + 1 : Nat) : Int) - 1) = (m : Int) := by omega
    rw [e]
    refine Ev.step (fun k => wogglelaw09_HatMore.l3.eq_2 ..) (ev_pos (by omega) (ev_pos (by omega) (ev_pos (by omega) (ev_pos (by omega) (ev_pos (by omega) ?_)))))
    rw [rd_nat (rd_L2 sees i) m (by omega)]
    refine ev_pos hj.1 (ev_pos hj.2 ?_)
    have ih2 := ihm (by omega)
    rw [List.drop_eq_getElem_cons (show m < (rd_L2 sees i).length by omega), horn] at ih2
    have hb' : Below_ hats.length ((rd_L2 sees i).drop (m + 1)) := fun x hx => hb x (List.mem_of_mem_drop hx)
    have hx := horn_bound q hats (by omega) hc _ hb'
    have hpp := pow_small q (by omega) (by omega) ((rd_L2 sees i).drop (m + 1)).length (by rw [List.length_drop]; omega)
    have hcol := hc _ (rd_mem hats _ hj.1 hj.2)
    have hq2 : 0 ≤ horn q hats ((rd_L2 sees i).drop (m + 1)) * q ∧ horn q hats ((rd_L2 sees i).drop (m + 1)) * q ≤ 65536 * 4 :=
      ⟨Int.mul_nonneg hx.1 (by omega), Int.mul_le_mul (by omega) (by omega) (by omega) (by omega)⟩
    rw [IntWalk.wrap64_in (horn q hats ((rd_L2 sees i).drop (m + 1)) * q) (by omega), IntWalk.wrap64_in (_ + _) (by omega), IntWalk.wrap64_in ((m : Int) - 1) (by omega), Int.add_comm, Int.mul_comm _ (q : Int)]
    exact ih2
include hw hwb hw4
theorem more_l2 (row : List Int) (hrow : row.length ≤ 1000) (y : Nat) (hy : y ≤ 1000) (R : Bool) : ∀ (d k : Nat) (hats : List Int) (v : Int), k + d = (rd_L2 wide i).length → Colours q hats → hats.length = n → 0 ≤ v → v ≤ 65536 →
    Ev (fun f => wogglelaw09_HatMore.l1 f n q l t more sees wide spread i (row ++ [rd (rd_L2 t i) (horn q (fill q hats ((rd_L2 wide i).drop k) v) (rd_L2 sees i))]) ((y + 1 : Nat) : Int)) R →
    Ev (fun f => wogglelaw09_HatMore.l2 f n q l t more sees wide spread i row y hats v (k : Int)) R := by
  intro d
  induction d with
  | zero =>
    intro k hats v hk hc hl hv0 hv h
    have e := more_l3 n q l t more sees wide hq1 hq4 hs ht spread i hi hb hb4 htl row hrow y hy hats hc hl R (by rw [List.drop_of_length_le (by omega)] at h; exact h) (rd_L2 sees i).length (Nat.le_refl _)
    rw [List.drop_length, horn] at e
    refine Ev.step (fun k => wogglelaw09_HatMore.l2.eq_2 ..) (ev_pos (by omega) (ev_pos (by omega) (ev_neg (by omega) (ev_pos (by omega) ?_))))
    rw [IntWalk.wrap64_in _ (by omega)]
    exact e
  | succ d ih =>
    intro k hats v hk hc hl hv0 hv h
    have hj := hwb _ (List.getElem_mem (show k < (rd_L2 wide i).length by omega))
    refine Ev.step (fun k => wogglelaw09_HatMore.l2.eq_2 ..) (ev_pos (by omega) (ev_pos (by omega) (ev_pos (by omega) (ev_pos (by omega) (ev_neg (by omega) ?_)))))
    rw [rd_nat (rd_L2 wide i) k (by omega)]
    refine ev_pos hj.1 (ev_pos (by omega) ?_)
    have hd : Int.tdiv v q = v / q := Int.tdiv_eq_ediv_of_nonneg hv0
    have hm : Int.tmod v q = v % q := Int.tmod_eq_emod_of_nonneg hv0
    have hdb : 0 ≤ v / q ∧ v / q ≤ v := ⟨Int.ediv_nonneg hv0 (by omega), Int.ediv_le_self _ hv0⟩
    rw [hd, hm, IntWalk.wrap64_in (v / q) (by omega), succ_w k (by omega)]
    refine ih (k + 1) _ _ (by omega) ?_ (by simp [hl]) hdb.1 (by omega) ?_
    · intro c hcm
      rcases List.mem_or_eq_of_mem_set hcm with h1 | h1
      · exact hc c h1
      · rw [h1]; exact ⟨Int.emod_nonneg _ (by omega), Int.emod_lt_of_pos _ (by omega)⟩
    · rw [List.drop_eq_getElem_cons (show k < (rd_L2 wide i).length by omega), fill] at h
      exact h
include hsp hn
theorem more_l1 (R : Bool) (h : Ev (fun f => wogglelaw09_HatMore.l0 f n q l t more sees wide (spread ++ [spreadRow n q (rd_L2 sees i) (rd_L2 wide i) (rd_L2 t i) ((q : Int) ^ (rd_L2 wide i).length).toNat]) ((i + 1 : Nat) : Int)) R) :
    Ev (fun f => wogglelaw09_HatMore.l1 f n q l t more sees wide spread i [] 0) R := by
  have hp := pow_small q (by omega) (by omega) (rd_L2 wide i).length (by omega)
  have hp' : (q : Int) ^ (rd_L2 wide i).length ≤ 256 := by
    have h1 : q ^ (rd_L2 wide i).length ≤ 4 ^ 4 := Nat.le_trans (Nat.pow_le_pow_left hq4 _) (Nat.pow_le_pow_right (by decide) hw4)
    rw [← Int.natCast_pow]; omega
  obtain ⟨P, hP⟩ : ∃ P : Nat, (q : Int) ^ (rd_L2 wide i).length = P := ⟨((q : Int) ^ (rd_L2 wide i).length).toNat, by omega⟩
  rw [hP, Int.toNat_natCast] at h
  have key : Ev (fun f => wogglelaw09_HatMore.l1 f n q l t more sees wide spread i (spreadRow n q (rd_L2 sees i) (rd_L2 wide i) (rd_L2 t i) 0) ((0 : Nat) : Int)) R := by
    refine up_ind (fun y => Ev (fun f => wogglelaw09_HatMore.l1 f n q l t more sees wide spread i (spreadRow n q (rd_L2 sees i) (rd_L2 wide i) (rd_L2 t i) y) (y : Int)) R) P ?_ ?_
    · refine Ev.step (fun k => wogglelaw09_HatMore.l1.eq_2 ..) (ev_pos (by omega) (ev_pos (by omega) (Ev.bind (power_f q (by omega) (by omega) _ (by omega)) (ev_neg (by omega) (ev_call rfl (ev_pos ?_ ?_))))))
      · simp only [List.length_singleton]; omega
      · rw [succ_w i (by omega)]; exact h
    · intro y hy ih
      refine Ev.step (fun k => wogglelaw09_HatMore.l1.eq_2 ..) (ev_pos (by omega) (ev_pos (by omega) (Ev.bind (power_f q (by omega) (by omega) _ (by omega)) (ev_pos (by omega) (ev_pos (by omega) (ev_pos (by omega) ?_))))))
      rw [Int.toNat_natCast]
      refine more_l2 n q l t more sees wide hq1 hq4 hs hw ht spread i hi hb hb4 hwb hw4 htl _ (by unfold spreadRow; simp; omega) y (by omega) R _ 0 _ _ (Nat.zero_add _) (zeros_colours n q (by omega)) (by simp) (by omega) (by omega) ?_
      rw [List.drop_zero]
      rw [spreadRow_succ] at ih
      exact ih
  exact key
end
theorem HatMore : wogglelaw09_HatMore.Pure := by
  intro a b s tb x0 x1 ha hb hs htb hx0 hx1
  have ha := bounds_u8 ha
  have hb := bounds_u8 hb
  have hs := bounds_u8 hs
  have hx0 := bounds_u8 hx0
  have hx1 := bounds_u8 hx1
  refine Ev.rounds ?_
  unfold wogglelaw09_HatMore.f
  obtain ⟨n, q, l, t, hmade, hn1, hn4, hq1, hq4, hl6, htl, hwhy⟩ := made_f a b s tb (by omega) (by omega) (by omega) (fun x hx => by have := bounds_u8 (htb.2 x hx); omega)
  refine Ev.bind hmade ?_
  by_cases h2 : (n : Int) < 2
  · exact ev_pos h2 (Ev.bind livesM (Ev.now _))
  refine ev_neg h2 (ev_neg (by show ¬ (n : Int) = 0; omega) (ev_call rfl (ev_pos (by simp only [List.length_nil]; omega) (ev_call rfl (ev_neg ?_ (ev_call rfl (ev_pos ?_ (ev_call rfl ?_))))))))
  · show ¬ wrap64 ((n : Int) - 1) = 0
    rw [IntWalk.wrap64_in _ (by omega)]; omega
  · simp only [List.length_singleton, List.nil_append]; omega
  have hm0 : 0 ≤ Int.tmod x0 n ∧ Int.tmod x0 n < n := ⟨Int.tmod_nonneg _ hx0.1, Int.tmod_lt_of_pos _ (by omega)⟩
  have hm1 : 0 ≤ Int.tmod x1 ((n : Int) - 1) ∧ Int.tmod x1 ((n : Int) - 1) < (n : Int) - 1 := ⟨Int.tmod_nonneg _ hx1.1, Int.tmod_lt_of_pos _ (by omega)⟩
  have hge : ∃ e : S71, (⟨Int.tmod (wrap64 x0) n, Int.tmod (wrap64 ((wrap64 ((Int.tmod (wrap64 x0) n) + 1)) + (Int.tmod (wrap64 x1) (wrap64 ((n : Int) - 1))))) n⟩ : S71) = e ∧ (0 ≤ e.f0 ∧ e.f0 < n) ∧ (0 ≤ e.f1 ∧ e.f1 < n) ∧ e.f0 ≠ e.f1 := by
    refine ⟨_, rfl, ?_⟩
    simp only
    rw [IntWalk.wrap64_in x0 (by omega), IntWalk.wrap64_in x1 (by omega), IntWalk.wrap64_in ((n : Int) - 1) (by omega), IntWalk.wrap64_in (Int.tmod x0 n + 1) (by omega), IntWalk.wrap64_in (_ + _) (by omega)]
    have hmm : Int.tmod (Int.tmod x0 n + 1 + Int.tmod x1 ((n : Int) - 1)) n = (Int.tmod x0 n + 1 + Int.tmod x1 ((n : Int) - 1)) % n := Int.tmod_eq_emod_of_nonneg (by omega)
    rw [hmm]
    generalize Int.tmod x0 n = u at hm0 ⊢
    generalize Int.tmod x1 ((n : Int) - 1) = v at hm1 ⊢
    refine ⟨hm0, ⟨Int.emod_nonneg _ (by omega), Int.emod_lt_of_pos _ (by omega)⟩, ?_⟩
    by_cases hc : u + 1 + v < n
    · rw [Int.emod_eq_of_lt (by omega) hc]; omega
    · rw [← Int.sub_emod_right, Int.emod_eq_of_lt (by omega) (by omega)]; omega
  obtain ⟨e, hee, he0, he1, hne⟩ := hge
  have hee2 : ([] ++ l : List S71) ++ [(⟨Int.tmod (wrap64 x0) n, Int.tmod (wrap64 ((wrap64 ((Int.tmod (wrap64 x0) n) + 1)) + (Int.tmod (wrap64 x1) (wrap64 ((n : Int) - 1))))) n⟩ : S71)] = l ++ [e] := by rw [hee, List.nil_append]
  obtain ⟨m, hm, -, -, -, -, -, hed, hf⟩ := whyP_game hwhy
  have hm' : n = m := by omega
  subst hm'
  have hed2 : Edges n (l ++ [e]) := by
    intro x hx
    rcases List.mem_append.1 hx with h | h
    · exact hed x h
    · rw [List.mem_singleton.1 h]; exact ⟨he0, he1, hne⟩
  have hbad2 : (l ++ [e]).any (badEdge n) = false := by
    rw [List.any_eq_false]
    intro x hx hbd
    have h1 := okE_bad n x
    rw [hbd] at h1
    have h3 := hed2 x hx
    unfold okE at h1
    simp only [Bool.not_true, Bool.and_eq_false_imp] at h1
    have := h1 (by simp only [Bool.and_eq_true, decide_eq_true_eq]; omega) (by simp only [Bool.and_eq_true, decide_eq_true_eq]; omega)
    simp only [Bool.not_eq_false', decide_eq_true_eq] at this
    exact h3.2.2 this
  refine Ev.bind (sees_f n hn4 l (by omega) hed) ?_
  have hs2 := sees_f n hn4 (l ++ [e]) (by rw [List.length_append, List.length_singleton]; omega) hed2
  have hfin : ∀ sp : List (List Int), sp = (List.range n).map (fun i : Nat => spreadRow n q (rd_L2 (seesTo l n n) i) (rd_L2 (seesTo (l ++ [e]) n n) i) (rd_L2 t i) ((q : Int) ^ (rd_L2 (seesTo (l ++ [e]) n n) i).length).toNat) →
      Ev (fun k => wogglelaw09_HatMore.l0 k n q l t (l ++ [e]) (seesTo l n n) (seesTo (l ++ [e]) n n) sp (n : Int)) true := by
    intro sp hsp
    have hsl : sp.length = n := by rw [hsp]; simp
    have hrow : ∀ i : Nat, i < n → rd_L2 sp i = spreadRow n q (rd_L2 (seesTo l n n) i) (rd_L2 (seesTo (l ++ [e]) n n) i) (rd_L2 t i) ((q : Int) ^ (rd_L2 (seesTo (l ++ [e]) n n) i).length).toNat := by
      intro i hi
      rw [rdL_nat sp i (by omega)]
      subst hsp
      simp only [List.getElem_map, List.getElem_range]
    have hwr : ∀ i : Nat, i < n → Below_ n (rd_L2 (seesTo (l ++ [e]) n n) i) ∧ (rd_L2 (seesTo (l ++ [e]) n n) i).length ≤ 4 := fun i hi => by
      rw [seesTo_row (l ++ [e]) n i hi]
      exact ⟨rowTo_below _ _ _, Nat.le_trans (rowTo_len _ _ _) hn4⟩
    have hstr : isStrat q (seesTo (l ++ [e]) n n) sp = true := by
      unfold isStrat
      rw [decide_eq_true (by rw [seesTo_len, hsl]), Bool.true_and]
      unfold rowsOk
      rw [List.all_eq_true]
      intro p hp
      obtain ⟨i, hi, hpi⟩ := List.getElem_of_mem hp
      rw [List.length_zip, seesTo_len, hsl, Nat.min_self] at hi
      rw [List.getElem_zip] at hpi
      have e1 : (seesTo (l ++ [e]) n n)[i]'(by rw [seesTo_len]; exact hi) = rd_L2 (seesTo (l ++ [e]) n n) i := (rdL_nat _ i _).symm
      have e2 : sp[i]'(by omega) = rd_L2 sp i := (rdL_nat sp i _).symm
      rw [← hpi, e1, e2, hrow i hi]
      obtain ⟨hb1, hb4, hsz, hcol⟩ := hf.2.2 i hi
      have hp := pow_small q (by omega) (by omega) (rd_L2 (seesTo (l ++ [e]) n n) i).length (by have := (hwr i hi).2; omega)
      unfold tabOk
      rw [Bool.and_eq_true, colours_inB, beq_iff_eq]
      constructor
      · intro c hc
        unfold spreadRow at hc
        obtain ⟨y, _, rfl⟩ := List.mem_map.1 hc
        have hfl := fill_len q (rd_L2 (seesTo (l ++ [e]) n n) i) (List.replicate n 0) y
        rw [List.length_replicate] at hfl
        have hx := horn_bound q (fill q (List.replicate n 0) (rd_L2 (seesTo (l ++ [e]) n n) i) y) (by omega) (fill_colours q (by omega) _ _ _ (zeros_colours n q (by omega))) (rd_L2 (seesTo l n n) i) (by rw [hfl]; exact hb1)
        have hpp := pow_small q (by omega) (by omega) (rd_L2 (seesTo l n n) i).length (by omega)
        exact hcol _ (rd_mem _ _ hx.1 (by rw [hsz]; omega))
      · unfold spreadRow
        rw [List.length_map, List.length_range]; dsimp only; omega
    have hwhy2 : whyP n q (l ++ [e]) sp = 0 := by
      unfold whyP
      rw [if_pos ((isGame_iff n q (l ++ [e])).2 ⟨⟨by omega, by omega, by omega, by omega, by rw [List.length_append, List.length_singleton]; omega⟩, hbad2⟩), Int.toNat_natCast, if_pos hstr]
    have hL1 := loses_f n q l t (by omega) hwhy
    have hL2 := loses_f n q (l ++ [e]) sp (by omega) hwhy2
    rw [Int.toNat_natCast] at hL1 hL2
    have same : ∀ h ∈ allHats n q, ∀ m : Nat, m ≤ n → hits q (seesTo (l ++ [e]) n n) sp h m = hits q (seesTo l n n) t h m := by
      intro h hh m
      obtain ⟨hc, hlen⟩ := hats_ok n q (by omega) h hh
      induction m with
      | zero => intro _; rfl
      | succ m ih =>
        intro hm
        have hmn : m < n := by omega
        have hg : guessP q (rd_L2 (seesTo (l ++ [e]) n n) m) (rd_L2 sp m) h = guessP q (rd_L2 (seesTo l n n) m) (rd_L2 t m) h := by
          unfold guessP
          have hwm := hwr m hmn
          have hx := horn_bound q h (by omega) hc (rd_L2 (seesTo (l ++ [e]) n n) m) (by rw [hlen]; exact hwm.1)
          rw [← horn_all, ← horn_all, hrow m hmn]
          obtain ⟨y, hy⟩ := Int.eq_ofNat_of_zero_le hx.1
          have hp := pow_small q (by omega) (by omega) (rd_L2 (seesTo (l ++ [e]) n n) m).length (by have := hwm.2; omega)
          have hback := fill_back q (by omega) h hc (rd_L2 (seesTo (l ++ [e]) n n) m) (List.replicate n 0) (by rw [hlen]; exact hwm.1) (by simp [hlen])
          rw [hy] at hback hx ⊢
          rw [rd_nat _ y (by unfold spreadRow; rw [List.length_map, List.length_range]; omega)]
          simp only [spreadRow, List.getElem_map, List.getElem_range]
          congr 1
          refine horn_same q _ _ _ fun j hj => ?_
          have hjb := (hf.2.2 m hmn).1 j hj
          rw [hback j hjb.1, if_pos ?_]
          rw [seesTo_row _ _ _ hmn] at hj ⊢
          exact rowTo_more l e m n j hj
        rw [hits, hits, ih (by omega), hg]
    have hlose : loseP n q (seesTo (l ++ [e]) n n) sp (allHats n q) = loseP n q (seesTo l n n) t (allHats n q) := by
      unfold loseP
      have : ∀ L : List (List Int), (∀ h ∈ L, hits q (seesTo (l ++ [e]) n n) sp h n = hits q (seesTo l n n) t h n) → L.find? (fun h => hits q (seesTo (l ++ [e]) n n) sp h n == 0) = L.find? (fun h => hits q (seesTo l n n) t h n == 0) := by
        intro L hL
        induction L with
        | nil => rfl
        | cons x L ih =>
          rw [List.find?_cons, List.find?_cons, hL x List.mem_cons_self, ih fun h hh => hL h (List.mem_cons_of_mem _ hh)]
      rw [this _ fun h hh => same h hh n (Nat.le_refl _)]
    have hloss : lossP n q (seesTo (l ++ [e]) n n) sp = lossP n q (seesTo l n n) t := by unfold lossP; rw [hlose]
    rw [hloss] at hL2
    have hok := hats_ok n q (by omega)
    refine Ev.step (fun k => wogglelaw09_HatMore.l0.eq_2 ..) (ev_neg (by omega) (Ev.bind hL1 (Ev.bind hL2 (ev_pos rfl (Ev.bind (ev_from (2 * (lossP n q (seesTo l n n) t).1.length + 1) (fun k hk => same_self _ ?_ k hk)) (ev_pos rfl ?_))))))
    · unfold lossP
      split
      · simp
      · unfold loseP
        cases ec : (allHats n q).find? fun h => hits q (seesTo l n n) t h n == 0 with
        | none => simp
        | some y =>
          have := (hok y (List.mem_of_find?_eq_some ec)).2
          simp only [Option.getD_some]
          omega
    · unfold lossP
      by_cases c : (loseP n q (seesTo l n n) t (allHats n q)).length = 0
      · rw [if_pos c]; exact ev_neg (by decide) (ev_pos rfl (Ev.bind livesM (Ev.now _)))
      · rw [if_neg c]; exact ev_pos rfl (Ev.bind livesM (Ev.now _))
  have loop : Ev (fun k => wogglelaw09_HatMore.l0 k n q l t (l ++ [e]) (seesTo l n n) (seesTo (l ++ [e]) n n) ((List.range 0).map (fun i : Nat => spreadRow n q (rd_L2 (seesTo l n n) i) (rd_L2 (seesTo (l ++ [e]) n n) i) (rd_L2 t i) ((q : Int) ^ (rd_L2 (seesTo (l ++ [e]) n n) i).length).toNat)) ((0 : Nat) : Int)) true := by
    refine up_ind (fun j => Ev (fun k => wogglelaw09_HatMore.l0 k n q l t (l ++ [e]) (seesTo l n n) (seesTo (l ++ [e]) n n) ((List.range j).map (fun i : Nat => spreadRow n q (rd_L2 (seesTo l n n) i) (rd_L2 (seesTo (l ++ [e]) n n) i) (rd_L2 t i) ((q : Int) ^ (rd_L2 (seesTo (l ++ [e]) n n) i).length).toNat)) (j : Int)) true) n (hfin _ rfl) ?_
    intro j hj ih
    obtain ⟨hb1, hb4, hsz, hcol⟩ := hf.2.2 j hj
    refine Ev.step (fun k => wogglelaw09_HatMore.l0.eq_2 ..) (ev_pos (by omega) ?_)
    refine more_l1 n q l t (l ++ [e]) (seesTo l n n) (seesTo (l ++ [e]) n n) hn4 hq1 hq4 (seesTo_len _ _ _) (seesTo_len _ _ _) htl _ (by simp; omega) j hj hb1 hb4 (by rw [seesTo_row _ _ _ hj]; exact rowTo_below _ _ _) (by rw [seesTo_row _ _ _ hj]; exact Nat.le_trans (rowTo_len _ _ _) hn4) hsz true ?_
    rw [range_succ_map] at ih
    exact ih
  dsimp only
  rw [hee2]
  exact Ev.bind hs2 loop

end Go.Proofs.Ytgjmfehdjbepiaa.Pure
