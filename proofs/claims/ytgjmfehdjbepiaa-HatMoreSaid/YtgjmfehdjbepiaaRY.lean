/- That the games and strategies that the statements derive from numbers are games and strategies. -/
import Derived.Test.YtgjmfehdjbepiaaRV
import Derived.Test.YtgjmfehdjbepiaaPF44
namespace Go.Proofs.Ytgjmfehdjbepiaa.Pure
open Go Go.Proofs Go.RowKit Go.Proofs.Ytgjmfehdjbepiaa.P Go.Proofs.YtgjmfehdjbepiaaW.PrintWords Go.Proofs.YtgjmfehdjbepiaaW.PrintLast Go.Proofs.YtgjmfehdjbepiaaW.PrintMore
set_option maxRecDepth 100000

def edgesGood (n s : Nat) : Bool := match wogglelaw09_edges.f 40 (n : Int) (s : Int) with | some l => decide (l.length ≤ 6) && !(l.any (badEdge n)) | none => false
theorem edges_all : ((List.range 4).all fun n => (List.range 256).all fun s => edgesGood (n + 1) s) = true := by decide +kernel
theorem edges_f (n s : Nat) (h1 : 1 ≤ n) (h4 : n ≤ 4) (hs : s < 256) : ∃ l : List S71, Ev (fun k => wogglelaw09_edges.f k (n : Int) (s : Int)) l ∧ l.length ≤ 6 ∧ l.any (badEdge n) = false := by
  have h := List.all_eq_true.1 edges_all (n - 1) (List.mem_range.2 (by omega))
  have h2 := List.all_eq_true.1 h s (List.mem_range.2 hs)
  rw [show n - 1 + 1 = n by omega] at h2
  unfold edgesGood at h2
  cases e : wogglelaw09_edges.f 40 (n : Int) (s : Int) with
  | none => rw [e] at h2; cases h2
  | some l =>
    rw [e] at h2
    simp only [Bool.and_eq_true, decide_eq_true_eq, Bool.not_eq_true'] at h2
    exact ⟨l, Ev.of (wogglelaw09_edges.mono _ _) e, h2.1, h2.2⟩
theorem rowsOk_snoc (q : Int) (sees out : List (List Int)) (i : Nat) (hi : i < sees.length) (ho : out.length = i) (row : List Int) (h : rowsOk q (sees.take i) out = true) (hr : tabOk q sees[i] row = true) : rowsOk q (sees.take (i + 1)) (out ++ [row]) = true := by
  unfold rowsOk at h ⊢
  rw [take_up sees i hi, List.zip_append (by rw [List.length_take]; omega), List.all_append, h]
  simp [hr]
theorem tables_made (a0 a1 a2 : Int) (tb : List Int) (htb : ∀ x ∈ tb, 0 ≤ x ∧ x < 256) (q : Int) (h1 : 1 ≤ q) (h4 : q ≤ 4) (sees : List (List Int)) (hs : ∀ r ∈ sees, r.length ≤ 4) (hsl : sees.length ≤ 4) :
    ∃ t, Ev (fun k => wogglelaw09_Deal_tables.f k a0 a1 a2 tb q sees) t ∧ isStrat q sees t = true := by
  have key : ∀ d i : Nat, i + d = sees.length → ∀ (out : List (List Int)) (at_ : Int), out.length = i → rowsOk q (sees.take i) out = true → 0 ≤ at_ → at_ ≤ 65536 * i →
      ∃ t, Ev (fun k => wogglelaw09_Deal_tables.l0 k q sees out at_ (i : Int) a0 a1 a2 tb) t ∧ isStrat q sees t = true := by
    intro d
    induction d with
    | zero =>
      intro i hi out at_ ho hr _ _
      refine ⟨out, Ev.step (fun k => wogglelaw09_Deal_tables.l0.eq_2 ..) (ev_neg (by omega) (Ev.now _)), ?_⟩
      unfold isStrat
      rw [decide_eq_true (by omega), Bool.true_and]
      rw [List.take_of_length_le (by omega)] at hr
      exact hr
    | succ d ih =>
      intro i hi out at_ ho hr ha0 ha1
      have hi' : i < sees.length := by omega
      have hsi := hs sees[i] (List.getElem_mem hi')
      have hp := pow_small q (by omega) h4 sees[i].length (by omega)
      obtain ⟨P, hP⟩ : ∃ P : Nat, q ^ sees[i].length = P := ⟨(q ^ sees[i].length).toNat, by omega⟩
      have inner : ∀ e x : Nat, x + e = P → ∀ (row : List Int) (a : Int), row.length = x → Colours q row → 0 ≤ a → a ≤ 65536 * i + x →
          ∃ t, Ev (fun k => wogglelaw09_Deal_tables.l1 k q sees out a (i : Int) row (x : Int) a0 a1 a2 tb) t ∧ isStrat q sees t = true := by
        intro e
        induction e with
        | zero =>
          intro x hx row a hrow hc ha ha2
          obtain ⟨t, ht, hst⟩ := ih (i + 1) (by omega) (out ++ [row]) a (by rw [List.length_append, ho]; rfl)
            (rowsOk_snoc q sees out i hi' ho row hr (by unfold tabOk; rw [Bool.and_eq_true, colours_inB, beq_iff_eq]; exact ⟨hc, by omega⟩)) ha (by omega)
          refine ⟨t, ?_, hst⟩
          refine Ev.step (fun k => wogglelaw09_Deal_tables.l1.eq_2 ..) (ev_pos (by omega) (ev_pos (by omega) ?_))
          rw [rdL_nat sees i hi']
          refine Ev.bind (power_f q (by omega) h4 _ (by omega)) (ev_neg (by omega) (ev_pos (by omega) ?_))
          rw [succ_w i (by omega)]
          exact ht
        | succ e ihe =>
          intro x hx row a hrow hc ha ha2
          have go : ∀ v : Int, 0 ≤ v → v < q → ∃ t, Ev (fun k => wogglelaw09_Deal_tables.l1 k q sees out (a + 1) (i : Int) (row ++ [v]) ((x + 1 : Nat) : Int) a0 a1 a2 tb) t ∧ isStrat q sees t = true := by
            intro v hv hv2
            refine ihe (x + 1) (by omega) (row ++ [v]) (a + 1) (by rw [List.length_append, hrow]; rfl) ?_ (by omega) (by omega)
            intro c hcm
            rcases List.mem_append.1 hcm with h | h
            · exact hc c h
            · rw [List.mem_singleton.1 h]; exact ⟨hv, hv2⟩
          by_cases hl : (tb.length : Int) > 0
          · have hmod := Int.tmod_nonneg (tb.length : Int) ha
            have hmod2 := Int.tmod_lt_of_pos a hl
            have hv := htb _ (rd_mem tb (Int.tmod a tb.length) hmod hmod2)
            have hw : wrap64 (rd tb (Int.tmod a tb.length)) = rd tb (Int.tmod a tb.length) := IntWalk.wrap64_in _ (by omega)
            obtain ⟨t, ht, hst⟩ := go (Int.tmod (rd tb (Int.tmod a tb.length)) q) (Int.tmod_nonneg q hv.1) (Int.tmod_lt_of_pos _ (by omega))
            refine ⟨t, ?_, hst⟩
            refine Ev.step (fun k => wogglelaw09_Deal_tables.l1.eq_2 ..) (ev_pos (by omega) (ev_pos (by omega) ?_))
            rw [rdL_nat sees i hi']
            refine Ev.bind (power_f q (by omega) h4 _ (by omega)) (ev_pos (by omega) (ev_pos hl (ev_neg (by omega) (ev_pos hmod (ev_pos hmod2 (ev_neg (by omega) (ev_pos (by omega) ?_)))))))
            rw [succ_w x (by omega), IntWalk.wrap64_in (a + 1) (by omega), hw]
            exact ht
          · obtain ⟨t, ht, hst⟩ := go 0 (by omega) (by omega)
            refine ⟨t, ?_, hst⟩
            refine Ev.step (fun k => wogglelaw09_Deal_tables.l1.eq_2 ..) (ev_pos (by omega) (ev_pos (by omega) ?_))
            rw [rdL_nat sees i hi']
            refine Ev.bind (power_f q (by omega) h4 _ (by omega)) (ev_pos (by omega) (ev_neg hl (ev_pos (by omega) ?_)))
            rw [succ_w x (by omega), IntWalk.wrap64_in (a + 1) (by omega)]
            exact ht
      obtain ⟨t, ht, hst⟩ := inner P 0 (by omega) [] at_ rfl (fun c hc => by cases hc) ha0 (by omega)
      refine ⟨t, ?_, hst⟩
      exact Ev.step (fun k => wogglelaw09_Deal_tables.l0.eq_2 ..) (ev_pos (by omega) ht)
  exact key sees.length 0 (by omega) [] 0 rfl (by rw [List.take_zero]; rfl) (by omega) (by omega)
/-- What Deal.made answers: a game and a strategy of it. -/
theorem made_f (a b s : Int) (tb : List Int) (ha : 0 ≤ a ∧ a < 256) (hb : 0 ≤ b ∧ b < 256) (hs : 0 ≤ s ∧ s < 256) (htb : ∀ x ∈ tb, 0 ≤ x ∧ x < 256) :
    ∃ (n q : Nat) (l : List S71) (t : List (List Int)), Ev (fun k => wogglelaw09_Deal_made.f k a b s tb) ((n : Int), (q : Int), l, t) ∧ 1 ≤ n ∧ n ≤ 4 ∧ 1 ≤ q ∧ q ≤ 4 ∧ l.length ≤ 6 ∧ t.length = n ∧ whyP n q l t = 0 := by
  have hma : 0 ≤ Int.tmod a 4 ∧ Int.tmod a 4 < 4 := ⟨Int.tmod_nonneg 4 ha.1, Int.tmod_lt_of_pos a (by omega)⟩
  have hmb : 0 ≤ Int.tmod b 4 ∧ Int.tmod b 4 < 4 := ⟨Int.tmod_nonneg 4 hb.1, Int.tmod_lt_of_pos b (by omega)⟩
  obtain ⟨n, hn⟩ := Int.eq_ofNat_of_zero_le (show 0 ≤ Int.tmod a 4 + 1 by omega)
  obtain ⟨q, hq⟩ := Int.eq_ofNat_of_zero_le (show 0 ≤ Int.tmod b 4 + 1 by omega)
  obtain ⟨s', rfl⟩ := Int.eq_ofNat_of_zero_le hs.1
  have ea : wrap64 (Int.tmod (wrap64 a) 4 + 1) = n := by rw [IntWalk.wrap64_in a (by omega), IntWalk.wrap64_in _ (by omega)]; exact hn
  have eb : wrap64 (Int.tmod (wrap64 b) 4 + 1) = q := by rw [IntWalk.wrap64_in b (by omega), IntWalk.wrap64_in _ (by omega)]; exact hq
  obtain ⟨l, hl, hl12, hbad⟩ := edges_f n s' (by omega) (by omega) (by omega)
  obtain ⟨t, ht, hst⟩ := tables_made a b s' tb htb q (by omega) (by omega) (seesTo l n n) (sees_rows l n (by omega)) (by rw [seesTo_len]; omega)
  refine ⟨n, q, l, t, ?_, by omega, by omega, by omega, by omega, hl12, ?_, ?_⟩
  · unfold wogglelaw09_Deal_made.f
    rw [ea, eb]
    exact Ev.bind hl (Ev.bind (sees_f n (by omega) l (by omega) (edges_of n l hbad)) (Ev.bind ht (Ev.now _)))
  · unfold isStrat at hst
    rw [Bool.and_eq_true, decide_eq_true_eq, seesTo_len] at hst
    exact hst.1
  · unfold whyP
    rw [if_pos ((isGame_iff n q l).2 ⟨⟨by omega, by omega, by omega, by omega, by omega⟩, hbad⟩), Int.toNat_natCast, if_pos hst]

end Go.Proofs.Ytgjmfehdjbepiaa.Pure
