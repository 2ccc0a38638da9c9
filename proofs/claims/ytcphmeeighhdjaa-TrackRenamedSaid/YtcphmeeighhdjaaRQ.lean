/- Plain facts: costs out of arbitrary numbers. -/
import Derived.Test.YtcphmeeighhdjaaRP
import Derived.Test.YtcphmeeighhdjaaPF39
import Derived.Test.YtcphmeeighhdjaaRN
import Derived.Test.YtcphmeeighhdjaaRB
namespace Go.Proofs.Ytcphmeeighhdjaa.Pure
open Go Go.Proofs Go.RowKit Go.Proofs.Ytcphmeeighhdjaa.P Go.Proofs.YtcphmeeighhdjaaW.PrintWords Go.Proofs.YtcphmeeighhdjaaW.PrintLast
set_option linter.unusedVariables false

theorem w_ixs : ∀ i ∈ List.range 5, ∀ k ∈ List.range 5, ∀ j ∈ List.range 5, wrap64 (wrap64 (((i : Nat) : Int) * ((k : Nat) : Int)) + ((j : Nat) : Int)) = ((i * k + j : Nat) : Int) := by decide +kernel
theorem w_ix (i k j : Nat) (hi : i ≤ 4) (hk : k ≤ 4) (hj : j ≤ 4) : wrap64 (wrap64 ((i : Int) * (k : Int)) + (j : Int)) = ((i * k + j : Nat) : Int) :=
  w_ixs i (List.mem_range.2 (by omega)) k (List.mem_range.2 (by omega)) j (List.mem_range.2 (by omega))
def RowsOk (k : Nat) (C : List (List Int)) : Prop := ∀ row ∈ C, row.length = k ∧ ∀ c ∈ row, 0 ≤ c ∧ c ≤ 100
theorem costs_ev (k : Nat) (h1 : 1 ≤ k) (h4 : k ≤ 4) (x : List Int) (hx : x.length ≤ maxLen ∧ ∀ v ∈ x, (Lit.int .u8 v).wf = true) : ∃ C, Ev (fun q => wogglelaw02_costs.f q k x false) C ∧ C.length = k ∧ CostsOk C := by
  unfold wogglelaw02_costs.f
  have hm : maxLen = 9223372036854775807 := rfl
  have hxl := hx.1
  rw [hm] at hxl
  have key := up_ind (fun i => ∀ C', RowsOk k C' → C'.length = i → ∃ C, Ev (fun q => wogglelaw02_costs.l0 q k x false C' (i : Int)) C ∧ C.length = k ∧ CostsOk C) k ?_ ?_
  · exact key [] (fun row hr => by simp at hr) rfl
  · intro C' hC hl
    refine ⟨C', Ev.step (f := fun _ => some C') (fun q => by simp only [wogglelaw02_costs.l0]; rw [if_neg (Int.lt_irrefl _), if_neg (by decide)]) (Ev.now _), hl, fun row hr => ?_, by omega, by omega⟩
    obtain ⟨a, b⟩ := hC row hr
    exact ⟨by omega, b⟩
  · intro i hi ih C' hC hl
    have p1 : (i : Int) < k := by omega
    have inner := up_ind (fun j => ∀ row : List Int, (∀ c ∈ row, 0 ≤ c ∧ c ≤ 100) → row.length = j → ∃ C, Ev (fun q => wogglelaw02_costs.l1 q k x false C' (i : Int) row (j : Int)) C ∧ C.length = k ∧ CostsOk C) k ?_ ?_
    · obtain ⟨C, hE, hr⟩ := inner [] (fun c hc => by simp at hc) rfl
      exact ⟨C, Ev.step (f := fun q => wogglelaw02_costs.l1 q k x false C' (i : Int) [] ((0 : Nat) : Int)) (fun q => by simp only [wogglelaw02_costs.l0]; rw [if_pos p1]; rfl) hE, hr⟩
    · intro row hrow hrl
      obtain ⟨C, hE, hr⟩ := ih (C' ++ [row]) (by
        intro r hr
        rcases List.mem_append.1 hr with h | h
        · exact hC r h
        · rw [List.mem_singleton.1 h]; exact ⟨hrl, hrow⟩) (by rw [List.length_append, List.length_singleton]; omega)
      refine ⟨C, Ev.step (fun q => ?_) hE, hr⟩
      simp only [wogglelaw02_costs.l1]
      rw [if_neg (Int.lt_irrefl _), if_pos (show C'.length < 5864062014805 by omega), succ_w i (by omega)]
    · intro j hj ihj row hrow hrl
      have q1 : (j : Int) < k := by omega
      have W := Aside0.mk (w_ix i k j (by omega) h4 (by omega))
      have q2 : (0 : Int) ≤ ((i * k + j : Nat) : Int) := by omega
      have q3 : row.length < 17592186044416 := by omega
      have app : ∀ v : Int, 0 ≤ v → v ≤ 100 → ∀ c ∈ row ++ [v], 0 ≤ c ∧ c ≤ 100 := by
        intro v v0 v1 c hc
        rcases List.mem_append.1 hc with h | h
        · exact hrow c h
        · rw [List.mem_singleton.1 h]; exact ⟨v0, v1⟩
      generalize i * k + j = ix at *
      by_cases c : ix < x.length
      · have hv := u8_le (hx.2 _ (List.getElem_mem c))
        have e1 : Int.tmod (wrap64 x[ix]) 101 = x[ix] % 101 := by rw [w64 x[ix] (by omega) (by omega), Int.tmod_eq_emod_of_nonneg hv.1]
        have E1 := Aside0.mk e1
        clear e1
        have e2 := Int.emod_nonneg x[ix] (show (101 : Int) ≠ 0 by decide)
        have e3 := Int.emod_lt_of_pos x[ix] (show (0 : Int) < 101 by decide)
        obtain ⟨C, hE, hr⟩ := ihj (row ++ [x[ix] % 101]) (app _ e2 (by omega)) (by rw [List.length_append, List.length_singleton]; omega)
        refine ⟨C, Ev.step (fun q => ?_) hE, hr⟩
        have q4 : ((ix : Nat) : Int) < x.length := by omega
        simp only [wogglelaw02_costs.l1]
        rw [if_pos q1, W.out, if_pos q4, if_pos q2, if_pos q3, rd_nat x ix c, E1.out, succ_w j (by omega)]
      · obtain ⟨C, hE, hr⟩ := ihj (row ++ [1]) (app 1 (by omega) (by omega)) (by rw [List.length_append, List.length_singleton]; omega)
        refine ⟨C, Ev.step (fun q => ?_) hE, hr⟩
        have q4 : ¬ ((ix : Nat) : Int) < x.length := by omega
        simp only [wogglelaw02_costs.l1]
        rw [if_pos q1, W.out, if_neg q4, if_pos q3, succ_w j (by omega)]
section
variable {n : Int} {J : List S67} {C : List (List Int)} {L : List Int}
theorem read0_ev (ht : TreeOk n J) (hc : CostsOk C) (hs : StatesOk n C.length L) : Ev (fun k => readErr k n J C L) 0 := by
  have hJ : J.length ≤ 99 := by have := ht.2.2.1; have := ht.2.1; omega
  have h := read_ev n J C L hJ
  rw [errOf_0 ht hc hs] at h
  exact h
theorem leastQ_ev (ht : TreeOk n J) (hc : CostsOk C) (hs : StatesOk n C.length L) : Ev (fun k => track_Least.f k n J C L) (bestOf J C L, 0) := by
  unfold track_Least.f
  exact Ev.bind (read0_ev ht hc hs) (ev_val (if_pos rfl))
theorem waysQ_ev (ht : TreeOk n J) (hc : CostsOk C) (hs : StatesOk n C.length L) : Ev (fun k => track_Ways.f k n J C L) ((P.leastOf C.length C (none_ J) J L).2, 0) := by
  unfold track_Ways.f
  exact Ev.bind (read0_ev ht hc hs) (ev_val (if_pos rfl))
theorem labelQ_ev (ht : TreeOk n J) (hc : CostsOk C) (hs : StatesOk n C.length L) : Ev (fun k => track_Label.f k n J C L) (labelOf J C L, 0) := by
  unfold track_Label.f
  exact Ev.bind (read0_ev ht hc hs) (ev_val (if_pos rfl))
end
theorem label_states {n : Nat} {J : List S67} {C : List (List Int)} {L : List Int} (ht : TreeOk n J) (hc : CostsOk C) (hs : StatesOk n C.length L) : StatesOk J.length C.length (labelOf J C L) := by
  have f := label_found ht hc hs
  refine ⟨fun s h => ?_, by rw [f.len]⟩
  obtain ⟨i, hi, rfl⟩ := List.getElem_of_mem h
  have := f.low i (by rw [← f.len]; exact hi)
  rw [rd_nat _ i hi] at this
  exact this
end Go.Proofs.Ytcphmeeighhdjaa.Pure
