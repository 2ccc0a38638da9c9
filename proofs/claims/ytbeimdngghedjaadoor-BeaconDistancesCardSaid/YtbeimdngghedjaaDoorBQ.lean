/- Plain facts on what is doubly resolved. -/
import Derived.Test.YtbeimdngghedjaaDoorBP
namespace Go.Proofs.YtbeimdngghedjaaDoor.Pure
open Go Go.Proofs Go.RowKit Go.Proofs.YtbeimdngghedjaaDoor.P Go.Proofs.YtbeimdngghedjaaDoorW.PrintWords Go.Proofs.YtbeimdngghedjaaDoorW.PrintLast
set_option linter.unusedVariables false

def difL (M : Mt) (u v : Nat) (m : List Int) : List Int := m.map fun x => M u x.toNat - M v x.toNat
def sepP (M : Mt) (u v : Nat) (m : List Int) : Bool := if m.length < 2 then false else if minTo (difL M u v m) m.length = maxTo (difL M u v m) m.length then false else true
def dblP (n : Nat) (M : Mt) (m : List Int) : Bool := (List.range n).all fun u => (List.range u).all fun v => sepP M u v m
theorem mix_set {d c : List Int} {i : Nat} (hd : i < d.length) (hc : d.length = c.length) (x : Int) (hx : d[i] = x) : (d.take i ++ c.drop i).set i x = d.take (i + 1) ++ c.drop (i + 1) := by
  rw [List.set_append_right _ _ (by rw [List.length_take]; omega), show i - (d.take i).length = 0 by rw [List.length_take]; omega, List.drop_eq_getElem_cons (by omega : i < c.length), List.set_cons_zero, ← hx, List.take_succ_eq_append_getElem hd, List.append_assoc]
  rfl
theorem mix_rd {d c : List Int} {i : Nat} (hd : i < d.length) (hc : d.length = c.length) : rd (d.take i ++ c.drop i) (i : Int) = c[i]'(by omega) := by
  unfold rd
  rw [Int.toNat_natCast, List.getD_eq_getElem?_getD, List.getElem?_append_right (by rw [List.length_take]; omega), show i - (d.take i).length = 0 by rw [List.length_take]; omega, List.drop_eq_getElem_cons (by omega : i < c.length)]
  rfl
theorem mix_len {d c : List Int} {i : Nat} (hd : i ≤ d.length) (hc : d.length = c.length) : (d.take i ++ c.drop i).length = d.length := by rw [List.length_append, List.length_take, List.length_drop]; omega
section
variable {n : Nat} {E : Nat → Nat → Bool} {M : Mt} {m : List Int}
theorem difL_len (u v : Nat) : (difL M u v m).length = m.length := by unfold difL; simp
theorem dbl_in (hn : n ≤ 10) (hm : Mk n m) (hM : Bd n M) (u v : Nat) (hu : u < n) (hv : v < u) (r : Bool)
    (hno : sepP M u v m = false → r = false)
    (hyes : sepP M u v m = true → Ev (fun k => beacon_graph_doubly.l1 k (Gr n E M) m (u : Int) (n : Int) (u : Int) (u : Int) ((v + 1 : Nat) : Int)) r) :
    Ev (fun k => beacon_graph_doubly.l2 k (Gr n E M) m (u : Int) (codeL M u m) (codeL M v m) (n : Int) (u : Int) (u : Int) (v : Int) ((codeL M u m).length : Int) 0) r := by
  have l1 := codeL_len (M := M) (m := m) u
  have l2 := codeL_len (M := M) (m := m) v
  have l3 := difL_len (M := M) (m := m) u v
  have hml := hm.1
  have key := up_ind (fun i => Ev (fun k => beacon_graph_doubly.l2 k (Gr n E M) m (u : Int) ((difL M u v m).take i ++ (codeL M u m).drop i) (codeL M v m) (n : Int) (u : Int) (u : Int) (v : Int) ((codeL M u m).length : Int) (i : Int)) r) m.length ?_ ?_
  · simpa using key
  · rw [List.take_of_length_le (by omega), List.drop_of_length_le (by omega), List.append_nil, l1]
    have e0 : ¬ ((m.length : Int) < (m.length : Int)) := Int.lt_irrefl _
    unfold sepP at hno hyes
    by_cases h2 : m.length < 2
    · rw [if_pos h2] at hno
      rw [hno rfl]
      refine Ev.step (f := fun _ => some false) (fun k => ?_) (Ev.now _)
      simp only [beacon_graph_doubly.l2]
      rw [if_neg e0, l3, if_pos (by omega)]
    · rw [if_neg h2] at hno hyes
      have f1 : slices_Min_int_int.f (difL M u v m) = some (minTo (difL M u v m) m.length) := by unfold slices_Min_int_int.f; rw [l3, if_pos (by omega)]
      have f2 : slices_Max_int_int.f (difL M u v m) = some (maxTo (difL M u v m) m.length) := by unfold slices_Max_int_int.f; rw [l3, if_pos (by omega)]
      by_cases h3 : minTo (difL M u v m) m.length = maxTo (difL M u v m) m.length
      · rw [if_pos h3] at hno
        rw [hno rfl]
        refine Ev.step (f := fun _ => some false) (fun k => ?_) (Ev.now _)
        simp only [beacon_graph_doubly.l2]
        rw [if_neg e0, l3, if_neg (by omega), f1, f2]
        simp only [Option.bind_some]
        rw [if_pos h3]
      · rw [if_neg h3] at hyes
        refine Ev.step (fun k => ?_) (hyes rfl)
        simp only [beacon_graph_doubly.l2]
        rw [if_neg e0, l3, if_neg (by omega), f1, f2]
        simp only [Option.bind_some]
        rw [if_neg h3, succ_w v (by omega)]
  · intro i hi ih
    have hd : i < (difL M u v m).length := by omega
    have hx : (difL M u v m)[i] = (codeL M u m)[i]'(by omega) - (codeL M v m)[i]'(by omega) := by simp only [difL, codeL, List.getElem_map]
    have b1 : 0 ≤ (codeL M u m)[i]'(by omega) ∧ (codeL M u m)[i]'(by omega) ≤ n := by unfold codeL; rw [List.getElem_map]; exact hM _ _
    have b2 : 0 ≤ (codeL M v m)[i]'(by omega) ∧ (codeL M v m)[i]'(by omega) ≤ n := by unfold codeL; rw [List.getElem_map]; exact hM _ _
    refine Ev.step (fun k => ?_) ih
    simp only [beacon_graph_doubly.l2]
    rw [if_pos (by omega), if_pos (by omega), if_pos (by rw [mix_len (by omega) (by omega)]; omega), if_pos (by omega), mix_rd hd (by omega), rd_nat _ i (by omega), Int.toNat_natCast, succ_w i (by omega)]
    rw [show wrap64 ((codeL M u m)[i]'(by omega) - (codeL M v m)[i]'(by omega)) = (difL M u v m)[i] by rw [hx]; exact IntWalk.wrap64_in _ (by omega), mix_set hd (by omega) _ rfl]
theorem dbl_ev (hn : n ≤ 10) (hm : Mk n m) (hM : Bd n M) : Ev (fun k => beacon_graph_doubly.f k (Gr n E M) m) (dblP n M m) := by
  unfold beacon_graph_doubly.f
  have q3 : (0 : Int) < ((Gr n E M).length : Int) := by simp [Gr]
  refine Ev.congr (f := fun k => beacon_graph_doubly.l0 k (Gr n E M) m (n : Int) 0) (fun k => by rw [if_pos q3, gr0]) ?_
  -- from u on, from v on
  have hfin : dblP n M m = true ∨ ∃ u, u < n ∧ ∃ v, v < u ∧ sepP M u v m = false := by
    cases h : dblP n M m with
    | true => exact .inl rfl
    | false =>
      unfold dblP at h
      rw [List.all_eq_false] at h
      obtain ⟨u, hu, h⟩ := h
      simp only [Bool.not_eq_true] at h
      rw [List.all_eq_false] at h
      obtain ⟨v, hv, h⟩ := h
      exact .inr ⟨u, by simpa using hu, v, by simpa using hv, by simpa using h⟩
  have key := up_ind (fun u => (∀ a b, b < a → a < u → sepP M a b m = true) → Ev (fun k => beacon_graph_doubly.l0 k (Gr n E M) m (n : Int) (u : Int)) (dblP n M m)) n ?_ ?_
  · exact key (fun a b _ h => by omega)
  · intro hall
    have : dblP n M m = true := by
      rcases hfin with h | ⟨u, hu, v, hv, h⟩
      · exact h
      · rw [hall u v hv hu] at h; cases h
    rw [this]
    refine Ev.step (f := fun _ => some true) (fun k => ?_) (Ev.now _)
    simp only [beacon_graph_doubly.l0]
    rw [if_neg (Int.lt_irrefl _)]
  · intro u hu ih hall
    refine Ev.step (f := fun k => beacon_graph_doubly.l1 k (Gr n E M) m (u : Int) (n : Int) (u : Int) (u : Int) ((0 : Nat) : Int)) (fun k => ?_) ?_
    · simp only [beacon_graph_doubly.l0]
      rw [if_pos (by omega)]; rfl
    have inner := up_ind (fun v => (∀ b, b < v → sepP M u b m = true) → Ev (fun k => beacon_graph_doubly.l1 k (Gr n E M) m (u : Int) (n : Int) (u : Int) (u : Int) (v : Int)) (dblP n M m)) u ?_ ?_
    · exact inner (fun b h => by omega)
    · intro hb
      refine Ev.step (fun k => ?_) (ih (fun a b h1 h2 => by
        by_cases e : a = u
        · subst e; exact hb b h1
        · exact hall a b h1 (by omega)))
      simp only [beacon_graph_doubly.l1]
      rw [if_neg (Int.lt_irrefl _), succ_w u (by omega)]
    · intro v hv ih2 hb
      refine Ev.step (f := fun k => (beacon_graph_code.f k (Gr n E M) (u : Int) m).bind fun a => (beacon_graph_code.f k (Gr n E M) (v : Int) m).bind fun b => beacon_graph_doubly.l2 k (Gr n E M) m (u : Int) a b (n : Int) (u : Int) (u : Int) (v : Int) (a.length : Int) 0) (fun k => ?_) ?_
      · simp only [beacon_graph_doubly.l1]
        rw [if_pos (by omega)]
      refine Ev.bind (code_ev hn hm u hu) (Ev.bind (code_ev hn hm v (by omega)) ?_)
      refine dbl_in hn hm hM u v hu hv _ (fun h => ?_) (fun h => ih2 (fun b h1 => by
        by_cases e : b = v
        · subst e; exact h
        · exact hb b (by omega)))
      rcases hfin with h2 | ⟨_, _, _, _, _⟩
      · unfold dblP at h2
        rw [List.all_eq_true] at h2
        have := h2 u (by simpa using hu)
        rw [List.all_eq_true] at this
        rw [this v (by simpa using hv)] at h; cases h
      · cases hd : dblP n M m with
        | false => rfl
        | true =>
          unfold dblP at hd
          rw [List.all_eq_true] at hd
          have := hd u (by simpa using hu)
          rw [List.all_eq_true] at this
          rw [this v (by simpa using hv)] at h; cases h
end
end Go.Proofs.YtbeimdngghedjaaDoor.Pure
