/- What the reference's All and Loses answer, in plain Lean. -/
import Derived.Test.YtgjmfehdjbepiaaRX
import Derived.Test.YtgjmfehdjbepiaaPF48
import Derived.Test.YtgjmfehdjbepiaaG50
namespace Go.Proofs.Ytgjmfehdjbepiaa.Pure
open Go Go.Proofs Go.RowKit Go.Proofs.Ytgjmfehdjbepiaa.P Go.Proofs.YtgjmfehdjbepiaaW.PrintWords Go.Proofs.YtgjmfehdjbepiaaW.PrintLast Go.Proofs.YtgjmfehdjbepiaaW.PrintMore
set_option maxRecDepth 100000

/-- A list and one more number, for each number below m. -/
def tails (m : Nat) (r : List Int) : List (List Int) := (List.range m).map fun c : Nat => r ++ [(c : Int)]
theorem tails_cons (m : Nat) (a : Int) (r : List Int) : tails m (a :: r) = (tails m r).map (a :: ·) := by
  unfold tails; rw [List.map_map]; rfl
theorem fm_congr {α β : Type} (l : List α) (f g : α → List β) (h : ∀ c ∈ l, f c = g c) : l.flatMap f = l.flatMap g := by
  induction l with
  | nil => rfl
  | cons a l ih => rw [List.flatMap_cons, List.flatMap_cons, h a List.mem_cons_self, ih fun c hc => h c (List.mem_cons_of_mem _ hc)]
theorem allL_last (m : Nat) : ∀ n : Nat, (allL m n).flatMap (tails m) = allL m (n + 1)
  | 0 => by
    show (tails m [] ++ []) = (List.range m).flatMap fun c : Nat => [[(c : Int)]]
    rw [List.append_nil]
    unfold tails
    induction List.range m with
    | nil => rfl
    | cons a l ih => rw [List.map_cons, ih, List.flatMap_cons]; rfl
  | n + 1 => by
    have ih := allL_last m n
    rw [allL, List.flatMap_assoc]
    rw [show allL m (n + 1 + 1) = (List.range m).flatMap fun c : Nat => (allL m (n + 1)).map fun r => (c : Int) :: r from rfl]
    refine fm_congr _ _ _ fun c _ => ?_
    rw [← ih, List.flatMap_map, List.map_flatMap]
    exact fm_congr _ _ _ fun r _ => tails_cons m c r
theorem allL_mem_len (m : Nat) : ∀ (n : Nat) (r : List Int), r ∈ allL m n → r.length = n
  | 0, r, h => by rw [List.mem_singleton.1 h]; rfl
  | n + 1, r, h => by
    rw [allL, List.mem_flatMap] at h
    obtain ⟨c, _, h⟩ := h
    obtain ⟨s, hs, rfl⟩ := List.mem_map.1 h
    rw [List.length_cons, allL_mem_len m n s hs]
theorem fm_take (m : Nat) (L : List (List Int)) (k : Nat) (h : k < L.length) : (L.take (k + 1)).flatMap (tails m) = (L.take k).flatMap (tails m) ++ tails m L[k] := by
  rw [take_up L k h, List.flatMap_append]; simp
theorem fm_take_len (m : Nat) (L : List (List Int)) : ∀ k : Nat, ((L.take k).flatMap (tails m)).length ≤ k * m := by
  intro k
  rw [List.length_flatMap]
  have : ∀ K : List (List Int), (K.map fun r => (tails m r).length).sum = K.length * m := by
    intro K
    induction K with
    | nil => simp
    | cons a K ih => rw [List.map_cons, List.sum_cons, ih, List.length_cons, Nat.succ_mul]; unfold tails; rw [List.length_map, List.length_range]; omega
  rw [this, List.length_take]
  exact Nat.mul_le_mul_right _ (Nat.min_le_left _ _)
/-- One more digit for all lists. -/
theorem all_round (n q : Nat) (hq : q ≤ 4) (out : List (List Int)) (hout : out.length ≤ 1000) (hrow : ∀ r ∈ out, r.length ≤ 1000) (i : Nat) (hi : i ≤ 1000) (R : List (List Int))
    (h : Ev (fun k => woggleref09_All.l0 k n q (out.flatMap (tails q)) ((i + 1 : Nat) : Int)) R) : Ev (fun k => woggleref09_All.l1 k n q out i [] 0) R := by
  have key : Ev (fun k => woggleref09_All.l1 k n q out i ((out.take 0).flatMap (tails q)) ((0 : Nat) : Int)) R := by
    refine up_ind (fun j => Ev (fun k => woggleref09_All.l1 k n q out i ((out.take j).flatMap (tails q)) (j : Int)) R) out.length ?_ ?_
    · refine Ev.step (fun k => woggleref09_All.l1.eq_2 ..) (ev_neg (by omega) ?_)
      rw [List.take_length, succ_w i (by omega)]
      exact h
    · intro j hj ih
      refine Ev.step (fun k => woggleref09_All.l1.eq_2 ..) (ev_pos (by omega) ?_)
      have hr := hrow out[j] (List.getElem_mem hj)
      have hlen := fm_take_len q out j
      have hjq : j * q ≤ 1000 * 4 := Nat.mul_le_mul (by omega) hq
      have inner : Ev (fun k => woggleref09_All.l2 k n q out i ((out.take j).flatMap (tails q) ++ (List.range 0).map fun c : Nat => out[j] ++ [(c : Int)]) (j : Int) ((0 : Nat) : Int)) R := by
        refine up_ind (fun c => Ev (fun k => woggleref09_All.l2 k n q out i ((out.take j).flatMap (tails q) ++ (List.range c).map fun c : Nat => out[j] ++ [(c : Int)]) (j : Int) (c : Int)) R) q ?_ ?_
        · refine Ev.step (fun k => woggleref09_All.l2.eq_2 ..) (ev_neg (by omega) ?_)
          rw [succ_w j (by omega)]
          rw [fm_take q out j hj] at ih
          exact ih
        · intro c hc ihc
          refine Ev.step (fun k => woggleref09_All.l2.eq_2 ..) (ev_pos (by omega) (ev_call rfl (ev_pos (by omega) (ev_pos (by omega) ?_))))
          rw [rdL_nat out j hj]
          refine ev_pos (by simp only [List.length_nil]; omega) (ev_call rfl (ev_pos (by simp only [List.nil_append]; omega) (ev_pos ?_ ?_)))
          · rw [List.length_append, List.length_map, List.length_range]; omega
          · rw [succ_w c (by omega), List.nil_append, List.append_assoc]
            rw [range_succ_map] at ihc
            exact ihc
      rw [List.range_zero, List.map_nil, List.append_nil] at inner
      exact inner
  exact key
theorem allL_small (q n : Nat) (hq : q ≤ 4) (hn : n ≤ 4) : (allL q n).length ≤ 256 := by
  rw [allL_len]
  exact Nat.le_trans (Nat.pow_le_pow_left hq n) (Nat.pow_le_pow_right (by decide) (by omega : n ≤ 4))
theorem all_f (n q : Nat) (hn : n ≤ 4) (hq : q ≤ 4) : Ev (fun k => woggleref09_All.f k n q) (allL q n) := by
  unfold woggleref09_All.f
  have key : Ev (fun k => woggleref09_All.l0 k n q (allL q 0) ((0 : Nat) : Int)) (allL q n) := by
    refine up_ind (fun i => Ev (fun k => woggleref09_All.l0 k n q (allL q i) (i : Int)) (allL q n)) n ?_ ?_
    · exact Ev.step (fun k => woggleref09_All.l0.eq_2 ..) (ev_neg (by omega) (Ev.now _))
    · intro i hi ih
      refine Ev.step (fun k => woggleref09_All.l0.eq_2 ..) (ev_pos (by omega) ?_)
      refine all_round n q hq _ ?_ ?_ i (by omega) _ ?_
      · exact Nat.le_trans (allL_small q i hq (by omega)) (by decide)
      · intro r hr; rw [allL_mem_len q i r hr]; omega
      · rw [allL_last]; exact ih
  exact key
/-- What ref.Loses answers. -/
theorem rloses_f (n q : Nat) (hn1 : 1 ≤ n) (hn : n ≤ 4) (hq1 : 1 ≤ q) (hq : q ≤ 4) (sees t : List (List Int)) (hf : Fits n q sees t) : Ev (fun k => woggleref09_Loses.f k n q sees t) (loseP n q sees t (allL q n)) := by
  unfold woggleref09_Loses.f
  refine Ev.bind (all_f n q hn hq) (ev_pos ?_ ?_)
  · rw [List.all_eq_true]
    intro r hr
    have := allL_mem_len q n r hr
    cases r with
    | nil => simp at this; omega
    | cons a r => rfl
  have hL : ∀ h ∈ allL q n, Colours q h ∧ h.length = n := by
    rw [← allHats_eq q hq1 n]; exact hats_ok n q (by omega)
  have hLl := allL_small q n hq hn
  generalize allL q n = L at hL hLl
  have key : Ev (fun k => woggleref09_Loses.l0 k q sees t L ((0 : Nat) : Int)) (loseP n q sees t (L.drop 0)) := by
    refine up_ind (fun i => Ev (fun k => woggleref09_Loses.l0 k q sees t L (i : Int)) (loseP n q sees t (L.drop i))) L.length ?_ ?_
    · rw [List.drop_length]
      exact Ev.step (fun k => woggleref09_Loses.l0.eq_2 ..) (ev_neg (by omega) (Ev.now _))
    · intro i hi ih
      have hm := hL L[i] (List.getElem_mem hi)
      refine Ev.step (fun k => woggleref09_Loses.l0.eq_2 ..) (ev_pos (by omega) (ev_pos (by omega) ?_))
      rw [rdL_nat L i hi, succ_w i (by omega)]
      refine Ev.bind (rguesses_f n hn q (by omega) (by omega) sees t hf L[i] hm.1 hm.2) (Ev.bind (rright_f n (by omega) q sees t L[i] hm.2) ?_)
      by_cases c : hits q sees t L[i] n = 0
      · refine ev_pos c (ev_eq (Ev.now _) ?_)
        unfold loseP
        rw [List.drop_eq_getElem_cons hi, List.find?_cons_of_pos (by rw [c]; rfl)]; rfl
      · refine ev_neg c (ev_eq ih ?_)
        unfold loseP
        rw [List.drop_eq_getElem_cons hi, List.find?_cons_of_neg (by rw [beq_iff_eq]; exact c)]
  rw [List.drop_zero] at key
  exact key

end Go.Proofs.Ytgjmfehdjbepiaa.Pure
