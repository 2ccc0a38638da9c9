/- Plain facts: a list is the same as itself; few and cut; Fitch's sets. -/
import Derived.Test.YtcphmeeighhdjaaPF17
import Derived.Test.YtcphmeeighhdjaaPF18
import Derived.Test.YtcphmeeighhdjaaPF19
import Derived.Test.YtcphmeeighhdjaaPF23
import Derived.Test.YtcphmeeighhdjaaPF24
import Derived.Test.YtcphmeeighhdjaaPF25
import Derived.Test.YtcphmeeighhdjaaRA
namespace Go.Proofs.Ytcphmeeighhdjaa.Pure
open Go Go.Proofs Go.RowKit Go.Proofs.Ytcphmeeighhdjaa.P Go.Proofs.YtcphmeeighhdjaaW.PrintWords Go.Proofs.YtcphmeeighhdjaaW.PrintLast
set_option linter.unusedVariables false

theorem before_self (l : List Int) (hl : l.length ≤ 1000000) : Ev (fun k => woggleref01_Before.f k l l) false := by
  unfold woggleref01_Before.f
  have key := up_ind (fun i => Ev (fun k => woggleref01_Before.l0 k l l (i : Int)) false) l.length ?_ ?_
  · exact key
  · refine Ev.step (f := fun k => woggleref01_Before.j1 k l l (l.length : Int) false) (fun k => by simp only [woggleref01_Before.l0]; rw [if_neg (Int.lt_irrefl _)]) ?_
    refine Ev.step (f := fun _ => some false) (fun k => ?_) (Ev.now _)
    simp only [woggleref01_Before.j1]
    rw [if_neg (by decide), decide_eq_false (Int.lt_irrefl _)]
  · intro i hi ih
    have p1 : (i : Int) < l.length := by omega
    have p2 : (0 : Int) ≤ i := by omega
    refine Ev.step (f := fun k => woggleref01_Before.j1 k l l (i : Int) true) (fun k => by simp only [woggleref01_Before.l0]; rw [if_pos p1, decide_eq_true p1]) ?_
    refine Ev.step (fun k => ?_) ih
    simp only [woggleref01_Before.j1]
    rw [if_pos trivial, if_pos p2, if_pos p1, if_pos p1, if_pos trivial, succ_w i (by omega)]
theorem same_self (l : List Int) (hl : l.length ≤ 1000000) : Ev (fun k => woggleref01_Same.f k l l) true := by
  unfold woggleref01_Same.f
  refine Ev.bind (before_self l hl) ?_
  refine Ev.congr (f := fun k => (woggleref01_Before.f k l l).bind fun t => some (!t)) (fun k => if_neg (by decide)) (Ev.bind (before_self l hl) (Ev.now _))
theorem sames_self (l : List (List Int)) (hl : l.length ≤ 1000000) (hi : ∀ x ∈ l, x.length ≤ 1000000) : Ev (fun k => woggleref01_SameLists.f k l l) true := by
  unfold woggleref01_SameLists.f
  refine Ev.congr (f := fun k => woggleref01_SameLists.l0 k l l 0) (fun k => if_pos rfl) ?_
  have key := up_ind (fun i => Ev (fun k => woggleref01_SameLists.l0 k l l (i : Int)) true) l.length ?_ ?_
  · exact key
  · exact Ev.step (f := fun _ => some true) (fun k => by simp only [woggleref01_SameLists.l0]; rw [if_neg (Int.lt_irrefl _)]) (Ev.now _)
  · intro i hlt ih
    have p1 : (i : Int) < l.length := by omega
    have p2 : (0 : Int) ≤ i := by omega
    refine Ev.step (f := fun k => (woggleref01_Same.f k (rd_L3 l i) (rd_L3 l i)).bind fun t => if t = true then woggleref01_SameLists.l0 k l l ((i + 1 : Nat) : Int) else some false) (fun k => by simp only [woggleref01_SameLists.l0]; rw [if_pos p1, if_pos p2, if_pos p1, succ_w i (by omega)]) ?_
    refine Ev.bind (same_self _ (by rw [rd_L3_nat l i hlt]; exact hi _ (List.getElem_mem hlt))) (Ev.congr (fun k => if_pos rfl) ih)
theorem few_f (n : Int) (J : List S67) (h : J.length ≤ maxLen) : wogglelaw02_Plant_few.f n J = some (n, J.take 9) := by
  unfold wogglelaw02_Plant_few.f
  have e := cut_take J 9 (by decide)
  have m := mn_cut J.length 9 (by decide)
  try simp only [Option.bind_some]
  rw [if_pos m.1, if_pos m.2, e]
  try simp only [Option.bind_some]
  have hl : (J.take (9 : Int).toNat).length ≤ 9 := List.length_take_le _ _
  rw [if_pos (show ([] : List S67).length + (J.take (9 : Int).toNat).length < 8796093022208 by simp only [List.length_nil]; omega)]
  rfl
theorem cut_f (L : List Int) (h : L.length ≤ maxLen) : wogglelaw02_cut.f L = some (L.take 9) := by
  unfold wogglelaw02_cut.f
  have e := cut_take L 9 (by decide)
  have m := mn_cut L.length 9 (by decide)
  try simp only [Option.bind_some]
  rw [if_pos m.1, if_pos m.2, e]
  have hl : (L.take (9 : Int).toNat).length ≤ 9 := List.length_take_le _ _
  rw [if_pos (show ([] : List Int).length + (L.take (9 : Int).toNat).length < 17592186044416 by simp only [List.length_nil]; omega)]
  rfl
/-- Fitch's sets of all leaves and of the first joins, and the number of changes. -/
def fitTo (J : List S67) (L : List Int) : Nat → List Int × Int
  | 0 => (L.map (fun s => shl .i64 1 s), 0)
  | m + 1 => if Go.bits .and .i64 (rd (fitTo J L m).1 (rd_T67 J m).f0) (rd (fitTo J L m).1 (rd_T67 J m).f1) = 0
      then ((fitTo J L m).1 ++ [Go.bits .or .i64 (rd (fitTo J L m).1 (rd_T67 J m).f0) (rd (fitTo J L m).1 (rd_T67 J m).f1)], wrap64 ((fitTo J L m).2 + 1))
      else ((fitTo J L m).1 ++ [Go.bits .and .i64 (rd (fitTo J L m).1 (rd_T67 J m).f0) (rd (fitTo J L m).1 (rd_T67 J m).f1)], (fitTo J L m).2)
theorem fitTo_length (J : List S67) (L : List Int) (m : Nat) : (fitTo J L m).1.length = L.length + m := by
  induction m with
  | zero => simp [fitTo]
  | succ m ih => simp only [fitTo]; split <;> simp only [List.length_append, List.length_singleton, ih] <;> omega
section
variable {n : Int} {J : List S67} {k : Int} {L : List Int}
theorem fitch_ev (ht : TreeOk n J) (hs : StatesOk n k L) : Ev (fun q => track_fitch.f q J L) (fitTo J L J.length) := by
  have hn := ht.1; have hn8 := ht.2.1; have hJ := ht.2.2.1; have hL := hs.2
  unfold track_fitch.f
  have joins := up_ind (fun m => Ev (fun q => track_fitch.l1 q (fitTo J L m).1 (fitTo J L m).2 J (J.length : Int) (m : Int)) (fitTo J L J.length)) J.length ?_ ?_
  · have leaves := up_ind (fun i => Ev (fun q => track_fitch.l0 q J ((L.take i).map (fun s => shl .i64 1 s)) L (L.length : Int) (i : Int)) (fitTo J L J.length)) L.length ?_ ?_
    · exact leaves
    · refine Ev.step (f := fun q => track_fitch.l1 q (fitTo J L 0).1 (fitTo J L 0).2 J (J.length : Int) ((0 : Nat) : Int)) (fun q => ?_) joins
      simp only [track_fitch.l0]
      rw [if_neg (Int.lt_irrefl _), List.take_length]; rfl
    · intro i hi ih
      have p1 : (i : Int) < L.length := by omega
      have p2 : (0 : Int) ≤ i := by omega
      have hb := hs.1 _ (List.getElem_mem hi)
      refine Ev.step (fun q => ?_) ih
      simp only [track_fitch.l0]
      rw [if_pos p1, if_pos p2, if_pos p1, rd_nat L i hi, if_pos hb.1, if_pos (show ((L.take i).map (fun s => shl .i64 1 s)).length < 17592186044416 by rw [List.length_map, List.length_take]; omega), succ_w i (by omega), take_up L i hi, List.map_append]
      rfl
  · exact Ev.step (f := fun _ => some (fitTo J L J.length)) (fun q => by simp only [track_fitch.l1]; rw [if_neg (Int.lt_irrefl _)]) (Ev.now _)
  · intro m hm ih
    have p1 : (m : Int) < J.length := by omega
    have p2 : (0 : Int) ≤ m := by omega
    obtain ⟨⟨a0, a1, _⟩, b0, b1, _⟩ := ht.2.2.2 m hm
    have hl := fitTo_length J L m
    have p3 : (rd_T67 J m).f0 < (fitTo J L m).1.length := by omega
    have p4 : (rd_T67 J m).f1 < (fitTo J L m).1.length := by omega
    have p5 : (fitTo J L m).1.length < 17592186044416 := by omega
    refine Ev.step (fun q => ?_) ih
    simp only [track_fitch.l1]
    rw [if_pos p1, if_pos p2, if_pos p1, if_pos a0, if_pos p3, if_pos b0, if_pos p4, if_pos p5, if_pos p5, succ_w m (by omega)]
    simp only [fitTo]
    split <;> rfl
theorem rfitch_ev (ht : TreeOk n J) (hs : StatesOk n k L) : Ev (fun q => woggleref02_Fitch.f q n J L) ((fitTo J L J.length).1.drop L.length, (fitTo J L J.length).2) := by
  have hn := ht.1; have hn8 := ht.2.1; have hJ := ht.2.2.1; have hL := hs.2
  unfold woggleref02_Fitch.f
  have joins := up_ind (fun m => Ev (fun q => woggleref02_Fitch.l1 q n J (fitTo J L m).1 (fitTo J L m).2 (m : Int)) ((fitTo J L J.length).1.drop L.length, (fitTo J L J.length).2)) J.length ?_ ?_
  · have leaves := up_ind (fun i => Ev (fun q => woggleref02_Fitch.l0 q n J L ((L.take i).map (fun s => shl .i64 1 s)) 0 (i : Int)) ((fitTo J L J.length).1.drop L.length, (fitTo J L J.length).2)) L.length ?_ ?_
    · exact leaves
    · refine Ev.step (f := fun q => woggleref02_Fitch.l1 q n J (fitTo J L 0).1 (fitTo J L 0).2 ((0 : Nat) : Int)) (fun q => ?_) joins
      simp only [woggleref02_Fitch.l0]
      rw [if_neg (show ¬ (L.length : Int) < n by omega), List.take_length]; rfl
    · intro i hi ih
      have p0 : (i : Int) < n := by omega
      have p1 : (i : Int) < L.length := by omega
      have p2 : (0 : Int) ≤ i := by omega
      have hb := hs.1 _ (List.getElem_mem hi)
      refine Ev.step (fun q => ?_) ih
      simp only [woggleref02_Fitch.l0]
      rw [if_pos p0, if_pos p2, if_pos p1, rd_nat L i hi, if_pos hb.1, if_pos (show ((L.take i).map (fun s => shl .i64 1 s)).length < 17592186044416 by rw [List.length_map, List.length_take]; omega), succ_w i (by omega), take_up L i hi, List.map_append]
      rfl
  · have hl := fitTo_length J L J.length
    have q1 : (0 : Int) ≤ n := by omega
    have q2 : n ≤ (fitTo J L J.length).1.length := by omega
    refine Ev.step (f := fun _ => some ((fitTo J L J.length).1.drop L.length, (fitTo J L J.length).2)) (fun q => ?_) (Ev.now _)
    simp only [woggleref02_Fitch.l1]
    rw [if_neg (Int.lt_irrefl _), if_pos q1, if_pos q2, show n.toNat = L.length by omega]
  · intro m hm ih
    have p1 : (m : Int) < J.length := by omega
    have p2 : (0 : Int) ≤ m := by omega
    obtain ⟨⟨a0, a1, _⟩, b0, b1, _⟩ := ht.2.2.2 m hm
    have hl := fitTo_length J L m
    have p3 : (rd_T67 J m).f0 < (fitTo J L m).1.length := by omega
    have p4 : (rd_T67 J m).f1 < (fitTo J L m).1.length := by omega
    have p5 : (fitTo J L m).1.length < 17592186044416 := by omega
    refine Ev.step (fun q => ?_) ih
    simp only [woggleref02_Fitch.l1]
    rw [if_pos p2, if_pos p1, if_pos a0, if_pos p3, if_pos b0, if_pos p4, if_pos p5, if_pos p5, succ_w m (by omega)]
    simp only [fitTo]
    split <;> rfl
end
/-- The members of a set, below a bound. -/
def memTo (s : Int) : Nat → List Int
  | 0 => []
  | i + 1 => if Go.bits .and .i64 (shr .i64 s i) 1 = 1 then memTo s i ++ [(i : Int)] else memTo s i
theorem memTo_length (s : Int) (i : Nat) : (memTo s i).length ≤ i := by
  induction i with
  | zero => exact Nat.le_refl _
  | succ i ih =>
    simp only [memTo]
    split
    · rw [List.length_append, List.length_singleton]; omega
    · omega
theorem members_few : ∀ k ∈ List.range 5, ∀ s ∈ List.range (2 ^ k), woggleref01_Members.f 40 ((s : Nat) : Int) = some (memTo s k) := by decide +kernel
theorem bits_few : ∀ k ∈ List.range 5, ∀ a ∈ List.range (2 ^ k), ∀ b ∈ List.range (2 ^ k), (0 ≤ Go.bits .and .i64 (a : Int) (b : Int) ∧ Go.bits .and .i64 (a : Int) (b : Int) < ((2 ^ k : Nat) : Int)) ∧ (0 ≤ Go.bits .or .i64 (a : Int) (b : Int) ∧ Go.bits .or .i64 (a : Int) (b : Int) < ((2 ^ k : Nat) : Int)) := by decide +kernel
theorem shl_few : ∀ k ∈ List.range 5, ∀ s ∈ List.range k, 0 ≤ shl .i64 1 ((s : Nat) : Int) ∧ shl .i64 1 ((s : Nat) : Int) < ((2 ^ k : Nat) : Int) := by decide +kernel
theorem fit_small {n : Int} {J : List S67} {k : Nat} {L : List Int} (hk : k ≤ 4) (ht : TreeOk n J) (hs : StatesOk n k L) (m : Nat) (hm : m ≤ J.length) : ∀ x ∈ (fitTo J L m).1, 0 ≤ x ∧ x < ((2 ^ k : Nat) : Int) := by
  have hL := hs.2
  induction m with
  | zero =>
    intro x hx
    obtain ⟨s, hs', rfl⟩ := List.mem_map.1 hx
    have hb := hs.1 s hs'
    obtain ⟨u, rfl⟩ : ∃ u : Nat, s = u := ⟨s.toNat, by omega⟩
    exact shl_few k (List.mem_range.2 (by omega)) u (List.mem_range.2 (by omega))
  | succ m ih =>
    have ih := ih (by omega)
    obtain ⟨⟨a0, a1, _⟩, b0, b1, _⟩ := ht.2.2.2 m (by omega)
    have hl := fitTo_length J L m
    have ha := ih (rd (fitTo J L m).1 (rd_T67 J m).f0) (by unfold rd; rw [List.getD_eq_getElem?_getD, List.getElem?_eq_getElem (by omega)]; exact List.getElem_mem _)
    have hb := ih (rd (fitTo J L m).1 (rd_T67 J m).f1) (by unfold rd; rw [List.getD_eq_getElem?_getD, List.getElem?_eq_getElem (by omega)]; exact List.getElem_mem _)
    intro x hx
    simp only [fitTo] at hx
    generalize rd (fitTo J L m).1 (rd_T67 J m).f0 = a at *
    generalize rd (fitTo J L m).1 (rd_T67 J m).f1 = b at *
    generalize hP : 2 ^ k = P at *
    have hc : (0 ≤ Go.bits .and .i64 a b ∧ Go.bits .and .i64 a b < (P : Int)) ∧ (0 ≤ Go.bits .or .i64 a b ∧ Go.bits .or .i64 a b < (P : Int)) := by
      obtain ⟨u, rfl⟩ : ∃ u : Nat, a = u := ⟨a.toNat, by omega⟩
      obtain ⟨v, rfl⟩ : ∃ v : Nat, b = v := ⟨b.toNat, by omega⟩
      rw [← hP]
      exact bits_few k (List.mem_range.2 (by omega)) u (List.mem_range.2 (by omega)) v (List.mem_range.2 (by omega))
    split at hx
    · rcases List.mem_append.1 hx with h | h
      · exact ih x h
      · rw [List.mem_singleton.1 h]; exact hc.2
    · rcases List.mem_append.1 hx with h | h
      · exact ih x h
      · rw [List.mem_singleton.1 h]; exact hc.1
theorem members_ev (k : Nat) (hk : k ≤ 4) (s : Int) (h0 : 0 ≤ s) (h1 : s < ((2 ^ k : Nat) : Int)) : Ev (fun q => woggleref01_Members.f q s) (memTo s k) := by
  obtain ⟨u, rfl⟩ : ∃ u : Nat, s = u := ⟨s.toNat, by omega⟩
  exact Ev.of (woggleref01_Members.mono _) (members_few k (List.mem_range.2 (by omega)) u (List.mem_range.2 (by omega)))
/-- What Fitch answers. -/
def fitOut (n k : Nat) (J : List S67) (L : List Int) : List (List Int) := ((fitTo J L J.length).1.drop n).map (fun s => memTo s k)
theorem Fitch_ev {n k : Nat} {J : List S67} {L : List Int} (ht : TreeOk n J) (h1 : 1 ≤ k) (hk : k ≤ 4) (hs : StatesOk n k L) : Ev (fun q => track_Fitch.f q n J k L) (fitOut n k J L, (fitTo J L J.length).2, 0) := by
  have hn8 := ht.2.1; have hJ := ht.2.2.1; have hL := hs.2; have hn := ht.1
  have hl := fitTo_length J L J.length
  have tr := tree_ev n J (by omega)
  rw [@decide_eq_true _ (_) ht] at tr
  unfold track_Fitch.f
  refine Ev.bind tr ?_
  refine Ev.congr (f := fun q => track_Fitch.j0 q n J k L false) (fun q => by rw [if_pos rfl, if_neg (show ¬ (k : Int) < 1 by omega), decide_eq_false (show ¬ (k : Int) > 4 by omega)]) ?_
  refine Ev.step (f := fun q => (track_states.f L n k).bind fun t => if t = true then (track_fitch.f q J L).bind fun b => if 0 ≤ (n : Int) then if (n : Int) ≤ (b.1.length : Int) then (some (b.1.drop ((n : Int)).toNat)).bind fun y => track_Fitch.l0 q k b.2 [] y (y.length : Int) 0 else none else none else some ([], 0, 2)) (fun q => by simp only [track_Fitch.j0]; rw [if_neg (by decide)]) ?_
  rw [states_f, @decide_eq_true _ (_) hs]
  refine Ev.congr (f := fun q => (track_fitch.f q J L).bind fun b => if 0 ≤ (n : Int) then if (n : Int) ≤ (b.1.length : Int) then (some (b.1.drop ((n : Int)).toNat)).bind fun y => track_Fitch.l0 q k b.2 [] y (y.length : Int) 0 else none else none) (fun q => by simp only [Option.bind_some]; rw [if_pos trivial]) ?_
  refine Ev.bind (fitch_ev ht hs) ?_
  refine Ev.congr (f := fun q => track_Fitch.l0 q k (fitTo J L J.length).2 [] ((fitTo J L J.length).1.drop n) (((fitTo J L J.length).1.drop n).length : Int) 0) (fun q => by rw [if_pos (show (0 : Int) ≤ n by omega), if_pos (show (n : Int) ≤ (fitTo J L J.length).1.length by omega)]; rfl) ?_
  unfold fitOut
  generalize (fitTo J L J.length).2 = c
  have hY : ((fitTo J L J.length).1.drop n).length ≤ 100 := by rw [List.length_drop]; omega
  generalize (fitTo J L J.length).1.drop n = Y at *
  have key := up_ind (fun m => Ev (fun q => track_Fitch.l0 q k c ((Y.take m).map (fun s => memTo s k)) Y (Y.length : Int) (m : Int)) (Y.map (fun s => memTo s k), c, 0)) Y.length ?_ ?_
  · exact key
  · refine Ev.step (f := fun _ => some (Y.map (fun s => memTo s k), c, 0)) (fun q => ?_) (Ev.now _)
    simp only [track_Fitch.l0]
    rw [if_neg (Int.lt_irrefl _), List.take_length]
  · intro m hm ih
    have p1 : (m : Int) < Y.length := by omega
    have p2 : (0 : Int) ≤ m := by omega
    refine Ev.step (f := fun q => track_Fitch.l1 q k c ((Y.take m).map (fun s => memTo s k)) (rd Y m) [] Y (Y.length : Int) (m : Int) k 0) (fun q => by simp only [track_Fitch.l0]; rw [if_pos p1, if_pos p2, if_pos p1]) ?_
    have inner := up_ind (fun i => Ev (fun q => track_Fitch.l1 q k c ((Y.take m).map (fun s => memTo s k)) (rd Y m) (memTo (rd Y m) i) Y (Y.length : Int) (m : Int) k (i : Int)) (Y.map (fun s => memTo s k), c, 0)) k ?_ ?_
    · exact inner
    · refine Ev.step (fun q => ?_) ih
      simp only [track_Fitch.l1]
      rw [if_neg (Int.lt_irrefl _), if_pos (show ((Y.take m).map (fun s => memTo s k)).length < 5864062014805 by rw [List.length_map, List.length_take]; omega), succ_w m (by omega), take_up Y m hm, List.map_append, rd_nat Y m hm]
      rfl
    · intro i hi ihi
      have q1 : (i : Int) < k := by omega
      have q2 : (0 : Int) ≤ i := by omega
      have q3 : (memTo (rd Y m) i).length < 17592186044416 := by have := memTo_length (rd Y m) i; omega
      refine Ev.step (fun q => ?_) ihi
      simp only [track_Fitch.l1]
      rw [if_pos q1, if_pos q2, if_pos q3, succ_w i (by omega)]
      simp only [memTo]
      split <;> rfl
theorem Fitch_bad1 {n k : Int} {J : List S67} {L : List Int} (hJ : J.length ≤ 99) (h : ¬ (TreeOk n J ∧ 1 ≤ k ∧ k ≤ 4)) : Ev (fun q => track_Fitch.f q n J k L) ([], 0, 1) := by
  have tr := tree_ev n J hJ
  unfold track_Fitch.f
  have bad : Ev (fun q => track_Fitch.j0 q n J k L true) ([], 0, 1) := Ev.step (f := fun _ => some ([], 0, 1)) (fun q => by simp only [track_Fitch.j0]; rw [if_pos trivial]) (Ev.now _)
  refine Ev.bind tr ?_
  by_cases c0 : TreeOk n J
  · rw [@decide_eq_true _ (_) c0]
    by_cases c1 : k < 1
    · exact Ev.congr (fun q => by rw [if_pos rfl, if_pos c1]) bad
    · have c2 : k > 4 := Decidable.byContradiction fun c2 => h ⟨c0, by omega, by omega⟩
      exact Ev.congr (fun q => by rw [if_pos rfl, if_neg c1, decide_eq_true c2]) bad
  · rw [@decide_eq_false _ (_) c0]
    exact Ev.congr (fun q => if_neg (by decide)) bad
theorem Fitch_bad2 {n k : Int} {J : List S67} {L : List Int} (hJ : J.length ≤ 99) (h : TreeOk n J) (h1 : 1 ≤ k) (h4 : k ≤ 4) (hs : ¬ StatesOk n k L) : Ev (fun q => track_Fitch.f q n J k L) ([], 0, 2) := by
  have tr := tree_ev n J hJ
  rw [@decide_eq_true _ (_) h] at tr
  unfold track_Fitch.f
  refine Ev.bind tr ?_
  refine Ev.congr (f := fun q => track_Fitch.j0 q n J k L false) (fun q => by rw [if_pos rfl, if_neg (show ¬ k < 1 by omega), decide_eq_false (show ¬ k > 4 by omega)]) ?_
  refine Ev.step (f := fun _ => some ([], 0, 2)) (fun q => ?_) (Ev.now _)
  simp only [track_Fitch.j0]
  rw [if_neg (by decide), states_f, @decide_eq_false _ (_) hs]
  rfl
end Go.Proofs.Ytcphmeeighhdjaa.Pure
