/- Plain facts: when the program and the reference call a tree, states and costs valid. -/
import Derived.Test.YtcphmeeighhdjaaGB
import Derived.Test.YtcphmeeighhdjaaPF28
import Derived.Test.YtcphmeeighhdjaaRT
import Derived.Test.YtcphmeeighhdjaaTT
namespace Go.Proofs.Ytcphmeeighhdjaa.Pure
open Go Go.Proofs Go.RowKit Go.Proofs.Ytcphmeeighhdjaa.P Go.Proofs.YtcphmeeighhdjaaW.PrintWords Go.Proofs.YtcphmeeighhdjaaW.PrintLast
set_option linter.unusedVariables false

theorem w64 (x : Int) (h0 : -4611686018427387904 ≤ x) (h1 : x ≤ 4611686018427387904) : wrap64 x = x := by unfold wrap64; omega
theorem index_ev (l : List Int) (x : Int) (hl : l.length ≤ 1000000) (i : Nat) (hi : i ≤ l.length) :
    ∃ r, Ev (fun k => slices_Index_int_int.l0 k l x (l.length : Int) (i : Int)) r ∧ (r ≥ 0 ↔ x ∈ l.drop i) := by
  refine up_from (fun i => ∃ r, Ev (fun k => slices_Index_int_int.l0 k l x (l.length : Int) (i : Int)) r ∧ (r ≥ 0 ↔ x ∈ l.drop i)) i l.length hi ?_ ?_
  · refine ⟨-1, Ev.step (f := fun _ => some (-1)) (fun k => by simp only [slices_Index_int_int.l0]; rw [if_neg (by omega)]) (Ev.now _), ?_⟩
    simp
  · intro j h0 h1 ⟨r, hr, he⟩
    have hd : l.drop j = l[j] :: l.drop (j + 1) := List.drop_eq_getElem_cons h1
    by_cases hx : x = l[j]
    · refine ⟨j, Ev.step (f := fun _ => some (j : Int)) (fun k => by simp only [slices_Index_int_int.l0]; rw [if_pos (by omega), if_pos (by omega), if_pos (by omega), rd_nat l j h1, if_pos hx]) (Ev.now _), ?_⟩
      exact ⟨fun _ => by rw [hd, hx]; exact List.mem_cons_self, fun _ => by omega⟩
    · refine ⟨r, Ev.step (f := fun k => slices_Index_int_int.l0 k l x (l.length : Int) ((j + 1 : Nat) : Int)) (fun k => by simp only [slices_Index_int_int.l0]; rw [if_pos (by omega), if_pos (by omega), if_pos (by omega), rd_nat l j h1, if_neg hx, succ_w j (by omega)]) hr, ?_⟩
      rw [hd, he, List.mem_cons]
      exact ⟨.inr, fun h => h.resolve_left hx⟩
theorem contains_ev (l : List Int) (x : Int) (hl : l.length ≤ 1000000) : Ev (fun k => slices_Contains_int_int.f k l x) (decide (x ∈ l)) := by
  obtain ⟨r, hr, he⟩ := index_ev l x hl 0 (Nat.zero_le _)
  rw [List.drop_zero] at he
  have : Ev (fun k => (slices_Index_int_int.f k l x).bind fun t => some (decide (t ≥ 0))) (decide (x ∈ l)) := Ev.bind hr (ev_val (by rw [decide_eq_decide.2 he]))
  exact this

/-- The nodes that the first joins use. -/
def usedTo (J : List S67) : Nat → List Int
  | 0 => []
  | i + 1 => usedTo J i ++ [(rd_T67 J i).f0] ++ [(rd_T67 J i).f1]
theorem usedTo_length (J : List S67) (i : Nat) : (usedTo J i).length = 2 * i := by
  induction i with
  | zero => rfl
  | succ i ih => simp only [usedTo, List.length_append, ih, List.length_singleton]; omega
def JoinOk (n : Int) (J : List S67) (i : Nat) : Prop :=
  (0 ≤ (rd_T67 J i).f0 ∧ (rd_T67 J i).f0 < n + i ∧ (rd_T67 J i).f0 ∉ usedTo J i) ∧ (0 ≤ (rd_T67 J i).f1 ∧ (rd_T67 J i).f1 < n + i ∧ (rd_T67 J i).f1 ∉ usedTo J i ++ [(rd_T67 J i).f0])
def TreeOk (n : Int) (J : List S67) : Prop := 2 ≤ n ∧ n ≤ 8 ∧ (J.length : Int) = n - 1 ∧ ∀ i, i < J.length → JoinOk n J i

def nodeOk (n : Int) (u : List Int) (i : Nat) (x : Int) : Prop := 0 ≤ x ∧ x < n + i ∧ x ∉ u
theorem tree_l1_no (n : Int) (J : List S67) (i : Nat) (a b x : Int) (u : List Int) (j : Int) (h2 : 2 ≤ n) (h8 : n ≤ 8) (hi : i < 100) (hu : u.length ≤ 1000) (hj : (j = 0 ∧ x = a) ∨ (j = 1 ∧ x = b)) (hx : ¬ nodeOk n u i x) :
    Ev (fun k => track_tree.l1 k n u (i : Int) J (J.length : Int) (i : Int) [a, b] (([a, b] : List Int).length : Int) j) false := by
  have e : rd [a, b] j = x := by rcases hj with ⟨rfl, rfl⟩ | ⟨rfl, rfl⟩ <;> rfl
  have j0 : 0 ≤ j := by omega
  have j2 : j < (([a, b] : List Int).length : Int) := by simp only [List.length_cons, List.length_nil]; omega
  have hw := w64 (n + i) (by omega) (by omega)
  by_cases c0 : x < 0
  · exact Ev.step (f := fun _ => some false) (fun k => by simp only [track_tree.l1]; rw [if_pos j2, if_pos j0, if_pos j2, e, if_pos c0]) (Ev.now _)
  by_cases c1 : x ≥ n + i
  · exact Ev.step (f := fun _ => some false) (fun k => by simp only [track_tree.l1]; rw [if_pos j2, if_pos j0, if_pos j2, e, if_neg c0, hw, if_pos c1]) (Ev.now _)
  have hm : x ∈ u := Decidable.byContradiction fun h => hx ⟨by omega, by omega, h⟩
  refine Ev.step (fun k => by simp only [track_tree.l1]; rw [if_pos j2, if_pos j0, if_pos j2, e, if_neg c0, hw, if_neg c1]) (Ev.bind (contains_ev u x (by omega)) ?_)
  rw [decide_eq_true hm]
  exact Ev.congr (fun _ => if_pos rfl) (Ev.now _)
theorem tree_l1_yes (n : Int) (J : List S67) (i : Nat) (a b x : Int) (u : List Int) (j : Nat) (r : Bool) (h2 : 2 ≤ n) (h8 : n ≤ 8) (hi : i < 100) (hu : u.length ≤ 1000) (hj : (j = 0 ∧ x = a) ∨ (j = 1 ∧ x = b)) (hx : nodeOk n u i x)
    (hr : Ev (fun k => track_tree.l1 k n (u ++ [x]) (i : Int) J (J.length : Int) (i : Int) [a, b] (([a, b] : List Int).length : Int) ((j + 1 : Nat) : Int)) r) :
    Ev (fun k => track_tree.l1 k n u (i : Int) J (J.length : Int) (i : Int) [a, b] (([a, b] : List Int).length : Int) (j : Int)) r := by
  have e : rd [a, b] j = x := by rcases hj with ⟨rfl, rfl⟩ | ⟨rfl, rfl⟩ <;> rfl
  have j0 : (0 : Int) ≤ j := by omega
  have j2 : (j : Int) < (([a, b] : List Int).length : Int) := by simp only [List.length_cons, List.length_nil]; omega
  have hw := w64 (n + i) (by omega) (by omega)
  obtain ⟨x0, x1, x2⟩ := hx
  refine Ev.step (fun k => by simp only [track_tree.l1]; rw [if_pos j2, if_pos j0, if_pos j2, e, if_neg (by omega), hw, if_neg (by omega)]) (Ev.bind (contains_ev u x (by omega)) ?_)
  rw [decide_eq_false x2]
  refine Ev.congr (fun k => ?_) hr
  show (if false = true then _ else _) = _
  rw [if_neg (by decide), if_pos (by omega), succ_w j (by omega)]
theorem tree_l0 (n : Int) (J : List S67) (h2 : 2 ≤ n) (h8 : n ≤ 8) (hJ : J.length ≤ 99) (i : Nat) (hi : i ≤ J.length) (r : Bool) (hr : r = true ↔ ∀ j, i ≤ j → j < J.length → JoinOk n J j) :
    Ev (fun k => track_tree.l0 k n (usedTo J i) J (J.length : Int) (i : Int)) r := by
  revert r
  refine up_from (fun i => ∀ r : Bool, (r = true ↔ ∀ j, i ≤ j → j < J.length → JoinOk n J j) → Ev (fun k => track_tree.l0 k n (usedTo J i) J (J.length : Int) (i : Int)) r) i J.length hi ?_ ?_
  · intro r hr
    have : r = true := hr.2 (fun j h0 h1 => absurd h1 (by omega))
    rw [this]
    exact Ev.step (f := fun _ => some true) (fun k => by simp only [track_tree.l0]; rw [if_neg (by omega)]) (Ev.now _)
  · intro i h0 h1 ih r hr
    have hu := usedTo_length J i
    refine Ev.step (f := fun k => track_tree.l1 k n (usedTo J i) (i : Int) J (J.length : Int) (i : Int) [(rd_T67 J i).f0, (rd_T67 J i).f1] (([(rd_T67 J i).f0, (rd_T67 J i).f1] : List Int).length : Int) ((0 : Nat) : Int)) (fun k => by simp only [track_tree.l0]; rw [if_pos (by omega), if_pos (by omega), if_pos (by omega)]; rfl) ?_
    by_cases ca : nodeOk n (usedTo J i) i (rd_T67 J i).f0
    · refine tree_l1_yes n J i _ _ _ _ 0 r h2 h8 (by omega) (by omega) (.inl ⟨rfl, rfl⟩) ca ?_
      by_cases cb : nodeOk n (usedTo J i ++ [(rd_T67 J i).f0]) i (rd_T67 J i).f1
      · refine tree_l1_yes n J i _ _ _ _ 1 r h2 h8 (by omega) (by simp only [List.length_append, List.length_singleton]; omega) (.inr ⟨rfl, rfl⟩) cb ?_
        refine Ev.step (f := fun k => track_tree.l0 k n (usedTo J (i + 1)) J (J.length : Int) ((i + 1 : Nat) : Int)) (fun k => by simp only [track_tree.l1]; rw [if_neg (by simp), succ_w i (by omega)]; rfl) (ih r ?_)
        rw [hr]
        constructor
        · intro h j hj0 hj1; exact h j (by omega) hj1
        · intro h j hj0 hj1
          rcases Nat.eq_or_lt_of_le hj0 with rfl | hlt
          · exact ⟨ca, cb⟩
          · exact h j hlt hj1
      · have : r = false := Bool.eq_false_iff.2 fun h => cb (hr.1 h i (Nat.le_refl _) h1).2
        rw [this]
        exact tree_l1_no n J i _ _ _ _ _ h2 h8 (by omega) (by simp only [List.length_append, List.length_singleton]; omega) (.inr ⟨rfl, rfl⟩) cb
    · have : r = false := Bool.eq_false_iff.2 fun h => ca (hr.1 h i (Nat.le_refl _) h1).1
      rw [this]
      exact tree_l1_no n J i _ _ _ _ _ h2 h8 (by omega) (by omega) (.inl ⟨rfl, rfl⟩) ca
open Classical in
/-- When track.tree says yes. -/
theorem tree_ev (n : Int) (J : List S67) (hJ : J.length ≤ 99) : Ev (fun k => track_tree.f k n J) (decide (TreeOk n J)) := by
  unfold track_tree.f
  have no : ¬ TreeOk n J → Ev (fun k => track_tree.j0 k n J true) (decide (TreeOk n J)) := fun h => by
    rw [decide_eq_false h]
    exact Ev.step (f := fun _ => some false) (fun k => by simp only [track_tree.j0]; rw [if_pos trivial]) (Ev.now _)
  by_cases c0 : n < 2
  · exact ev_pos c0 (no (fun h => by have := h.1; omega))
  refine ev_neg c0 ?_
  by_cases c1 : n > 8
  · exact ev_pos c1 (no (fun h => by have := h.2.1; omega))
  refine ev_neg c1 ?_
  rw [w64 (n - 1) (by omega) (by omega)]
  by_cases c2 : (J.length : Int) = n - 1
  · rw [bne_eq_false_iff_eq.2 c2]
    refine Ev.step (f := fun k => track_tree.l0 k n (usedTo J 0) J (J.length : Int) ((0 : Nat) : Int)) (fun k => by simp only [track_tree.j0]; rw [if_neg (by decide)]; rfl) (tree_l0 n J (by omega) (by omega) hJ 0 (Nat.zero_le _) _ ?_)
    rw [decide_eq_true_iff]
    exact ⟨fun h j _ hj => h.2.2.2 j hj, fun h => ⟨by omega, by omega, c2, fun j hj => h j (Nat.zero_le _) hj⟩⟩
  · rw [bne_iff_ne.2 c2]
    exact no (fun h => c2 h.2.2.1)
open Classical in
theorem tree_yes {k : Nat} {n : Int} {J : List S67} (hJ : J.length ≤ 99) (h : track_tree.f k n J = some true) : TreeOk n J := by
  have e := ev_some (Ev.of (fun k => track_tree.mono n J k) h) (tree_ev n J hJ)
  exact of_decide_eq_true e.symm
theorem tree_len {k : Nat} {n : Int} {J : List S67} (h : track_tree.f k n J = some true) : J.length ≤ 99 := by
  unfold track_tree.f at h
  have no : track_tree.j0 k n J true = some true → False := by
    cases k with
    | zero => intro h; simp [track_tree.j0] at h
    | succ k => intro h; simp only [track_tree.j0] at h; simp at h
  by_cases c0 : n < 2
  · rw [if_pos c0] at h; exact absurd h no
  rw [if_neg c0] at h
  by_cases c1 : n > 8
  · rw [if_pos c1] at h; exact absurd h no
  rw [if_neg c1, w64 (n - 1) (by omega) (by omega)] at h
  by_cases c2 : (J.length : Int) = n - 1
  · omega
  · rw [bne_iff_ne.2 c2] at h; exact absurd h no

/-! ## The reference's word -/
theorem in_f (a l h : Int) : woggleref02_in.f a l h = some (decide (l ≤ a ∧ a ≤ h)) := by
  unfold woggleref02_in.f
  by_cases c : a ≥ l
  · rw [if_pos c]; congr 1; exact decide_eq_decide.2 ⟨fun q => ⟨c, q⟩, fun q => q.2⟩
  · rw [if_neg c]; congr 1; exact (decide_eq_false fun q => c q.1).symm
def kids (J : List S67) (i m : Nat) : List Bool := (List.range m).map (fun v : Nat => decide ((v : Int) ∈ usedTo J i))
theorem kids_rd (J : List S67) (i m : Nat) (x : Int) (h0 : 0 ≤ x) (h1 : x < m) : rdOf false (kids J i m) x = decide (x ∈ usedTo J i) := by
  obtain ⟨v, rfl⟩ : ∃ v : Nat, x = v := ⟨x.toNat, by omega⟩
  unfold rdOf kids
  rw [Int.toNat_natCast, List.getD_eq_getElem?_getD, List.getElem?_map, List.getElem?_range (by omega)]
  rfl
theorem kids_set (J : List S67) (i m : Nat) (a b : Int) (ha : 0 ≤ a) (hb : 0 ≤ b) (e0 : (rd_T67 J i).f0 = a) (e1 : (rd_T67 J i).f1 = b) : ((kids J i m).set a.toNat true).set b.toNat true = kids J (i + 1) m := by
  apply List.ext_getElem
  · simp [kids]
  · intro v h1 h2
    have hv : v < m := by simpa [kids] using h2
    rw [List.getElem_set, List.getElem_set]
    simp only [kids, List.getElem_map, List.getElem_range, usedTo, e0, e1, List.mem_append, List.mem_singleton]
    by_cases cb : b.toNat = v
    · rw [if_pos cb]; exact (decide_eq_true (.inr (by omega))).symm
    · rw [if_neg cb]
      by_cases ca : a.toNat = v
      · rw [if_pos ca]; exact (decide_eq_true (.inl (.inr (by omega)))).symm
      · rw [if_neg ca]
        refine decide_eq_decide.2 ⟨fun h => .inl (.inl h), fun h => ?_⟩
        rcases h with (h | h) | h
        · exact h
        · omega
        · omega
theorem rtree_l0 (n : Int) (J : List S67) (h2 : 2 ≤ n) (h8 : n ≤ 8) (hJ : (J.length : Int) = n - 1) (i : Nat) (hi : i ≤ J.length) (r : Bool) (hr : r = true ↔ ∀ j, i ≤ j → j < J.length → JoinOk n J j) :
    Ev (fun k => woggleref02_Tree.l0 k n J (kids J i (2 * n - 1).toNat) (i : Int)) r := by
  revert r
  refine up_from (fun i => ∀ r : Bool, (r = true ↔ ∀ j, i ≤ j → j < J.length → JoinOk n J j) → Ev (fun k => woggleref02_Tree.l0 k n J (kids J i (2 * n - 1).toNat) (i : Int)) r) i J.length hi ?_ ?_
  · intro r hr
    have : r = true := hr.2 (fun j h0 h1 => absurd h1 (by omega))
    rw [this]
    exact Ev.step (f := fun _ => some true) (fun k => by simp only [woggleref02_Tree.l0]; rw [if_neg (by omega)]) (Ev.now _)
  · intro i h0 h1 ih r hr
    have hw : wrap64 (wrap64 (n + i) - 1) = n + i - 1 := by rw [w64 (n + i) (by omega) (by omega), w64 _ (by omega) (by omega)]
    have hl : ((kids J i (2 * n - 1).toNat).length : Int) = 2 * n - 1 := by simp only [kids, List.length_map, List.length_range]; omega
    have no : ¬ JoinOk n J i → r = false := fun h => Bool.eq_false_iff.2 fun e => h (hr.1 e i (Nat.le_refl _) h1)
    unfold JoinOk at no
    generalize ea : (rd_T67 J i).f0 = a at no
    generalize eb : (rd_T67 J i).f1 = b at no
    by_cases ca : 0 ≤ a ∧ a ≤ n + i - 1
    rotate_left
    · rw [no (fun h => ca (by omega))]
      exact Ev.step (f := fun _ => some false) (fun k => by simp only [woggleref02_Tree.l0, ea, eb]; rw [if_pos (by omega), if_pos (by omega), hw, in_f, decide_eq_false ca]; rfl) (Ev.now _)
    by_cases cb : 0 ≤ b ∧ b ≤ n + i - 1
    rotate_left
    · rw [no (fun h => cb (by omega))]
      exact Ev.step (f := fun _ => some false) (fun k => by simp only [woggleref02_Tree.l0, ea, eb]; rw [if_pos (by omega), if_pos (by omega), hw, in_f, in_f, decide_eq_true ca, decide_eq_false cb]; rfl) (Ev.now _)
    have S : ∀ k, woggleref02_Tree.l0 (k + 1) n J (kids J i (2 * n - 1).toNat) (i : Int) = if a = b then some false else if a ∈ usedTo J i then some false else if b ∈ usedTo J i then some false else
        woggleref02_Tree.l0 k n J (kids J (i + 1) (2 * n - 1).toNat) ((i + 1 : Nat) : Int) := by
      intro k
      simp only [woggleref02_Tree.l0, ea, eb]
      rw [if_pos (by omega), if_pos (by omega), hw, in_f, in_f, decide_eq_true ca, decide_eq_true cb, hl]
      simp only [Option.bind_some, if_true]
      rw [if_pos ca.1, if_pos (show a < 2 * n - 1 by omega), if_pos cb.1, if_pos (show b < 2 * n - 1 by omega), kids_rd J i _ a ca.1 (by omega), kids_rd J i _ b cb.1 (by omega), kids_set J i _ a b ca.1 cb.1 ea eb, succ_w i (by omega)]
      simp only [decide_eq_true_eq]
    by_cases c0 : a = b
    · rw [no (fun h => h.2.2.2 (by simp [c0]))]
      exact Ev.step (f := fun _ => some false) (fun k => by rw [S, if_pos c0]) (Ev.now _)
    by_cases c1 : a ∈ usedTo J i
    · rw [no (fun h => h.1.2.2 c1)]
      exact Ev.step (f := fun _ => some false) (fun k => by rw [S, if_neg c0, if_pos c1]) (Ev.now _)
    by_cases c2 : b ∈ usedTo J i
    · rw [no (fun h => h.2.2.2 (by simp [c2]))]
      exact Ev.step (f := fun _ => some false) (fun k => by rw [S, if_neg c0, if_neg c1, if_pos c2]) (Ev.now _)
    refine Ev.step (fun k => by rw [S, if_neg c0, if_neg c1, if_neg c2]) (ih r ?_)
    rw [hr]
    constructor
    · intro h j hj0 hj1; exact h j (by omega) hj1
    · intro h j hj0 hj1
      rcases Nat.eq_or_lt_of_le hj0 with rfl | hlt
      · unfold JoinOk
        rw [ea, eb]
        refine ⟨⟨ca.1, by omega, c1⟩, cb.1, by omega, ?_⟩
        simp only [List.mem_append, List.mem_singleton, not_or]
        exact ⟨c2, fun e => c0 e.symm⟩
      · exact h j hlt hj1
open Classical in
/-- When the reference calls a tree one. -/
theorem rtree_ev (n : Int) (J : List S67) : Ev (fun k => woggleref02_Tree.f k n J) (decide (TreeOk n J)) := by
  unfold woggleref02_Tree.f
  rw [in_f]
  have no : ¬ TreeOk n J → Ev (fun k => woggleref02_Tree.j0 k n J true) (decide (TreeOk n J)) := fun h => by
    rw [decide_eq_false h]
    exact Ev.step (f := fun _ => some false) (fun k => by simp only [woggleref02_Tree.j0]; rw [if_pos trivial]) (Ev.now _)
  by_cases c0 : 2 ≤ n ∧ n ≤ 8
  rotate_left
  · rw [decide_eq_false c0]
    exact Ev.congr (fun k => by simp only [Option.bind_some]; rw [if_neg (by decide)]) (no fun h => c0 ⟨h.1, h.2.1⟩)
  rw [decide_eq_true c0, w64 (n - 1) (by omega) (by omega)]
  refine Ev.congr (f := fun k => woggleref02_Tree.j0 k n J ((J.length : Int) != n - 1)) (fun k => by simp only [Option.bind_some]; rw [if_pos trivial]) ?_
  by_cases c2 : (J.length : Int) = n - 1
  · rw [bne_eq_false_iff_eq.2 c2]
    have hw : wrap64 (wrap64 (2 * n) - 1) = 2 * n - 1 := by rw [w64 (2 * n) (by omega) (by omega), w64 _ (by omega) (by omega)]
    refine Ev.step (f := fun k => woggleref02_Tree.l0 k n J (kids J 0 (2 * n - 1).toNat) ((0 : Nat) : Int)) (fun k => ?_) (rtree_l0 n J (by omega) (by omega) c2 0 (Nat.zero_le _) _ ?_)
    · simp only [woggleref02_Tree.j0]
      rw [if_neg (by decide), hw, if_pos (by omega), if_pos (by omega)]
      have e : kids J 0 (2 * n - 1).toNat = List.replicate (2 * n - 1).toNat false := by
        unfold kids usedTo
        apply List.ext_getElem
        · simp
        · intro v h1 h2; simp
      rw [e]; rfl
    rw [decide_eq_true_iff]
    exact ⟨fun h j _ hj => h.2.2.2 j hj, fun h => ⟨by omega, by omega, c2, fun j hj => h j (Nat.zero_le _) hj⟩⟩
  · rw [bne_iff_ne.2 c2]
    exact no (fun h => c2 h.2.2.1)
/-- States. -/
def StatesOk (n k : Int) (l : List Int) : Prop := (∀ s ∈ l, 0 ≤ s ∧ s < k) ∧ (l.length : Int) = n
open Classical in
theorem states_f (l : List Int) (n k : Int) : track_states.f l n k = some (decide (StatesOk n k l)) := by
  unfold track_states.f
  by_cases c : (l.length : Int) = n
  · rw [if_pos c]
    congr 1
    by_cases d : StatesOk n k l
    · rw [decide_eq_true d, Bool.not_eq_true', List.any_eq_false]
      intro s hs
      have := d.1 s hs
      simp [outside]; omega
    · rw [decide_eq_false d, Bool.not_eq_false', List.any_eq_true]
      have : ¬ ∀ s ∈ l, 0 ≤ s ∧ s < k := fun h => d ⟨h, c⟩
      simp only [not_forall] at this
      obtain ⟨s, hs, h⟩ := this
      refine ⟨s, hs, ?_⟩
      simp [outside]; omega
  · rw [if_neg c, decide_eq_false (fun h => c h.2)]
open Classical in
theorem rstates_ev (n k : Int) (l : List Int) (hl : l.length ≤ 1000000) (hk0 : -1000000 ≤ k) (hk : k ≤ 1000000) : Ev (fun q => woggleref02_States.f q n k l) (decide (StatesOk n k l)) := by
  unfold woggleref02_States.f
  have key : ∀ i, i ≤ l.length → ∀ r : Bool, (r = true ↔ (∀ s ∈ l.drop i, 0 ≤ s ∧ s < k) ∧ (l.length : Int) = n) → Ev (fun q => woggleref02_States.l0 q n k l (i : Int)) r := by
    intro i hi
    refine up_from (fun i => ∀ r : Bool, (r = true ↔ (∀ s ∈ l.drop i, 0 ≤ s ∧ s < k) ∧ (l.length : Int) = n) → Ev (fun q => woggleref02_States.l0 q n k l (i : Int)) r) i l.length hi ?_ ?_
    · intro r hr
      have e : r = ((l.length : Int) == n) := by
        rw [Bool.eq_iff_iff, hr, beq_iff_eq]; simp
      rw [e]
      exact Ev.step (f := fun _ => some ((l.length : Int) == n)) (fun q => by simp only [woggleref02_States.l0]; rw [if_neg (by omega)]) (Ev.now _)
    · intro j h0 h1 ih r hr
      have hd : l.drop j = l[j] :: l.drop (j + 1) := List.drop_eq_getElem_cons h1
      have hw := w64 (k - 1) (by omega) (by omega)
      rw [hd] at hr
      simp only [List.mem_cons, forall_eq_or_imp] at hr
      by_cases c : 0 ≤ l[j] ∧ l[j] ≤ k - 1
      · refine Ev.step (f := fun q => woggleref02_States.l0 q n k l ((j + 1 : Nat) : Int)) (fun q => by simp only [woggleref02_States.l0]; rw [if_pos (by omega), if_pos (by omega), hw, rd_nat l j h1, in_f, decide_eq_true c, succ_w j (by omega)]; rfl) (ih r ?_)
        rw [hr]
        exact ⟨fun h => ⟨h.1.2, h.2⟩, fun h => ⟨⟨by omega, h.1⟩, h.2⟩⟩
      · have e : r = false := Bool.eq_false_iff.2 fun h => c (by have := (hr.1 h).1.1; omega)
        rw [e]
        exact Ev.step (f := fun _ => some false) (fun q => by simp only [woggleref02_States.l0]; rw [if_pos (by omega), if_pos (by omega), hw, rd_nat l j h1, in_f, decide_eq_false c]; rfl) (Ev.now _)
  exact key 0 (Nat.zero_le _) _ (by rw [decide_eq_true_iff]; rfl)
/-- Costs. -/
def CostsOk (C : List (List Int)) : Prop := (∀ row ∈ C, row.length = C.length ∧ ∀ c ∈ row, 0 ≤ c ∧ c ≤ 100) ∧ 1 ≤ C.length ∧ C.length ≤ 4
theorem rd_L3_nat (C : List (List Int)) (i : Nat) (h : i < C.length) : rd_L3 C i = C[i] := by
  unfold rd_L3; rw [Int.toNat_natCast, List.getD_eq_getElem?_getD, List.getElem?_eq_getElem h]; rfl
open Classical in
theorem rcosts_ev (C : List (List Int)) (hC : C.length ≤ 1000) : Ev (fun q => woggleref02_Costs.f q C) (decide (CostsOk C)) := by
  unfold woggleref02_Costs.f
  have key : ∀ i, i ≤ C.length → ∀ r : Bool, (r = true ↔ (∀ row ∈ C.drop i, row.length = C.length ∧ ∀ c ∈ row, 0 ≤ c ∧ c ≤ 100) ∧ 1 ≤ C.length ∧ C.length ≤ 4) → Ev (fun q => woggleref02_Costs.l0 q C (i : Int)) r := by
    intro i hi
    refine up_from (fun i => ∀ r : Bool, (r = true ↔ (∀ row ∈ C.drop i, row.length = C.length ∧ ∀ c ∈ row, 0 ≤ c ∧ c ≤ 100) ∧ 1 ≤ C.length ∧ C.length ≤ 4) → Ev (fun q => woggleref02_Costs.l0 q C (i : Int)) r) i C.length hi ?_ ?_
    · intro r hr
      have e : r = decide ((1 : Int) ≤ C.length ∧ (C.length : Int) ≤ 4) := by
        rw [Bool.eq_iff_iff, hr, decide_eq_true_iff]; simp; omega
      rw [e]
      exact Ev.step (f := fun _ => some (decide ((1 : Int) ≤ C.length ∧ (C.length : Int) ≤ 4))) (fun q => by simp only [woggleref02_Costs.l0]; rw [if_neg (by omega), in_f]; rfl) (Ev.now _)
    · intro j h0 h1 ih r hr
      have hd : C.drop j = C[j] :: C.drop (j + 1) := List.drop_eq_getElem_cons h1
      rw [hd] at hr
      simp only [List.mem_cons, forall_eq_or_imp] at hr
      have eR := rd_L3_nat C j h1
      generalize eRow : C[j] = row at hr eR
      by_cases cl : row.length = C.length
      rotate_left
      · have e : r = false := Bool.eq_false_iff.2 fun h => cl (hr.1 h).1.1.1
        rw [e]
        exact Ev.step (f := fun _ => some false) (fun q => by simp only [woggleref02_Costs.l0]; rw [if_pos (by omega), if_pos (by omega), eR, if_neg (by omega)]) (Ev.now _)
      have inner : ∀ i, i ≤ row.length → ∀ r : Bool, (r = true ↔ ((∀ c ∈ row.drop i, 0 ≤ c ∧ c ≤ 100) ∧ ∀ a ∈ C.drop (j + 1), a.length = C.length ∧ ∀ c ∈ a, 0 ≤ c ∧ c ≤ 100) ∧ 1 ≤ C.length ∧ C.length ≤ 4) → Ev (fun q => woggleref02_Costs.l1 q C (j : Int) (i : Int)) r := by
        intro i hi
        refine up_from (fun i => ∀ r : Bool, (r = true ↔ ((∀ c ∈ row.drop i, 0 ≤ c ∧ c ≤ 100) ∧ ∀ a ∈ C.drop (j + 1), a.length = C.length ∧ ∀ c ∈ a, 0 ≤ c ∧ c ≤ 100) ∧ 1 ≤ C.length ∧ C.length ≤ 4) → Ev (fun q => woggleref02_Costs.l1 q C (j : Int) (i : Int)) r) i row.length hi ?_ ?_
        · intro r hr
          refine Ev.step (f := fun q => woggleref02_Costs.l0 q C ((j + 1 : Nat) : Int)) (fun q => by simp only [woggleref02_Costs.l1]; rw [if_neg (by omega), succ_w j (by omega)]) (ih r ?_)
          rw [hr]; simp
        · intro m g0 g1 ihm r hr
          have hd : row.drop m = row[m] :: row.drop (m + 1) := List.drop_eq_getElem_cons g1
          rw [hd] at hr
          simp only [List.mem_cons, forall_eq_or_imp] at hr
          by_cases c : 0 ≤ row[m] ∧ row[m] ≤ 100
          · refine Ev.step (f := fun q => woggleref02_Costs.l1 q C (j : Int) ((m + 1 : Nat) : Int)) (fun q => by simp only [woggleref02_Costs.l1]; rw [if_pos (by omega), if_pos (by omega), if_pos (by omega), if_pos (by omega), eR, if_pos (by omega), rd_nat row m g1, in_f, decide_eq_true c, succ_w m (by omega)]; rfl) (ihm r ?_)
            rw [hr]
            exact ⟨fun h => ⟨⟨h.1.1.2, h.1.2⟩, h.2⟩, fun h => ⟨⟨⟨c, h.1.1⟩, h.1.2⟩, h.2⟩⟩
          · have e : r = false := Bool.eq_false_iff.2 fun h => c (hr.1 h).1.1.1
            rw [e]
            exact Ev.step (f := fun _ => some false) (fun q => by simp only [woggleref02_Costs.l1]; rw [if_pos (by omega), if_pos (by omega), if_pos (by omega), if_pos (by omega), eR, if_pos (by omega), rd_nat row m g1, in_f, decide_eq_false c]; rfl) (Ev.now _)
      refine Ev.step (f := fun q => woggleref02_Costs.l1 q C (j : Int) ((0 : Nat) : Int)) (fun q => by simp only [woggleref02_Costs.l0]; rw [if_pos (by omega), if_pos (by omega), eR, if_pos (by omega)]; rfl) (inner 0 (Nat.zero_le _) r ?_)
      rw [hr, List.drop_zero]
      exact ⟨fun h => ⟨⟨h.1.1.2, h.1.2⟩, h.2⟩, fun h => ⟨⟨⟨cl, h.1.1⟩, h.1.2⟩, h.2⟩⟩
  exact key 0 (Nat.zero_le _) _ (by rw [decide_eq_true_iff]; rfl)
theorem badRow_iff (k : Nat) (row : List Int) : badRow k row = false ↔ row.length = k ∧ ∀ c ∈ row, 0 ≤ c ∧ c ≤ 100 := by
  unfold badRow
  rw [Bool.or_eq_false_iff, bne_eq_false_iff_eq, List.any_eq_false]
  constructor
  · intro ⟨a, b⟩
    refine ⟨by omega, fun c hc => ?_⟩
    have := b c hc
    simp [badCost] at this
    omega
  · intro ⟨a, b⟩
    refine ⟨by omega, fun c hc => ?_⟩
    have := b c hc
    simp [badCost]
    omega
theorem costs_iff (C : List (List Int)) : (C.any (badRow C.length) = false ∧ 1 ≤ C.length ∧ C.length ≤ 4) ↔ CostsOk C := by
  unfold CostsOk
  rw [List.any_eq_false]
  refine and_congr ?_ Iff.rfl
  exact forall_congr' fun row => forall_congr' fun _ => by rw [Bool.not_eq_true, badRow_iff]
open Classical in
/-- The error of arguments, as the document has it. -/
noncomputable def errOf (n : Int) (J : List S67) (C : List (List Int)) (L : List Int) : Int := if TreeOk n J ∧ CostsOk C then (if StatesOk n C.length L then 0 else 2) else 1
theorem errOf_1 {n : Int} {J : List S67} {C : List (List Int)} {L : List Int} (h : ¬ (TreeOk n J ∧ CostsOk C)) : errOf n J C L = 1 := if_neg h
theorem errOf_0 {n : Int} {J : List S67} {C : List (List Int)} {L : List Int} (h : TreeOk n J) (h1 : CostsOk C) (h2 : StatesOk n C.length L) : errOf n J C L = 0 := (if_pos ⟨h, h1⟩).trans (if_pos h2)
theorem errOf_2 {n : Int} {J : List S67} {C : List (List Int)} {L : List Int} (h : TreeOk n J) (h1 : CostsOk C) (h2 : ¬ StatesOk n C.length L) : errOf n J C L = 2 := (if_pos ⟨h, h1⟩).trans (if_neg h2)
theorem errOf_zero {n : Int} {J : List S67} {C : List (List Int)} {L : List Int} (h : errOf n J C L = 0) : TreeOk n J ∧ CostsOk C ∧ StatesOk n C.length L := by
  by_cases c : TreeOk n J ∧ CostsOk C
  · by_cases d : StatesOk n C.length L
    · exact ⟨c.1, c.2, d⟩
    · rw [errOf_2 c.1 c.2 d] at h; exact absurd h (by decide)
  · rw [errOf_1 c] at h; exact absurd h (by decide)
open Classical in
theorem read_ev (n : Int) (J : List S67) (C : List (List Int)) (L : List Int) (hJ : J.length ≤ 99) : Ev (fun k => readErr k n J C L) (errOf n J C L) := by
  unfold readErr
  refine Ev.bind (tree_ev n J hJ) ?_
  by_cases c0 : TreeOk n J
  rotate_left
  · rw [errOf_1 (fun h => c0 h.1), decide_eq_false c0]
    exact Ev.congr (f := fun _ => some 1) (fun _ => if_neg (by decide)) (Ev.now _)
  rw [decide_eq_true c0]
  refine Ev.congr (f := fun _ => if (C.length : Int) < 1 then some 1 else if (C.length : Int) > 4 then some 1 else if C.any (badRow C.length) = true then some 1 else (track_states.f L n C.length).bind fun s => if s = true then some 0 else some 2) (fun _ => if_pos rfl) (ev_val ?_)
  by_cases c1 : CostsOk C
  · have h1 := (costs_iff C).2 c1
    rw [if_neg (show ¬ (C.length : Int) < 1 by omega), if_neg (show ¬ (C.length : Int) > 4 by omega), if_neg (show ¬ C.any (badRow C.length) = true by rw [h1.1]; decide), states_f]
    by_cases c2 : StatesOk n C.length L
    · rw [decide_eq_true c2, errOf_0 c0 c1 c2]; rfl
    · rw [decide_eq_false c2, errOf_2 c0 c1 c2]; rfl
  · rw [errOf_1 (fun h => c1 h.2)]
    by_cases d1 : (C.length : Int) < 1
    · rw [if_pos d1]
    rw [if_neg d1]
    by_cases d2 : (C.length : Int) > 4
    · rw [if_pos d2]
    rw [if_neg d2, if_pos]
    have := mt (costs_iff C).1 c1
    rw [← Bool.not_eq_false]
    exact fun h => this ⟨h, by omega, by omega⟩
open Classical in
theorem why_ev (n : Int) (J : List S67) (C : List (List Int)) (L : List Int) (hC : C.length ≤ 1000) (hL : L.length ≤ 1000) : Ev (fun k => wogglelaw02_why.f k n J C L) (errOf n J C L) := by
  unfold wogglelaw02_why.f
  refine Ev.bind (rtree_ev n J) ?_
  have one : Ev (fun k => wogglelaw02_why.j0 k n C L true) 1 := Ev.step (f := fun _ => some 1) (fun k => by simp only [wogglelaw02_why.j0]; rw [if_pos trivial]) (Ev.now _)
  by_cases c0 : TreeOk n J
  rotate_left
  · rw [errOf_1 (fun h => c0 h.1), decide_eq_false c0]
    exact Ev.congr (f := fun k => wogglelaw02_why.j0 k n C L true) (fun _ => if_neg (by decide)) one
  rw [decide_eq_true c0]
  refine Ev.congr (f := fun k => (woggleref02_Costs.f k C).bind fun t => wogglelaw02_why.j0 k n C L (!t)) (fun _ => if_pos rfl) (Ev.bind (rcosts_ev C hC) ?_)
  by_cases c1 : CostsOk C
  rotate_left
  · rw [decide_eq_false c1, errOf_1 (fun h => c1 h.2)]; exact one
  rw [decide_eq_true c1]
  refine Ev.step (f := fun k => (woggleref02_States.f k n (C.length : Int) L).bind fun t => if t = true then some 0 else some 2) (fun k => by simp only [wogglelaw02_why.j0]; rw [if_neg (by decide)]) (Ev.bind (rstates_ev n C.length L (by omega) (by omega) (by omega)) ?_)
  by_cases c2 : StatesOk n C.length L
  · rw [decide_eq_true c2, errOf_0 c0 c1 c2]; exact ev_val rfl
  · rw [decide_eq_false c2, errOf_2 c0 c1 c2]; exact ev_val rfl
/-- The joins of a valid tree. -/
theorem valid_of {n : Nat} {J : List S67} (h : TreeOk n J) : TT.Valid n (fun i => (rd_T67 J i).f0.toNat) (fun i => (rd_T67 J i).f1.toNat) J.length := by
  have key : ∀ m, m ≤ J.length → (∀ v : Nat, v ∈ TT.rootsTo n (fun i => (rd_T67 J i).f0.toNat) (fun i => (rd_T67 J i).f1.toNat) m ↔ v < n + m ∧ (v : Int) ∉ usedTo J m) ∧ (TT.rootsTo n (fun i => (rd_T67 J i).f0.toNat) (fun i => (rd_T67 J i).f1.toNat) m).Nodup := by
    intro m
    induction m with
    | zero => intro _; exact ⟨fun v => by simp [TT.rootsTo, usedTo], List.nodup_range⟩
    | succ m ih =>
      intro hm
      obtain ⟨i1, i2⟩ := ih (by omega)
      obtain ⟨⟨a0, a1, a2⟩, b0, b1, b2⟩ := h.2.2.2 m (by omega)
      simp only [TT.rootsTo, usedTo]
      generalize (rd_T67 J m).f0 = a at *
      generalize (rd_T67 J m).f1 = b at *
      generalize TT.rootsTo n (fun i => (rd_T67 J i).f0.toNat) (fun i => (rd_T67 J i).f1.toNat) m = R at *
      have n1 : (R.erase a.toNat).Nodup := i2.erase _
      constructor
      · intro v
        rw [List.mem_append, n1.mem_erase_iff, i2.mem_erase_iff, i1, List.mem_singleton]
        simp only [List.mem_append, List.mem_singleton, not_or]
        have hu : ∀ m, m ≤ J.length → ∀ x ∈ usedTo J m, x < n + m := by
          intro m
          induction m with
          | zero => intro _ x hx; simp [usedTo] at hx
          | succ m ihm =>
            intro hm' x hx
            obtain ⟨⟨p0, p1, p2⟩, q0, q1, q2⟩ := h.2.2.2 m (by omega)
            simp only [usedTo, List.mem_append, List.mem_singleton] at hx
            rcases hx with (hx | hx) | hx
            · have := ihm (by omega) x hx; omega
            · omega
            · omega
        constructor
        · rintro (⟨h1, h2, h3, h4⟩ | h1)
          · exact ⟨by omega, ⟨h4, by omega⟩, by omega⟩
          · refine ⟨by omega, ⟨fun hx => ?_, by omega⟩, by omega⟩
            have := hu m (by omega) _ hx; omega
        · rintro ⟨h1, ⟨h2, h3⟩, h4⟩
          by_cases e : v = n + m
          · exact .inr e
          · exact .inl ⟨by omega, by omega, by omega, h2⟩
      · rw [List.nodup_append]
        refine ⟨n1.erase _, by simp, fun x hx y hy => ?_⟩
        rw [List.mem_singleton] at hy
        have := (i1 x).1 (List.mem_of_mem_erase (List.mem_of_mem_erase hx))
        omega
  intro i hi
  obtain ⟨k1, _⟩ := key i (by omega)
  obtain ⟨⟨a0, a1, a2⟩, b0, b1, b2⟩ := h.2.2.2 i hi
  simp only [List.mem_append, List.mem_singleton, not_or] at b2
  refine ⟨(k1 _).2 ⟨by show (rd_T67 J i).f0.toNat < _; omega, by show ((rd_T67 J i).f0.toNat : Int) ∉ _; rw [Int.toNat_of_nonneg a0]; exact a2⟩, (k1 _).2 ⟨by show (rd_T67 J i).f1.toNat < _; omega, by show ((rd_T67 J i).f1.toNat : Int) ∉ _; rw [Int.toNat_of_nonneg b0]; exact b2.1⟩, ?_⟩
  show (rd_T67 J i).f0.toNat ≠ (rd_T67 J i).f1.toNat
  omega
end Go.Proofs.Ytcphmeeighhdjaa.Pure
