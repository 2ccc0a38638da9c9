/- Plain facts: moving the root of a tree over one join: the moved joins are a tree, and with metric costs the least cost is the same. -/
import Derived.Test.YtcphmeeighhdjaaRL
namespace Go.Proofs.Ytcphmeeighhdjaa.Pure
open Go Go.Proofs Go.RowKit Go.Proofs.Ytcphmeeighhdjaa.P Go.Proofs.YtcphmeeighhdjaaW.PrintWords Go.Proofs.YtcphmeeighhdjaaW.PrintLast
set_option linter.unusedVariables false
/-! ### sums -/
def sm (f : Nat → Int) : Nat → Int
  | 0 => 0
  | m + 1 => sm f m + f m
theorem sm_congr {f g : Nat → Int} : ∀ {m : Nat}, (∀ i, i < m → f i = g i) → sm f m = sm g m
  | 0, _ => rfl
  | m + 1, h => by
    show sm f m + f m = sm g m + g m
    rw [sm_congr (m := m) fun i hi => h i (by omega), h m (by omega)]
theorem sm_skip {f g : Nat → Int} {a : Nat} (h1 : ∀ i, i < a → g i = f i) (h2 : ∀ i, a ≤ i → g i = f (i + 1)) : ∀ m, a ≤ m → sm f (m + 1) = sm g m + f a
  | 0, h => by
    obtain rfl : a = 0 := by omega
    rfl
  | m + 1, h => by
    by_cases e : a = m + 1
    · subst e
      show sm f (m + 1) + f (m + 1) = _
      rw [sm_congr (g := g) fun i hi => (h1 i hi).symm]
    · have ih := sm_skip h1 h2 m (by omega)
      show sm f (m + 1) + f (m + 1) = sm g m + g m + f a
      rw [ih, h2 m (by omega)]
      omega
theorem total_sm (n : Nat) (A B : Nat → Nat) (C : Nat → Nat → Int) (L x : Nat → Nat) : ∀ m, TT.total n A B C L x m = sm (TT.edge n A B C L x) m
  | 0 => rfl
  | m + 1 => by
    show TT.total n A B C L x m + _ = sm _ m + _
    rw [total_sm n A B C L x m]
/-! ### the moved joins, by their children -/
/-- The number of a node once the node inner is gone. -/
def nm (inner v : Nat) : Nat := if inner < v then v - 1 else v
section
variable {n last a : Nat} {A B A' B' : Nat → Nat} {C : Nat → Nat → Int} {k : Nat} {L : Nat → Nat} {O : Nat}
/-- What moving does to the children; O is the root's other child. -/
structure Moved (n last a : Nat) (A B A' B' : Nat → Nat) (O : Nat) : Prop where
  ha : a < last
  low : ∀ i, i < a → A' i = nm (n + a) (A i) ∧ B' i = nm (n + a) (B i)
  up : ∀ i, a ≤ i → i + 1 < last → A' i = nm (n + a) (A (i + 1)) ∧ B' i = nm (n + a) (B (i + 1))
  x : A' (last - 1) = nm (n + a) (B a) ∧ B' (last - 1) = nm (n + a) O
  r : A' last = nm (n + a) (A a) ∧ B' last = n + last - 1
  root : A last = n + a ∧ B last = O ∨ B last = n + a ∧ A last = O
  lt : ∀ i, i ≤ last → A i < n + i ∧ B i < n + i
  ne : ∀ i, i < last → A i ≠ n + a ∧ B i ≠ n + a
  one : O ≠ n + a
/-- The metric costs. -/
structure Metric (C : Nat → Nat → Int) (k : Nat) : Prop where
  sy : ∀ p q, p < k → q < k → C p q = C q p
  dg : ∀ p, p < k → C p p = 0
  tri : ∀ p q r, p < k → q < k → r < k → C p r ≤ C p q + C q r
theorem st_nm {x y : Nat → Nat} (hy1 : ∀ i, i < a → y i = x i) (hy2 : ∀ i, a ≤ i → i + 1 < last → y i = x (i + 1)) {v : Nat} (hv : v < n + last) (hne : v ≠ n + a) : TT.st n L y (nm (n + a) v) = TT.st n L x v := by
  unfold TT.st nm
  by_cases h1 : n + a < v
  · rw [if_pos h1, if_neg (by omega), if_neg (by omega), hy2 (v - 1 - n) (by omega) (by omega)]
    congr 1
    omega
  · rw [if_neg h1]
    by_cases h2 : v < n
    · rw [if_pos h2, if_pos h2]
    · rw [if_neg h2, if_neg h2, hy1 (v - n) (by omega)]
/-- Without the two joins at the root: the same sum. -/
theorem rest_eq (h : Moved n last a A B A' B' O) {x y : Nat → Nat} (hy1 : ∀ i, i < a → y i = x i) (hy2 : ∀ i, a ≤ i → i + 1 < last → y i = x (i + 1)) :
    TT.total n A B C L x (last + 1) = sm (TT.edge n A' B' C L y) (last - 1) + TT.edge n A B C L x a + TT.edge n A B C L x last := by
  rw [total_sm]
  have hl := h.ha
  show sm (TT.edge n A B C L x) last + _ = _
  have e : sm (TT.edge n A B C L x) (last - 1 + 1) = sm (fun i => if i < a then TT.edge n A B C L x i else TT.edge n A B C L x (i + 1)) (last - 1) + TT.edge n A B C L x a :=
    sm_skip (f := TT.edge n A B C L x) (g := fun i => if i < a then TT.edge n A B C L x i else TT.edge n A B C L x (i + 1)) (a := a) (fun i hi => if_pos hi) (fun i hi => if_neg (by omega)) (last - 1) (by omega)
  rw [show last - 1 + 1 = last by omega] at e
  rw [e]
  congr 2
  refine sm_congr fun i hi => ?_
  by_cases c : i < a
  · rw [if_pos c]
    have hlt := h.lt i (by omega)
    have hne := h.ne i (by omega)
    unfold TT.edge
    rw [(h.low i c).1, (h.low i c).2, st_nm hy1 hy2 (by omega) hne.1, st_nm hy1 hy2 (by omega) hne.2, hy1 i c]
  · rw [if_neg c]
    have hlt := h.lt (i + 1) (by omega)
    have hne := h.ne (i + 1) (by omega)
    unfold TT.edge
    rw [(h.up i (by omega) (by omega)).1, (h.up i (by omega) (by omega)).2, st_nm hy1 hy2 (by omega) hne.1, st_nm hy1 hy2 (by omega) hne.2, hy2 i (by omega) (by omega)]
theorem moved_total (h : Moved n last a A B A' B' O) (y : Nat → Nat) : TT.total n A' B' C L y (last + 1) = sm (TT.edge n A' B' C L y) (last - 1) + TT.edge n A' B' C L y (last - 1) + TT.edge n A' B' C L y last := by
  rw [total_sm]
  have hl := h.ha
  show sm _ last + _ = _
  congr 1
  have : last = last - 1 + 1 := by omega
  rw [this]
  rfl
/-- From a labeling to one of the moved tree. -/
theorem to_moved (hn : 0 < n) (h : Moved n last a A B A' B' O) (hM : Metric C k) (hL : ∀ v, v < n → L v < k) (x : Nat → Nat) (hx : ∀ i, i < last + 1 → x i < k) :
    ∃ y : Nat → Nat, (∀ i, i < last + 1 → y i < k) ∧ TT.total n A' B' C L y (last + 1) ≤ TT.total n A B C L x (last + 1) := by
  have hl := h.ha
  have hst : ∀ v, v < n + last + 1 → TT.st n L x v < k := fun v hv => by
    unfold TT.st
    by_cases c : v < n
    · rw [if_pos c]; exact hL v c
    · rw [if_neg c]; exact hx _ (by omega)
  refine ⟨fun i => if i < a then x i else if i + 1 < last then x (i + 1) else x a, fun i hi => ?_, ?_⟩
  · simp only []
    split
    · exact hx i (by omega)
    · split
      · exact hx _ (by omega)
      · exact hx a (by omega)
  · have hy1 : ∀ i, i < a → (fun i => if i < a then x i else if i + 1 < last then x (i + 1) else x a) i = x i := fun i hi => if_pos hi
    have hy2 : ∀ i, a ≤ i → i + 1 < last → (fun i => if i < a then x i else if i + 1 < last then x (i + 1) else x a) i = x (i + 1) := fun i h1 h2 => by
      simp only []
      rw [if_neg (by omega), if_pos h2]
    have ya : (fun i => if i < a then x i else if i + 1 < last then x (i + 1) else x a) (last - 1) = x a := by
      simp only []
      rw [if_neg (by omega), if_neg (by omega)]
    have yl : (fun i => if i < a then x i else if i + 1 < last then x (i + 1) else x a) last = x a := by
      simp only []
      rw [if_neg (by omega), if_neg (by omega)]
    rw [rest_eq (C := C) (L := L) h hy1 hy2, moved_total h]
    generalize hy : (fun i => if i < a then x i else if i + 1 < last then x (i + 1) else x a) = y at *
    have la := h.lt a (by omega)
    have ll := h.lt last (Nat.le_refl _)
    have na := h.ne a hl
    have hO : O < n + last := by rcases h.root with r | r <;> omega
    have e1 : TT.edge n A' B' C L y (last - 1) = C (x a) (TT.st n L x (B a)) + C (x a) (TT.st n L x O) := by
      unfold TT.edge
      rw [h.x.1, h.x.2, st_nm hy1 hy2 (by omega) na.2, st_nm hy1 hy2 hO h.one, ya]
    have e2 : TT.edge n A' B' C L y last = C (x a) (TT.st n L x (A a)) + C (x a) (x a) := by
      unfold TT.edge
      rw [h.r.1, h.r.2, st_nm hy1 hy2 (by omega) na.1, yl]
      congr 2
      unfold TT.st
      rw [if_neg (by omega), show n + last - 1 - n = last - 1 by omega, ya]
    have e3 : TT.edge n A B C L x a = C (x a) (TT.st n L x (A a)) + C (x a) (TT.st n L x (B a)) := rfl
    have hxa := hx a (by omega)
    have hxl := hx last (by omega)
    have hso := hst O (by omega)
    have e4 : TT.edge n A B C L x last = C (x last) (x a) + C (x last) (TT.st n L x O) := by
      have si : TT.st n L x (n + a) = x a := by unfold TT.st; rw [if_neg (by omega), show n + a - n = a by omega]
      unfold TT.edge
      rcases h.root with ⟨r1, r2⟩ | ⟨r1, r2⟩
      · rw [r1, r2, si]
      · rw [r1, r2, si]; omega
    rw [e1, e2, e3, e4, hM.dg _ hxa]
    have t := hM.tri (x a) (x last) (TT.st n L x O) hxa hxl hso
    have s := hM.sy (x a) (x last) hxa hxl
    omega
/-- From a labeling of the moved tree to one of the tree. -/
theorem from_moved (hn : 0 < n) (h : Moved n last a A B A' B' O) (hM : Metric C k) (hL : ∀ v, v < n → L v < k) (y : Nat → Nat) (hy : ∀ i, i < last + 1 → y i < k) :
    ∃ x : Nat → Nat, (∀ i, i < last + 1 → x i < k) ∧ TT.total n A B C L x (last + 1) ≤ TT.total n A' B' C L y (last + 1) := by
  have hl := h.ha
  refine ⟨fun i => if i < a then y i else if i = a then y (last - 1) else if i < last then y (i - 1) else y (last - 1), fun i hi => ?_, ?_⟩
  · simp only []
    split
    · exact hy i (by omega)
    · split
      · exact hy _ (by omega)
      · split <;> exact hy _ (by omega)
  · generalize hx : (fun i => if i < a then y i else if i = a then y (last - 1) else if i < last then y (i - 1) else y (last - 1)) = x
    have hy1 : ∀ i, i < a → y i = x i := fun i hi => by rw [← hx]; simp only []; rw [if_pos hi]
    have hy2 : ∀ i, a ≤ i → i + 1 < last → y i = x (i + 1) := fun i h1 h2 => by
      rw [← hx]; simp only []
      rw [if_neg (by omega), if_neg (by omega), if_pos h2]; rfl
    have xa : x a = y (last - 1) := by rw [← hx]; simp only []; rw [if_neg (by omega), if_pos trivial]
    have xl : x last = y (last - 1) := by rw [← hx]; simp only []; rw [if_neg (by omega), if_neg (by omega), if_neg (by omega)]
    rw [rest_eq (C := C) (L := L) h hy1 hy2, moved_total h]
    have hxk : ∀ i, i < last + 1 → x i < k := fun i hi => by
      rw [← hx]; simp only []
      split
      · exact hy i (by omega)
      · split
        · exact hy _ (by omega)
        · split <;> exact hy _ (by omega)
    have hst : ∀ v, v < n + last + 1 → TT.st n L x v < k := fun v hv => by
      unfold TT.st
      by_cases c : v < n
      · rw [if_pos c]; exact hL v c
      · rw [if_neg c]; exact hxk _ (by omega)
    have la := h.lt a (by omega)
    have ll := h.lt last (Nat.le_refl _)
    have na := h.ne a hl
    have hO : O < n + last := by rcases h.root with r | r <;> omega
    have e1 : TT.edge n A' B' C L y (last - 1) = C (y (last - 1)) (TT.st n L x (B a)) + C (y (last - 1)) (TT.st n L x O) := by
      unfold TT.edge
      rw [h.x.1, h.x.2, st_nm hy1 hy2 (by omega) na.2, st_nm hy1 hy2 hO h.one]
    have e2 : TT.edge n A' B' C L y last = C (y last) (TT.st n L x (A a)) + C (y last) (y (last - 1)) := by
      unfold TT.edge
      rw [h.r.1, h.r.2, st_nm hy1 hy2 (by omega) na.1]
      congr 2
      unfold TT.st
      rw [if_neg (by omega), show n + last - 1 - n = last - 1 by omega]
    have e3 : TT.edge n A B C L x a = C (y (last - 1)) (TT.st n L x (A a)) + C (y (last - 1)) (TT.st n L x (B a)) := by
      unfold TT.edge
      rw [xa]
    have e4 : TT.edge n A B C L x last = C (y (last - 1)) (y (last - 1)) + C (y (last - 1)) (TT.st n L x O) := by
      have si : TT.st n L x (n + a) = y (last - 1) := by unfold TT.st; rw [if_neg (by omega), show n + a - n = a by omega, xa]
      unfold TT.edge
      rcases h.root with ⟨r1, r2⟩ | ⟨r1, r2⟩
      · rw [r1, r2, si, xl]
      · rw [r1, r2, si, xl]; omega
    have k1 := hy (last - 1) (by omega)
    have k2 := hy last (by omega)
    have k3 := hst (A a) (by omega)
    rw [e1, e2, e3, e4, hM.dg _ k1]
    have t := hM.tri (y (last - 1)) (y last) (TT.st n L x (A a)) k1 k2 k3
    have s := hM.sy (y (last - 1)) (y last) k1 k2
    omega
end
end Go.Proofs.Ytcphmeeighhdjaa.Pure
