/- Plain theory for unit costs: the least cost is at least the number of different states less one, and at most the number of leaves of another state. -/
import Derived.Test.YtcphmeeighhdjaaRB
namespace Go.Proofs.Ytcphmeeighhdjaa.TT
set_option linter.unusedVariables false

def cnt (P : Nat → Bool) : Nat → Nat
  | 0 => 0
  | m + 1 => cnt P m + if P m then 1 else 0
theorem cnt_mono (P Q : Nat → Bool) (m : Nat) (h : ∀ s, s < m → P s = true → Q s = true) : cnt P m ≤ cnt Q m := by
  induction m with
  | zero => exact Nat.le_refl _
  | succ m ih =>
    have i := ih (fun s hs => h s (by omega))
    have hm := h m (by omega)
    simp only [cnt]
    by_cases p : P m = true
    · rw [if_pos p, if_pos (hm p)]; omega
    · rw [if_neg p]; split <;> omega
theorem cnt_pos (P : Nat → Bool) (m a : Nat) (ha : a < m) (h : P a = true) : 1 ≤ cnt P m := by
  induction m with
  | zero => omega
  | succ m ih =>
    simp only [cnt]
    by_cases e : a = m
    · subst e; rw [if_pos h]; omega
    · have := ih (by omega); omega
theorem cnt_or_and (P Q : Nat → Bool) (m : Nat) : cnt (fun s => P s || Q s) m + cnt (fun s => P s && Q s) m = cnt P m + cnt Q m := by
  induction m with
  | zero => rfl
  | succ m ih =>
    simp only [cnt]
    rcases Bool.eq_false_or_eq_true (P m) with p | p <;> rcases Bool.eq_false_or_eq_true (Q m) with q | q <;> simp [p, q] <;> omega
theorem cnt_add (P : Nat → Bool) (m a : Nat) : cnt (fun s => P s || decide (s = a)) m ≤ cnt P m + 1 := by
  have h := cnt_or_and P (fun s => decide (s = a)) m
  have one : ∀ m, cnt (fun s => decide (s = a)) m ≤ if a < m then 1 else 0 := by
    intro m
    induction m with
    | zero => simp [cnt]
    | succ m ih =>
      simp only [cnt]
      by_cases e : m = a
      · subst e
        rw [if_neg (by omega)] at ih
        simp; omega
      · simp only [e, decide_false, Bool.false_eq_true, if_false]
        by_cases c : a < m
        · rw [if_pos c] at ih; rw [if_pos (by omega)]; omega
        · rw [if_neg c] at ih; omega
  have := one m
  split at this <;> omega
/-- The states of a tree's leaves and of its top. -/
def seenIn (L x : Nat → Nat) (t : T) (s : Nat) : Bool := decide (s = top L x t) || t.leaves.any (fun v => decide (s = L v))
section
variable (C : Nat → Nat → Int) (k : Nat) (L x : Nat → Nat)
def UnitC : Prop := ∀ a b, a < k → b < k → C a b = if a = b then 0 else 1
theorem seen_le (hC : UnitC C k) (t : T) (hL : ∀ v ∈ t.leaves, L v < k) (hx : ∀ i ∈ t.idx, x i < k) : top L x t < k ∧ (cnt (seenIn L x t) k : Int) ≤ sub C L x t + 1 := by
  induction t with
  | leaf v =>
    refine ⟨hL v (by simp [T.leaves]), ?_⟩
    have h1 := cnt_mono (seenIn L x (.leaf v)) (fun s => false || decide (s = L v)) k (fun s _ h => by simp only [seenIn, T.leaves, top, List.any_cons, List.any_nil, Bool.or_false] at h; rw [Bool.false_or]; first | exact h | (rw [Bool.or_eq_true] at h; rcases h with h | h <;> exact h))
    have h2 := cnt_add (fun _ => false) k (L v)
    have h3 : ∀ m, cnt (fun _ => false) m = 0 := by intro m; induction m with | zero => rfl | succ m ih => simp [cnt, ih]
    rw [h3] at h2
    simp only [sub]
    omega
  | node i l r ihl ihr =>
    have hi := hx i (by simp [T.idx])
    obtain ⟨tl, cl⟩ := ihl (fun v hv => hL v (by simp [T.leaves, hv])) (fun j hj => hx j (by simp [T.idx, hj]))
    obtain ⟨tr, cr⟩ := ihr (fun v hv => hL v (by simp [T.leaves, hv])) (fun j hj => hx j (by simp [T.idx, hj]))
    refine ⟨hi, ?_⟩
    have side : ∀ t : T, top L x t < k → (cnt (fun s => seenIn L x t s || decide (s = x i)) k : Int) ≤ cnt (seenIn L x t) k + C (x i) (top L x t) := by
      intro t ht
      rw [hC _ _ hi ht]
      by_cases e : x i = top L x t
      · rw [if_pos e]
        have := cnt_mono (fun s => seenIn L x t s || decide (s = x i)) (seenIn L x t) k (fun s _ h => by
          rw [Bool.or_eq_true] at h
          rcases h with h | h
          · exact h
          · unfold seenIn; rw [Bool.or_eq_true]; left; rw [decide_eq_true_eq] at h ⊢; rw [h, e])
        omega
      · rw [if_neg e]
        have := cnt_add (seenIn L x t) k (x i)
        omega
    have s1 := side l tl
    have s2 := side r tr
    have h1 := cnt_or_and (fun s => seenIn L x l s || decide (s = x i)) (fun s => seenIn L x r s || decide (s = x i)) k
    have h2 := cnt_pos (fun s => (seenIn L x l s || decide (s = x i)) && (seenIn L x r s || decide (s = x i))) k (x i) hi (by simp)
    have h3 := cnt_mono (seenIn L x (.node i l r)) (fun s => (seenIn L x l s || decide (s = x i)) || (seenIn L x r s || decide (s = x i))) k (fun s _ h => by
      unfold seenIn at h
      rw [Bool.or_eq_true, decide_eq_true_eq] at h
      rcases h with h | h
      · have e : s = x i := h
        simp [e]
      · simp only [T.leaves, List.any_append, Bool.or_eq_true] at h
        unfold seenIn
        rcases h with h | h <;> simp [h])
    simp only [sub]
    omega
/-- With one state in all joins the cost is the number of leaves of another state. -/
theorem const_sub (hC : UnitC C k) (m : Nat) (hm : m < k) (t : T) (hL : ∀ v ∈ t.leaves, L v < k) :
    (if top L (fun _ => m) t = m then 0 else 1) + sub C L (fun _ => m) t = isum (fun v => if L v = m then 0 else 1) t.leaves := by
  induction t with
  | leaf v => by_cases e : L v = m <;> simp [top, sub, T.leaves, isum, e]
  | node i l r ihl ihr =>
    have il := ihl (fun v hv => hL v (by simp [T.leaves, hv]))
    have ir := ihr (fun v hv => hL v (by simp [T.leaves, hv]))
    have tl : top L (fun _ => m) l < k := by
      cases l with
      | leaf v => exact hL v (by simp [T.leaves])
      | node j a b => exact hm
    have tr : top L (fun _ => m) r < k := by
      cases r with
      | leaf v => exact hL v (by simp [T.leaves])
      | node j a b => exact hm
    simp only [T.leaves, isum_append, ← il, ← ir, sub]
    have key : ∀ a, a < k → C m a = if a = m then 0 else 1 := by
      intro a ha
      rw [hC m a hm ha]
      by_cases e : m = a
      · rw [if_pos e, if_pos e.symm]
      · rw [if_neg e, if_neg (fun h => e h.symm)]
    rw [key _ tl, key _ tr]
    have e0 : top L (fun _ => m) (T.node i l r) = m := rfl
    rw [if_pos e0]
    omega
end
end Go.Proofs.Ytcphmeeighhdjaa.TT
