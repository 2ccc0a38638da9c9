/- What hat.Line answers, in plain Lean, for 2 to 4 colours and 1 to 12 hats of these colours. -/
import Derived.Test.YtgjmfehdjbepiaaR0
namespace Go.Proofs.Ytgjmfehdjbepiaa.Pure
open Go Go.Proofs Go.RowKit Go.Proofs.Ytgjmfehdjbepiaa.P Go.Proofs.YtgjmfehdjbepiaaW.PrintWords Go.Proofs.YtgjmfehdjbepiaaW.PrintLast
set_option maxRecDepth 100000

theorem added_l0 (l : List Int) (hl : l.length ≤ 1000) (hb : ∀ x ∈ l, -1000 ≤ x ∧ x ≤ 1000) (m : Nat) : ∀ (i k : Nat) (s : Int), i + m = l.length → m < k → -1000 * (i : Int) ≤ s → s ≤ 1000 * (i : Int) →
    hat_added.l0 k s l l.length i = some (s + (l.drop i).sum) := by
  induction m with
  | zero =>
    intro i k s h hk _ _
    obtain ⟨k, rfl⟩ : ∃ j, k = j + 1 := ⟨k - 1, by omega⟩
    rw [hat_added.l0, if_neg (by omega), List.drop_of_length_le (by omega)]; simp
  | succ m ih =>
    intro i k s h hk h1 h2
    obtain ⟨k, rfl⟩ : ∃ j, k = j + 1 := ⟨k - 1, by omega⟩
    have hi : i < l.length := by omega
    have hx := hb l[i] (List.getElem_mem hi)
    rw [hat_added.l0, if_pos (by omega), if_pos (by omega), if_pos (by omega), rd_nat l i hi, succ_w i (by omega), IntWalk.wrap64_in _ (by omega), ih (i + 1) k _ (by omega) (by omega) (by omega) (by omega),
      List.drop_eq_getElem_cons hi, List.sum_cons, Int.add_assoc]
theorem added_f (l : List Int) (hl : l.length ≤ 1000) (hb : ∀ x ∈ l, -1000 ≤ x ∧ x ≤ 1000) (k : Nat) (hk : l.length < k) : hat_added.f k l = some l.sum := by
  have := added_l0 l hl hb l.length 0 k 0 (by omega) hk (by omega) (by omega)
  rw [List.drop_zero, Int.zero_add] at this
  exact this
theorem tm (r q : Int) (hq : q = 2 ∨ q = 3 ∨ q = 4) : Int.tmod (Int.tmod r q + q) q = r % q := by
  by_cases hr : 0 ≤ r
  · rw [Int.tmod_eq_emod_of_nonneg hr]
    rcases hq with rfl | rfl | rfl <;> rw [Int.tmod_eq_emod_of_nonneg (by omega)] <;> omega
  · have h : Int.tmod r q = -((-r) % q) := by
      rw [← Int.tmod_eq_emod_of_nonneg (by omega), Int.neg_tmod, Int.neg_neg]
    rw [h]
    rcases hq with rfl | rfl | rfl <;> rw [Int.tmod_eq_emod_of_nonneg (by omega)] <;> omega
theorem sum_bound (q : Int) (hq : 0 ≤ q) : ∀ (l : List Int), (∀ x ∈ l, 0 ≤ x ∧ x < q) → 0 ≤ l.sum ∧ l.sum ≤ q * l.length
  | [], _ => by simp
  | x :: l, h => by
    have ih := sum_bound q hq l fun y hy => h y (List.mem_cons_of_mem _ hy)
    have hx := h x List.mem_cons_self
    rw [List.sum_cons, List.length_cons]
    have : q * ((l.length + 1 : Nat) : Int) = q * l.length + q := by rw [Int.natCast_add, Int.mul_add]; simp
    omega
theorem sum_split (t : List Int) (j : Nat) (h : j < t.length) : t.sum = (t.take j).sum + t[j] + (t.drop (j + 1)).sum := by
  rw [Int.add_assoc, ← List.sum_cons, ← List.drop_eq_getElem_cons h, ← List.sum_append, List.take_append_drop]
/-- One more guess. -/
theorem line_step (q : Int) (hq : q = 2 ∨ q = 3 ∨ q = 4) (t : List Int) (j : Nat) (hj : j < t.length) (hb : ∀ x ∈ t, 0 ≤ x ∧ x < q) :
    (t.sum % q - (t.take j).sum - (t.drop (j + 1)).sum) % q = t[j] := by
  have hs := sum_split t j hj
  have hx := hb t[j] (List.getElem_mem hj)
  generalize t[j] = x at *
  generalize (t.take j).sum = A at *
  generalize (t.drop (j + 1)).sum = B at *
  generalize t.sum = S at *
  rcases hq with rfl | rfl | rfl <;> omega
theorem take_snoc (t : List Int) (j : Nat) (hj : j < t.length) : t.take j ++ [t[j]] = t.take (j + 1) := by
  rw [List.take_add_one, List.getElem?_eq_getElem hj]; rfl
theorem line_l0 (q : Int) (hq : q = 2 ∨ q = 3 ∨ q = 4) (h : Int) (t : List Int) (ht : t.length ≤ 12) (hb : ∀ x ∈ t, 0 ≤ x ∧ x < q) (m : Nat) : ∀ (j k : Nat), j + m = t.length → m + 40 < k →
    hat_Line.l0 k q (h :: t) (t.sum % q :: t.take j) ((j + 1 : Nat) : Int) = some (t.sum % q :: t, 0) := by
  induction m with
  | zero =>
    intro j k hj hk
    obtain ⟨k, rfl⟩ : ∃ j, k = j + 1 := ⟨k - 1, by omega⟩
    rw [hat_Line.l0, if_neg (by simp only [List.length_cons]; omega), List.take_of_length_le (by omega)]
  | succ m ih =>
    intro j k hj hk
    obtain ⟨k, rfl⟩ : ∃ j, k = j + 1 := ⟨k - 1, by omega⟩
    have hi : j < t.length := by omega
    have hbw : ∀ x ∈ t, -1000 ≤ x ∧ x ≤ 1000 := fun x hx => by have := hb x hx; omega
    have n1 : (t.take j).length = j := by rw [List.length_take]; omega
    have n2 : (t.drop (j + 1)).length ≤ 12 := by rw [List.length_drop]; omega
    have a1 := added_f (t.take j) (by omega) (fun x hx => hbw x (List.mem_of_mem_take hx)) k (by omega)
    have a2 := added_f (t.drop (j + 1)) (by omega) (fun x hx => hbw x (List.mem_of_mem_drop hx)) k (by omega)
    have e1 : (t.sum % q :: t.take j).drop 1 = t.take j := rfl
    have e2 : (h :: t).drop (j + 2) = t.drop (j + 1) := rfl
    have hw : wrap64 (((j + 1 : Nat) : Int) + 1) = ((j + 2 : Nat) : Int) := succ_w (j + 1) (by omega)
    have hn : (t.sum % q :: t.take j).length = j + 1 := by rw [List.length_cons, n1]
    have hn2 : (h :: t).length = t.length + 1 := rfl
    have l1 : ((j + 1 : Nat) : Int) < ((h :: t).length : Int) := by rw [hn2]; omega
    have l2 : 0 < ((t.sum % q :: t.take j).length : Int) := by rw [hn]; omega
    have l3 : 1 ≤ ((t.sum % q :: t.take j).length : Int) := by rw [hn]; omega
    have l4 : 0 ≤ ((j + 2 : Nat) : Int) := by omega
    have l5 : ((j + 2 : Nat) : Int) ≤ ((h :: t).length : Int) := by rw [hn2]; omega
    have l6 : ¬ q = 0 := by omega
    have l7 : (t.sum % q :: t.take j).length < 17592186044416 := by rw [hn]; omega
    rw [hat_Line.l0, if_pos l1, if_pos l2, if_pos l3, e1, a1, Option.bind_some, hw, if_pos l4, if_pos l5, Int.toNat_natCast, e2, a2, Option.bind_some, if_neg l6, if_pos l7]
    have h1 := sum_bound q (by omega) (t.take j) fun x hx => hb x (List.mem_of_mem_take hx)
    have h2 := sum_bound q (by omega) (t.drop (j + 1)) fun x hx => hb x (List.mem_of_mem_drop hx)
    have h3 : q * (t.take j).length ≤ 4 * 12 := Int.mul_le_mul (by omega) (by omega) (by omega) (by omega)
    have h4 : q * (t.drop (j + 1)).length ≤ 4 * 12 := Int.mul_le_mul (by omega) (by omega) (by omega) (by omega)
    have h5 : 0 ≤ t.sum % q ∧ t.sum % q < q := ⟨Int.emod_nonneg _ (by omega), Int.emod_lt_of_pos _ (by omega)⟩
    have hrd : rd (t.sum % q :: t.take j) 0 = t.sum % q := rfl
    have h6 : -q < Int.tmod (t.sum % q - (t.take j).sum - (t.drop (j + 1)).sum) q ∧ Int.tmod (t.sum % q - (t.take j).sum - (t.drop (j + 1)).sum) q < q := by
      rcases hq with rfl | rfl | rfl
      · exact ⟨Int.lt_tmod_of_pos _ (by omega), Int.tmod_lt_of_pos _ (by omega)⟩
      · exact ⟨Int.lt_tmod_of_pos _ (by omega), Int.tmod_lt_of_pos _ (by omega)⟩
      · exact ⟨Int.lt_tmod_of_pos _ (by omega), Int.tmod_lt_of_pos _ (by omega)⟩
    have w1 : wrap64 (t.sum % q - (t.take j).sum) = t.sum % q - (t.take j).sum := IntWalk.wrap64_in _ (by omega)
    have w2 : wrap64 (t.sum % q - (t.take j).sum - (t.drop (j + 1)).sum) = t.sum % q - (t.take j).sum - (t.drop (j + 1)).sum := IntWalk.wrap64_in _ (by omega)
    have w3 : wrap64 (Int.tmod (t.sum % q - (t.take j).sum - (t.drop (j + 1)).sum) q + q) = Int.tmod (t.sum % q - (t.take j).sum - (t.drop (j + 1)).sum) q + q := IntWalk.wrap64_in _ (by omega)
    rw [hrd, w1, w2, w3, tm _ q hq, line_step q hq t j hi hb, List.cons_append, take_snoc t j hi]
    exact ih (j + 1) k (by clear h1 h2 h3 h4 h5 h6; omega) (by clear h1 h2 h3 h4 h5 h6; omega)
/-- hat.Line at good hats. -/
theorem line_good (q : Int) (hq : q = 2 ∨ q = 3 ∨ q = 4) (h : Int) (t : List Int) (ht : t.length ≤ 11) (hb : ∀ x ∈ h :: t, 0 ≤ x ∧ x < q) (k : Nat) (hk : 60 < k) :
    hat_Line.f k q (h :: t) = some (t.sum % q :: t, 0) := by
  obtain ⟨k, rfl⟩ : ∃ j, k = j + 1 := ⟨k - 1, by omega⟩
  have hbt : ∀ x ∈ t, 0 ≤ x ∧ x < q := fun x hx => hb x (List.mem_cons_of_mem _ hx)
  have hv : hat_valid.f 2 (h :: t) 0 q = some true := by
    unfold hat_valid.f
    rw [if_neg (by omega), if_pos rfl, if_pos (by simp only [List.length_cons]; omega)]
    have : (h :: t).any (outside q) = false := by
      rw [Bool.eq_false_iff]; intro hh
      obtain ⟨x, hx, hx2⟩ := List.any_eq_true.1 hh
      have := hb x hx
      unfold outside at hx2
      simp at hx2; omega
    rw [this]; rfl
  have hs := sum_bound q (by omega) t hbt
  have e1 : (h :: t).drop 1 = t := rfl
  have q1 : ¬ q < 2 := by omega
  have q2 : ¬ q > 4 := by omega
  have q3 : ¬ q = 0 := by omega
  have l1 : 1 ≤ ((h :: t).length : Int) := by rw [List.length_cons]; omega
  have a1 := added_f t (by omega) (fun x hx => by have := hbt x hx; omega) k (by omega)
  unfold hat_Line.f
  rw [if_neg q1, decide_eq_false q2, hat_Line.j0, if_neg (by decide), hv, Option.bind_some, if_pos rfl, if_pos l1, e1, a1, Option.bind_some, if_neg q3, Int.tmod_eq_emod_of_nonneg hs.1]
  have := line_l0 q hq h t (by omega) hbt t.length 0 k (by omega) (by omega)
  rw [List.take_zero] at this
  exact this

end Go.Proofs.Ytgjmfehdjbepiaa.Pure
