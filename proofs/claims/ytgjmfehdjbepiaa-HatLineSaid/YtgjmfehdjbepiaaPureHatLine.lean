/- HatLine's plain law: for every number and every list of small numbers the function tells true, with some number of rounds. No condition. -/
import Derived.Test.YtgjmfehdjbepiaaPF6
import Derived.Test.YtgjmfehdjbepiaaR30
namespace Go.Proofs.Ytgjmfehdjbepiaa.Pure
open Go Go.Proofs Go.RowKit Go.Proofs.Ytgjmfehdjbepiaa.P Go.Proofs.YtgjmfehdjbepiaaW.PrintWords Go.Proofs.YtgjmfehdjbepiaaW.PrintLast
set_option maxRecDepth 100000

theorem rd_cons2 (a : Int) (l : List Int) (p : Nat) (hp : p < l.length) : rd (a :: l) ((p + 1 : Nat) : Int) = l[p] := by
  rw [rd_nat (a :: l) (p + 1) (by rw [List.length_cons]; omega)]; rfl
theorem line_l1 (q : Int) (hq : q = 2 ∨ q = 3 ∨ q = 4) (h : Int) (t : List Int) (ht : t.length ≤ 11) (hb : ∀ x ∈ h :: t, 0 ≤ x ∧ x < q) (m : Nat) : ∀ (p k : Nat) (s : Int), p + m = t.length → 0 ≤ s → s ≤ 4 * (p : Int) → 100 ≤ k → s + (t.drop p).sum = t.sum →
    wogglelaw09_HatLine.l1 (k + m + 1) q (h :: t) s ((p + 1 : Nat) : Int) = some true := by
  have hn2 : (h :: t).length = t.length + 1 := rfl
  have hbt : ∀ x ∈ t, 0 ≤ x ∧ x < q := fun x hx => hb x (List.mem_cons_of_mem _ hx)
  induction m with
  | zero =>
    intro p k s hp _ _ hk hs
    have l1 : ¬ ((p + 1 : Nat) : Int) < ((h :: t).length : Int) := by rw [hn2]; omega
    have l2 : 1 ≤ ((t.sum % q :: t).length : Int) := by rw [List.length_cons]; omega
    have l3 : 1 ≤ ((h :: t).length : Int) := by rw [List.length_cons]; omega
    have l4 : 0 < ((t.sum % q :: t).length : Int) := by rw [List.length_cons]; omega
    have l5 : 0 < ((h :: t).length : Int) := by rw [List.length_cons]; omega
    have l6 : ((t.sum % q :: t).length : Int) = ((h :: t).length : Int) := rfl
    have hq0 : ¬ q = 0 := by omega
    have hs2 : s = t.sum := by rw [List.drop_of_length_le (by omega), List.sum_nil] at hs; omega
    have hs0 := sum_bound q (by omega) t hbt
    have hS := same_self t (by omega) k (by omega)
    have hSd : woggleref01_Same.f k ((t.sum % q :: t).drop 1) ((h :: t).drop 1) = some true := hS
    have hr1 : rd (t.sum % q :: t) 0 = t.sum % q := rfl
    have hr2 : rd (h :: t) 0 = h := rfl
    rw [wogglelaw09_HatLine.l1, if_neg l1, line_good q hq h t ht hb k (by omega), Option.bind_some, if_pos rfl, if_pos l6, if_pos l2, if_pos l3, hSd, Option.bind_some, if_pos rfl, if_pos l4, if_pos l5, if_neg hq0,
      hr1, hr2, hs2, Int.tmod_eq_emod_of_nonneg hs0.1, lives_k k (by omega)]
    simp
  | succ m ih =>
    intro p k s hp h1 h2 hk hs
    have hi : p < t.length := by omega
    have hx := hbt t[p] (List.getElem_mem hi)
    have l1 : ((p + 1 : Nat) : Int) < ((h :: t).length : Int) := by rw [hn2]; omega
    have l2 : 0 ≤ ((p + 1 : Nat) : Int) := by omega
    have w1 : wrap64 (s + t[p]) = s + t[p] := IntWalk.wrap64_in _ (by omega)
    have w2 : wrap64 (((p + 1 : Nat) : Int) + 1) = ((p + 2 : Nat) : Int) := succ_w (p + 1) (by omega)
    show wogglelaw09_HatLine.l1 (k + m + 1 + 1) q (h :: t) s ((p + 1 : Nat) : Int) = _
    rw [wogglelaw09_HatLine.l1, if_pos l1, if_pos l2, rd_cons2 h t p hi, w1, w2]
    have hx4 : t[p] < 4 := by clear hs hk h1 h2 hp l1 l2 w1 w2; omega
    have b1 : s + t[p] ≤ 4 * ((p + 1 : Nat) : Int) := by clear hs hk hq h1 hp l1 l2 w1 w2; omega
    have b0 : 0 ≤ s + t[p] := by clear hs hk hq h2 hp l1 l2 w1 w2; omega
    refine ih (p + 1) k (s + t[p]) (by clear hs; omega) b0 b1 hk ?_
    rw [List.drop_eq_getElem_cons hi, List.sum_cons] at hs
    omega
theorem line_j1 (q : Int) (hq : q = 2 ∨ q = 3 ∨ q = 4) (y : List Int) (hy : y.length ≤ 12) (hb : ∀ x ∈ y, 0 ≤ x ∧ x < q) (k : Nat) (hk : 200 ≤ k) : wogglelaw09_HatLine.j1 k q y 0 = some true := by
  obtain ⟨k, rfl⟩ : ∃ j, k = j + 1 := ⟨k - 1, by omega⟩
  cases y with
  | nil => rw [wogglelaw09_HatLine.j1, if_pos (show ((([] : List Int).length : Nat) : Int) = 0 from rfl), lives_k k (by omega)]; rfl
  | cons h t =>
    have l1 : ¬ ((h :: t).length : Int) = 0 := by rw [List.length_cons]; omega
    have hn2 : (h :: t).length = t.length + 1 := rfl
    rw [wogglelaw09_HatLine.j1, if_neg l1]
    obtain ⟨k', hk'⟩ : ∃ k', k = k' + t.length + 1 := ⟨k - t.length - 1, by omega⟩
    rw [hk']
    exact line_l1 q hq h t (by omega) hb t.length 0 k' 0 (by omega) (by omega) (by omega) (by omega) (by rw [List.drop_zero, Int.zero_add])
def hatsOf (q : Int) (l : List Int) : List Int := l.map fun x => x % q
theorem lawline_l0 (q : Int) (hq : q = 2 ∨ q = 3 ∨ q = 4) (l : List Int) (hb : ∀ x ∈ l, 0 ≤ x ∧ x ≤ 255) (m : Nat) : ∀ (i k : Nat), i ≤ 12 → i ≤ l.length → i + m = min l.length 12 → 200 ≤ k →
    wogglelaw09_HatLine.l0 (k + m + 1) l q (hatsOf q (l.take i)) 0 i = some true := by
  have hmod : ∀ i, ∀ x ∈ hatsOf q (l.take i), 0 ≤ x ∧ x < q := fun i x hx => by
    obtain ⟨y, _, rfl⟩ := List.mem_map.1 hx
    exact ⟨Int.emod_nonneg _ (by omega), Int.emod_lt_of_pos _ (by omega)⟩
  have hlen : ∀ i, i ≤ 12 → (hatsOf q (l.take i)).length ≤ 12 := fun i hi => by
    unfold hatsOf; rw [List.length_map, List.length_take]; omega
  induction m with
  | zero =>
    intro i k hi hi2 hm hk
    rw [wogglelaw09_HatLine.l0]
    by_cases h1 : (i : Int) < (l.length : Int)
    · rw [if_pos h1, if_neg (by omega)]
      exact line_j1 q hq _ (hlen i hi) (hmod i) k (by omega)
    · rw [if_neg h1]
      exact line_j1 q hq _ (hlen i hi) (hmod i) k (by omega)
  | succ m ih =>
    intro i k hi hi2 hm hk
    have h1 : i < l.length := by omega
    have hx := hb l[i] (List.getElem_mem h1)
    have l1 : (i : Int) < (l.length : Int) := by omega
    have l2 : (i : Int) < 12 := by omega
    have l3 : 0 ≤ (i : Int) := by omega
    have l4 : ¬ q = 0 := by omega
    have hlen2 := hlen i hi
    have l5 : (hatsOf q (l.take i)).length < 17592186044416 := by omega
    have w1 : wrap64 l[i] = l[i] := IntWalk.wrap64_in _ (by omega)
    have e : hatsOf q (l.take i) ++ [l[i] % q] = hatsOf q (l.take (i + 1)) := by
      rw [← take_snoc l i h1]; unfold hatsOf; rw [List.map_append]; rfl
    show wogglelaw09_HatLine.l0 (k + m + 1 + 1) l q (hatsOf q (l.take i)) 0 i = _
    rw [wogglelaw09_HatLine.l0, if_pos l1, if_pos l2, if_pos l3, if_neg l4, if_pos l5, rd_nat l i h1, w1, Int.tmod_eq_emod_of_nonneg hx.1, e, succ_w i (by omega)]
    exact ih (i + 1) k (by omega) (by omega) (by omega) hk
theorem HatLine : wogglelaw09_HatLine.Pure := by
  intro a l ha hl _ hlb
  have h0 := bounds_u8 ha
  have hw : wrap64 a = a := IntWalk.wrap64_in a (by omega)
  have h1 : Int.tmod a 3 = a % 3 := Int.tmod_eq_emod_of_nonneg h0.1
  have hw2 : wrap64 (a % 3 + 2) = a % 3 + 2 := IntWalk.wrap64_in _ (by omega)
  refine ⟨200 + min l.length 12 + 1, ?_⟩
  unfold wogglelaw09_HatLine.f
  rw [hw, h1, hw2]
  exact lawline_l0 (a % 3 + 2) (by omega) l (fun x hx => bounds_u8 (hlb x hx)) (min l.length 12) 0 200 (by omega) (by omega) (by omega) (by omega)

end Go.Proofs.Ytgjmfehdjbepiaa.Pure
