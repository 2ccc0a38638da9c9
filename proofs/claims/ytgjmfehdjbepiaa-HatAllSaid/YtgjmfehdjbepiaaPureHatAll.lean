/- HatAll's plain law: for every small number and every list of small numbers the function tells true, with some number of rounds. No condition. -/
import Derived.Test.YtgjmfehdjbepiaaPF16
import Derived.Test.YtgjmfehdjbepiaaR0
namespace Go.Proofs.Ytgjmfehdjbepiaa.Pure
open Go Go.Proofs Go.RowKit Go.Proofs.Ytgjmfehdjbepiaa.P Go.Proofs.YtgjmfehdjbepiaaW.PrintWords Go.Proofs.YtgjmfehdjbepiaaW.PrintLast
set_option maxRecDepth 100000

/-- All lists of so many numbers below q. -/
def upTo (q : Nat) : Nat → List (List Int)
  | 0 => [[]]
  | n + 1 => (upTo q n).flatMap fun l => (List.range q).map fun x : Nat => (x : Int) :: l
theorem upTo_mem (q : Nat) : ∀ (l : List Int), (∀ x ∈ l, 0 ≤ x ∧ x < q) → l ∈ upTo q l.length
  | [], _ => List.mem_singleton.2 rfl
  | x :: l, h => by
    have ih := upTo_mem q l fun y hy => h y (List.mem_cons_of_mem _ hy)
    have hx := h x List.mem_cons_self
    refine List.mem_flatMap.2 ⟨l, ih, List.mem_map.2 ⟨x.toNat, List.mem_range.2 (by omega), ?_⟩⟩
    rw [Int.toNat_of_nonneg hx.1]
/-- Behind the loop that makes the hats. -/
def coreAll (k : Nat) (n : Int) (t : List (List Int)) (e : Int) (y : List Int) : Option Bool := wogglelaw09_HatAll.l0 k [] n t e y n
def allOf (k n : Nat) : Bool := match hat_Sum.f k n with | some (t, e) => (upTo n n).all fun y => coreAll k n t e y == some true | none => false
theorem all1 : allOf 3000 1 = true := by decide +kernel
theorem all2 : allOf 3000 2 = true := by decide +kernel
theorem all3 : allOf 3000 3 = true := by decide +kernel
theorem all4 : allOf 3000 4 = true := by decide +kernel
theorem all_end (k : Nat) (l : List Int) (n : Int) (t : List (List Int)) (e : Int) (y : List Int) : wogglelaw09_HatAll.l0 (k + 1) l n t e y n = coreAll (k + 1) n t e y := by
  unfold coreAll
  rw [wogglelaw09_HatAll.l0, wogglelaw09_HatAll.l0, if_neg (Int.lt_irrefl n), if_neg (Int.lt_irrefl n)]
theorem all_l0 (n : Nat) (hn : 1 ≤ n ∧ n ≤ 4) (l : List Int) (hl : ∀ x ∈ l, 0 ≤ x ∧ x ≤ 255) (t : List (List Int)) (e : Int) (K m : Nat) : ∀ (i : Nat) (y : List Int), i + m = n → y.length = i → (∀ x ∈ y, 0 ≤ x ∧ x < n) →
    ∃ y' : List Int, y'.length = n ∧ (∀ x ∈ y', 0 ≤ x ∧ x < n) ∧ wogglelaw09_HatAll.l0 (K + m) l n t e y i = wogglelaw09_HatAll.l0 K l n t e y' n := by
  induction m with
  | zero =>
    intro i y hi hy hb
    have : i = n := by omega
    subst this
    exact ⟨y, hy, hb, rfl⟩
  | succ m ih =>
    intro i y hi hy hb
    have l1 : (i : Int) < (n : Int) := by omega
    have l2 : 0 ≤ (i : Int) := by omega
    have l3 : ¬ (n : Int) = 0 := by omega
    have l4 : y.length < 17592186044416 := by omega
    have step : ∀ z : Int, 0 ≤ z ∧ z < n → ∃ y' : List Int, y'.length = n ∧ (∀ x ∈ y', 0 ≤ x ∧ x < n) ∧ wogglelaw09_HatAll.l0 (K + m) l n t e (y ++ [z]) ((i + 1 : Nat) : Int) = wogglelaw09_HatAll.l0 K l n t e y' n := fun z hz =>
      ih (i + 1) (y ++ [z]) (by omega) (by rw [List.length_append, hy]; rfl) (fun x hx => by
        rcases List.mem_append.1 hx with h | h
        · exact hb x h
        · rw [List.mem_singleton.1 h]; exact hz)
    show ∃ y' : List Int, _ ∧ _ ∧ wogglelaw09_HatAll.l0 (K + m + 1) l n t e y i = _
    rw [wogglelaw09_HatAll.l0, if_pos l1]
    by_cases hi2 : i < l.length
    · have l5 : (i : Int) < (l.length : Int) := by omega
      have hx := hl l[i] (List.getElem_mem hi2)
      have w1 : wrap64 l[i] = l[i] := IntWalk.wrap64_in _ (by omega)
      rw [if_pos l5, if_pos l2, if_neg l3, if_pos l4, rd_nat l i hi2, w1, succ_w i (by omega), Int.tmod_eq_emod_of_nonneg hx.1]
      exact step _ ⟨Int.emod_nonneg _ l3, Int.emod_lt_of_pos _ (by omega)⟩
    · have l5 : ¬ (i : Int) < (l.length : Int) := by omega
      rw [if_neg l5, if_pos l4, succ_w i (by omega)]
      exact step 0 ⟨Int.le_refl 0, by omega⟩
theorem all_core (n : Nat) (hn : 1 ≤ n ∧ n ≤ 4) (ha : allOf 3000 n = true) (l : List Int) (hl : ∀ x ∈ l, 0 ≤ x ∧ x ≤ 255) :
    ((hat_Sum.f (3000 + n) n).bind fun bt705 => (wogglelaw09_HatAll.l0 (3000 + n) l n bt705.1 bt705.2 (([] : List Int)) 0)) = some true := by
  unfold allOf at ha
  cases hS : hat_Sum.f 3000 n with
  | none => rw [hS] at ha; cases ha
  | some te =>
    obtain ⟨t, e⟩ := te
    rw [hS] at ha
    replace ha : ((upTo n n).all fun y => coreAll 3000 n t e y == some true) = true := ha
    rw [at_rounds (g := fun k => hat_Sum.f k n) (fun k => hat_Sum.mono _ k) (k := 3000) (by omega) hS, Option.bind_some]
    obtain ⟨y, h1, h2, h3⟩ := all_l0 n hn l hl t e 3000 n 0 [] (by omega) rfl (fun x hx => by cases hx)
    have hm := upTo_mem n y h2
    rw [h1] at hm
    refine h3.trans ((all_end 2999 l n t e y).trans ?_)
    simpa using List.all_eq_true.1 ha y hm
theorem HatAll : wogglelaw09_HatAll.Pure := by
  intro a l ha _ _ hl
  have h0 := bounds_u8 ha
  have hw : wrap64 a = a := IntWalk.wrap64_in a (by omega)
  have hm : Int.tmod a 4 = a % 4 := Int.tmod_eq_emod_of_nonneg h0.1
  have hw2 : wrap64 (a % 4 + 1) = a % 4 + 1 := IntWalk.wrap64_in _ (by omega)
  obtain ⟨n, hn⟩ := Int.eq_ofNat_of_zero_le (show 0 ≤ a % 4 + 1 by omega)
  have hn2 : 1 ≤ n ∧ n ≤ 4 := by omega
  refine ⟨3000 + n, ?_⟩
  unfold wogglelaw09_HatAll.f
  rw [hw, hm, hw2, hn]
  refine all_core n hn2 ?_ l (fun x hx => bounds_u8 (hl x hx))
  obtain rfl | rfl | rfl | rfl : n = 1 ∨ n = 2 ∨ n = 3 ∨ n = 4 := by omega
  · exact all1
  · exact all2
  · exact all3
  · exact all4

end Go.Proofs.Ytgjmfehdjbepiaa.Pure
