/- HatEberts' plain law: for every list of numbers the function tells true, with some number of rounds. No condition. -/
import Derived.Test.YtgjmfehdjbepiaaPF4
import Derived.Test.YtgjmfehdjbepiaaR26
namespace Go.Proofs.Ytgjmfehdjbepiaa.Pure
open Go Go.Proofs Go.RowKit Go.Proofs.Ytgjmfehdjbepiaa.P Go.Proofs.YtgjmfehdjbepiaaW.PrintWords Go.Proofs.YtgjmfehdjbepiaaW.PrintLast
set_option maxRecDepth 100000

def bitLists : Nat → List (List Int)
  | 0 => [[]]
  | n + 1 => (bitLists n).flatMap fun l => [0 :: l, 1 :: l]
theorem bitLists_mem : ∀ (l : List Int), (∀ x ∈ l, x = 0 ∨ x = 1) → l ∈ bitLists l.length
  | [], _ => List.mem_singleton.2 rfl
  | x :: l, h => by
    have ih := bitLists_mem l fun y hy => h y (List.mem_cons_of_mem _ hy)
    refine List.mem_flatMap.2 ⟨l, ih, ?_⟩
    rcases h x (List.mem_cons_self) with rfl | rfl <;> simp
def core (k : Nat) (y : List Int) : Option Bool := (hat_Ebert.f k y).bind fun bt350 => ((hat_Wins.f k y).bind fun bt354 => (if (y.length : Int) = 1 then ((woggleref09_Hats.f k (y.length : Int) 2 y).bind fun t356 => (wogglelaw09_HatEberts.j0 k y bt350.1 bt350.2 bt354.1 bt354.2 (!t356))) else (if (y.length : Int) = 3 then ((woggleref09_Hats.f k (y.length : Int) 2 y).bind fun t357 => (wogglelaw09_HatEberts.j0 k y bt350.1 bt350.2 bt354.1 bt354.2 (!t357))) else (if (y.length : Int) = 7 then ((woggleref09_Hats.f k (y.length : Int) 2 y).bind fun t358 => (wogglelaw09_HatEberts.j0 k y bt350.1 bt350.2 bt354.1 bt354.2 (!t358))) else (wogglelaw09_HatEberts.j0 k y bt350.1 bt350.2 bt354.1 bt354.2 true)))))
theorem eb1 : ((bitLists 1).all fun l => core 200 l == some true) = true := by decide +kernel
theorem eb3 : ((bitLists 3).all fun l => core 200 l == some true) = true := by decide +kernel
theorem eb7 : ((bitLists 7).all fun l => core 200 l == some true) = true := by decide +kernel
theorem eb_lives : wogglelaw09_lives.f 40 = some true := by decide +kernel

theorem eberts_off (k : Nat) (y : List Int) : wogglelaw09_HatEberts.j0 (40 + k + 1) y [] 2 false 2 true = some true := by
  show ((wogglelaw09_lives.f (40 + k)).bind fun t359 => (some t359)) = some true
  rw [at_rounds wogglelaw09_lives.mono (k := 40) (by omega) eb_lives]; rfl
theorem core_true (y : List Int) (hy : y.length ≤ 9) : core 200 y = some true := by
  by_cases hn : y.length = 1 ∨ y.length = 3 ∨ y.length = 7
  · by_cases hb : y.any (outside 2) = true
    · have hv : hat_valid.f 1 y 0 0 = some false := by unfold hat_valid.f; rw [if_pos rfl, if_pos hn, hb]; rfl
      have hE : hat_Ebert.f 200 y = some ([], 2) := by unfold hat_Ebert.f; rw [hv]; rfl
      have hW : hat_Wins.f 200 y = some (false, 2) := by unfold hat_Wins.f; rw [hv]; rfl
      have hH : woggleref09_Hats.f 200 y.length 2 y = some false := by rw [hats_f _ _ (by omega) y (by omega) 200 (by omega), all_inB, hb]; rfl
      unfold core
      rw [hE, hW]
      simp only [Option.bind_some, hH, Bool.not_false, eberts_off 159 y]
      simp
    · have hm := bitLists_mem y fun x hx => by
        have : outside 2 x = false := by
          rw [Bool.eq_false_iff]; intro h; exact hb (List.any_eq_true.2 ⟨x, hx, h⟩)
        unfold outside at this
        simp at this; omega
      rcases hn with h | h | h <;> rw [h] at hm
      · have := List.all_eq_true.1 eb1 y hm; simpa using this
      · have := List.all_eq_true.1 eb3 y hm; simpa using this
      · have := List.all_eq_true.1 eb7 y hm; simpa using this
  · have hv : hat_valid.f 1 y 0 0 = some false := by unfold hat_valid.f; rw [if_pos rfl, if_neg hn]
    have hE : hat_Ebert.f 200 y = some ([], 2) := by unfold hat_Ebert.f; rw [hv]; rfl
    have hW : hat_Wins.f 200 y = some (false, 2) := by unfold hat_Wins.f; rw [hv]; rfl
    unfold core
    rw [hE, hW]
    simp only [Option.bind_some]
    rw [if_neg (by omega), if_neg (by omega), if_neg (by omega)]
    exact eberts_off 159 y
theorem HatEberts : wogglelaw09_HatEberts.Pure := by
  intro l hl _ _
  refine ⟨200, ?_⟩
  have h1 : 0 ≤ mn (l.length : Int) 9 ∧ mn (l.length : Int) 9 ≤ l.length ∧ mn (l.length : Int) 9 ≤ 9 := by unfold mn; split <;> omega
  have h2 : (l.take (mn (l.length : Int) 9).toNat).length ≤ 9 := by rw [List.length_take]; omega
  unfold wogglelaw09_HatEberts.f
  rw [Option.bind_some, if_pos h1.1, if_pos h1.2.1, if_pos (by simp only [List.length_nil]; omega), Option.bind_some, List.nil_append]
  exact core_true _ h2

end Go.Proofs.Ytgjmfehdjbepiaa.Pure
