-- written by a program of this session
import Derived.Test.YtgjmfehdjbepiaaPK
import Derived.Test.YtgjmfehdjbepiaaML2
import Derived.Test.YtgjmfehdjbepiaaPF22
import Derived.Test.YtgjmfehdjbepiaaML1
import Derived.Test.YtgjmfehdjbepiaaPF44
import Derived.Test.YtgjmfehdjbepiaaPF45
import Derived.Test.YtgjmfehdjbepiaaG43
namespace Go.Proofs.Ytgjmfehdjbepiaa.P
open Go.RowKit Go.Proofs.YtgjmfehdjbepiaaW.PrintWords Go.Proofs.YtgjmfehdjbepiaaW.PrintLast Go.Proofs.YtgjmfehdjbepiaaW.PrintMore
attribute [local go_sem] max2_int min2_int max_two min_two max_three min_three max_four min_four   -- for this text's walks alone
set_option linter.unusedVariables false
set_option linter.unusedSimpArgs false

/-! ### wogglelaw09_HatMore: function 12 -/
mutual
def wogglelaw09_HatMore.l0 : Nat → Int → Int → List (S71) → List (List Int) → List (S71) → List (List Int) → List (List Int) → List (List Int) → Int → Option (Bool)
  | 0, _, _, _, _, _, _, _, _, _ => none
  | k + 1, x5, x6, x7, x8, x10, x11, x12, x13, x14 => if x14 < x5 then (wogglelaw09_HatMore.l1 k x5 x6 x7 x8 x10 x11 x12 x13 x14 (([] : List Int)) 0) else ((hat_Loses.f k x5 x6 x7 x8).bind fun bt704 => ((hat_Loses.f k x5 x6 x10 x13).bind fun bt708 => (if bt704.2 = bt708.2 then ((woggleref01_Same.f k bt704.1 bt708.1).bind fun t712 => (if t712 = true then (if bt704.2 = 0 then ((wogglelaw09_lives.f k).bind fun t713 => (some t713)) else (if bt704.2 = 5 then ((wogglelaw09_lives.f k).bind fun t714 => (some t714)) else (some false))) else (some false))) else (some false))))
def wogglelaw09_HatMore.l1 : Nat → Int → Int → List (S71) → List (List Int) → List (S71) → List (List Int) → List (List Int) → List (List Int) → Int → List Int → Int → Option (Bool)
  | 0, _, _, _, _, _, _, _, _, _, _, _ => none
  | k + 1, x5, x6, x7, x8, x10, x11, x12, x13, x14, x15, x16 => if 0 ≤ x14 then (if x14 < (x12.length : Int) then ((woggleref09_Power.f k x6 ((rd_L2 x12 x14).length : Int)).bind fun t678 => (if x16 < t678 then (if 0 ≤ x5 then (if (x5 : Int).toNat ≤ 35184372088832 then (wogglelaw09_HatMore.l2 k x5 x6 x7 x8 x10 x11 x12 x13 x14 x15 x16 (List.replicate (x5 : Int).toNat 0) x16 0) else (none)) else (none)) else ((some (([x15] : List (List Int)) : List (List Int))).bind fun y679 => (if x13.length + y679.length < 5864062014805 then (wogglelaw09_HatMore.l0 k x5 x6 x7 x8 x10 x11 x12 (x13 ++ y679) (wrap64 (x14 + 1))) else (none))))) else (none)) else (none)
def wogglelaw09_HatMore.l2 : Nat → Int → Int → List (S71) → List (List Int) → List (S71) → List (List Int) → List (List Int) → List (List Int) → Int → List Int → Int → List Int → Int → Int → Option (Bool)
  | 0, _, _, _, _, _, _, _, _, _, _, _, _, _, _ => none
  | k + 1, x5, x6, x7, x8, x10, x11, x12, x13, x14, x15, x16, x17, x18, x19 => if 0 ≤ x14 then (if x14 < (x12.length : Int) then (if x19 < ((rd_L2 x12 x14).length : Int) then (if 0 ≤ x19 then (if x6 = 0 then (none) else (if 0 ≤ (rd (rd_L2 x12 x14) x19) then (if (rd (rd_L2 x12 x14) x19) < (x17.length : Int) then (wogglelaw09_HatMore.l2 k x5 x6 x7 x8 x10 x11 x12 x13 x14 x15 x16 (x17.set ((rd (rd_L2 x12 x14) x19) : Int).toNat (Int.tmod x18 x6)) (wrap64 (Int.tdiv x18 x6)) (wrap64 (x19 + 1))) else (none)) else (none))) else (none)) else (if x14 < (x11.length : Int) then (wogglelaw09_HatMore.l3 k x5 x6 x7 x8 x10 x11 x12 x13 x14 x15 x16 x17 0 (wrap64 (((rd_L2 x11 x14).length : Int) - 1))) else (none))) else (none)) else (none)
def wogglelaw09_HatMore.l3 : Nat → Int → Int → List (S71) → List (List Int) → List (S71) → List (List Int) → List (List Int) → List (List Int) → Int → List Int → Int → List Int → Int → Int → Option (Bool)
  | 0, _, _, _, _, _, _, _, _, _, _, _, _, _, _ => none
  | k + 1, x5, x6, x7, x8, x10, x11, x12, x13, x14, x15, x16, x17, x20, x21 => if x21 ≥ 0 then (if 0 ≤ x14 then (if x14 < (x11.length : Int) then (if 0 ≤ x21 then (if x21 < ((rd_L2 x11 x14).length : Int) then (if 0 ≤ (rd (rd_L2 x11 x14) x21) then (if (rd (rd_L2 x11 x14) x21) < (x17.length : Int) then (wogglelaw09_HatMore.l3 k x5 x6 x7 x8 x10 x11 x12 x13 x14 x15 x16 x17 (wrap64 ((wrap64 (x20 * x6)) + (rd x17 (rd (rd_L2 x11 x14) x21)))) (wrap64 (x21 - 1))) else (none)) else (none)) else (none)) else (none)) else (none)) else (none)) else (if 0 ≤ x14 then (if x14 < (x8.length : Int) then (if 0 ≤ x20 then (if x20 < ((rd_L2 x8 x14).length : Int) then ((some (([rd (rd_L2 x8 x14) x20] : List Int) : List Int)).bind fun y698 => (if x15.length + y698.length < 17592186044416 then (wogglelaw09_HatMore.l1 k x5 x6 x7 x8 x10 x11 x12 x13 x14 (x15 ++ y698) (wrap64 (x16 + 1))) else (none))) else (none)) else (none)) else (none)) else (none))
end
def wogglelaw09_HatMore.f (k : Nat) (a0_0 : Int) (a0_1 : Int) (a0_2 : Int) (l0_3 : List Int) (a1_0 : Int) (a1_1 : Int) : Option (Bool) := (wogglelaw09_Deal_made.f k a0_0 a0_1 a0_2 l0_3).bind fun bt644 => (if bt644.1 < 2 then ((wogglelaw09_lives.f k).bind fun t652 => (some t652)) else (if bt644.1 = 0 then (none) else ((some (([] : List (S71)) : List (S71))).bind fun y653 => (if y653.length + bt644.2.2.1.length < 8796093022208 then ((some (y653 ++ bt644.2.2.1 : List (S71))).bind fun y656 => (if (wrap64 (bt644.1 - 1)) = 0 then (none) else ((some (([(⟨Int.tmod (wrap64 (a1_0)) bt644.1, Int.tmod (wrap64 ((wrap64 ((Int.tmod (wrap64 (a1_0)) bt644.1) + 1)) + (Int.tmod (wrap64 (a1_1)) (wrap64 (bt644.1 - 1))))) bt644.1⟩ : S71)] : List (S71)) : List (S71))).bind fun y659 => (if y656.length + y659.length < 8796093022208 then ((some (y656 ++ y659 : List (S71))).bind fun y662 => ((woggleref09_Sees.f k bt644.1 bt644.2.2.1).bind fun t665 => ((woggleref09_Sees.f k bt644.1 y662).bind fun t668 => (wogglelaw09_HatMore.l0 k bt644.1 bt644.2.1 bt644.2.2.1 bt644.2.2.2 y662 t665 t668 (([] : List (List Int))) 0)))) else (none))))) else (none)))))
theorem wogglelaw09_HatMore.mono_l : ∀ k, (∀ y0 y1 y2 y3 y4 y5 y6 y7 y8, LeO (wogglelaw09_HatMore.l0 k y0 y1 y2 y3 y4 y5 y6 y7 y8) (wogglelaw09_HatMore.l0 (k + 1) y0 y1 y2 y3 y4 y5 y6 y7 y8)) ∧ (∀ y0 y1 y2 y3 y4 y5 y6 y7 y8 y9 y10, LeO (wogglelaw09_HatMore.l1 k y0 y1 y2 y3 y4 y5 y6 y7 y8 y9 y10) (wogglelaw09_HatMore.l1 (k + 1) y0 y1 y2 y3 y4 y5 y6 y7 y8 y9 y10)) ∧ (∀ y0 y1 y2 y3 y4 y5 y6 y7 y8 y9 y10 y11 y12 y13, LeO (wogglelaw09_HatMore.l2 k y0 y1 y2 y3 y4 y5 y6 y7 y8 y9 y10 y11 y12 y13) (wogglelaw09_HatMore.l2 (k + 1) y0 y1 y2 y3 y4 y5 y6 y7 y8 y9 y10 y11 y12 y13)) ∧ (∀ y0 y1 y2 y3 y4 y5 y6 y7 y8 y9 y10 y11 y12 y13, LeO (wogglelaw09_HatMore.l3 k y0 y1 y2 y3 y4 y5 y6 y7 y8 y9 y10 y11 y12 y13) (wogglelaw09_HatMore.l3 (k + 1) y0 y1 y2 y3 y4 y5 y6 y7 y8 y9 y10 y11 y12 y13))
  | 0 => ⟨fun _ _ _ _ _ _ _ _ _ r h => by simp [wogglelaw09_HatMore.l0] at h, fun _ _ _ _ _ _ _ _ _ _ _ r h => by simp [wogglelaw09_HatMore.l1] at h, fun _ _ _ _ _ _ _ _ _ _ _ _ _ _ r h => by simp [wogglelaw09_HatMore.l2] at h, fun _ _ _ _ _ _ _ _ _ _ _ _ _ _ r h => by simp [wogglelaw09_HatMore.l3] at h⟩
  | k + 1 => by
    obtain ⟨ih0, ih1, ih2, ih3⟩ := wogglelaw09_HatMore.mono_l k
    refine ⟨?_, ?_, ?_, ?_⟩
    · intro y0 y1 y2 y3 y4 y5 y6 y7 y8
      unfold wogglelaw09_HatMore.l0
      repeat' first
      | (with_reducible exact ih0 _ _ _ _ _ _ _ _ _)
      | (with_reducible exact ih1 _ _ _ _ _ _ _ _ _ _ _)
      | (with_reducible exact ih2 _ _ _ _ _ _ _ _ _ _ _ _ _ _)
      | (with_reducible exact ih3 _ _ _ _ _ _ _ _ _ _ _ _ _ _)
      | (with_reducible exact hat_Loses.mono _ _ _ _ _)
      | (with_reducible exact wogglelaw09_Deal_made.mono _ _ _ _ _)
      | (with_reducible exact wogglelaw09_lives.mono _)
      | (with_reducible exact woggleref01_Same.mono _ _ _)
      | (with_reducible exact woggleref09_Power.mono _ _ _)
      | (with_reducible exact woggleref09_Sees.mono _ _ _)
      | (with_reducible exact LeO.refl _)
      | (with_reducible exact LeO.none _)
      | (with_reducible refine LeO.ite ?_ ?_)
      | (with_reducible refine LeO.bind ?_ (fun _ => ?_))
      | exact ih0 _ _ _ _ _ _ _ _ _
      | exact ih1 _ _ _ _ _ _ _ _ _ _ _
      | exact ih2 _ _ _ _ _ _ _ _ _ _ _ _ _ _
      | exact ih3 _ _ _ _ _ _ _ _ _ _ _ _ _ _
      | exact hat_Loses.mono _ _ _ _ _
      | exact wogglelaw09_Deal_made.mono _ _ _ _ _
      | exact wogglelaw09_lives.mono _
      | exact woggleref01_Same.mono _ _ _
      | exact woggleref09_Power.mono _ _ _
      | exact woggleref09_Sees.mono _ _ _
      | exact LeO.none _
      | refine LeO.ite ?_ ?_
      | refine LeO.bind ?_ (fun _ => ?_)
    · intro y0 y1 y2 y3 y4 y5 y6 y7 y8 y9 y10
      unfold wogglelaw09_HatMore.l1
      repeat' first
      | (with_reducible exact ih0 _ _ _ _ _ _ _ _ _)
      | (with_reducible exact ih1 _ _ _ _ _ _ _ _ _ _ _)
      | (with_reducible exact ih2 _ _ _ _ _ _ _ _ _ _ _ _ _ _)
      | (with_reducible exact ih3 _ _ _ _ _ _ _ _ _ _ _ _ _ _)
      | (with_reducible exact hat_Loses.mono _ _ _ _ _)
      | (with_reducible exact wogglelaw09_Deal_made.mono _ _ _ _ _)
      | (with_reducible exact wogglelaw09_lives.mono _)
      | (with_reducible exact woggleref01_Same.mono _ _ _)
      | (with_reducible exact woggleref09_Power.mono _ _ _)
      | (with_reducible exact woggleref09_Sees.mono _ _ _)
      | (with_reducible exact LeO.refl _)
      | (with_reducible exact LeO.none _)
      | (with_reducible refine LeO.ite ?_ ?_)
      | (with_reducible refine LeO.bind ?_ (fun _ => ?_))
      | exact ih0 _ _ _ _ _ _ _ _ _
      | exact ih1 _ _ _ _ _ _ _ _ _ _ _
      | exact ih2 _ _ _ _ _ _ _ _ _ _ _ _ _ _
      | exact ih3 _ _ _ _ _ _ _ _ _ _ _ _ _ _
      | exact hat_Loses.mono _ _ _ _ _
      | exact wogglelaw09_Deal_made.mono _ _ _ _ _
      | exact wogglelaw09_lives.mono _
      | exact woggleref01_Same.mono _ _ _
      | exact woggleref09_Power.mono _ _ _
      | exact woggleref09_Sees.mono _ _ _
      | exact LeO.none _
      | refine LeO.ite ?_ ?_
      | refine LeO.bind ?_ (fun _ => ?_)
    · intro y0 y1 y2 y3 y4 y5 y6 y7 y8 y9 y10 y11 y12 y13
      unfold wogglelaw09_HatMore.l2
      repeat' first
      | (with_reducible exact ih0 _ _ _ _ _ _ _ _ _)
      | (with_reducible exact ih1 _ _ _ _ _ _ _ _ _ _ _)
      | (with_reducible exact ih2 _ _ _ _ _ _ _ _ _ _ _ _ _ _)
      | (with_reducible exact ih3 _ _ _ _ _ _ _ _ _ _ _ _ _ _)
      | (with_reducible exact hat_Loses.mono _ _ _ _ _)
      | (with_reducible exact wogglelaw09_Deal_made.mono _ _ _ _ _)
      | (with_reducible exact wogglelaw09_lives.mono _)
      | (with_reducible exact woggleref01_Same.mono _ _ _)
      | (with_reducible exact woggleref09_Power.mono _ _ _)
      | (with_reducible exact woggleref09_Sees.mono _ _ _)
      | (with_reducible exact LeO.refl _)
      | (with_reducible exact LeO.none _)
      | (with_reducible refine LeO.ite ?_ ?_)
      | (with_reducible refine LeO.bind ?_ (fun _ => ?_))
      | exact ih0 _ _ _ _ _ _ _ _ _
      | exact ih1 _ _ _ _ _ _ _ _ _ _ _
      | exact ih2 _ _ _ _ _ _ _ _ _ _ _ _ _ _
      | exact ih3 _ _ _ _ _ _ _ _ _ _ _ _ _ _
      | exact hat_Loses.mono _ _ _ _ _
      | exact wogglelaw09_Deal_made.mono _ _ _ _ _
      | exact wogglelaw09_lives.mono _
      | exact woggleref01_Same.mono _ _ _
      | exact woggleref09_Power.mono _ _ _
      | exact woggleref09_Sees.mono _ _ _
      | exact LeO.none _
      | refine LeO.ite ?_ ?_
      | refine LeO.bind ?_ (fun _ => ?_)
    · intro y0 y1 y2 y3 y4 y5 y6 y7 y8 y9 y10 y11 y12 y13
      unfold wogglelaw09_HatMore.l3
      repeat' first
      | (with_reducible exact ih0 _ _ _ _ _ _ _ _ _)
      | (with_reducible exact ih1 _ _ _ _ _ _ _ _ _ _ _)
      | (with_reducible exact ih2 _ _ _ _ _ _ _ _ _ _ _ _ _ _)
      | (with_reducible exact ih3 _ _ _ _ _ _ _ _ _ _ _ _ _ _)
      | (with_reducible exact hat_Loses.mono _ _ _ _ _)
      | (with_reducible exact wogglelaw09_Deal_made.mono _ _ _ _ _)
      | (with_reducible exact wogglelaw09_lives.mono _)
      | (with_reducible exact woggleref01_Same.mono _ _ _)
      | (with_reducible exact woggleref09_Power.mono _ _ _)
      | (with_reducible exact woggleref09_Sees.mono _ _ _)
      | (with_reducible exact LeO.refl _)
      | (with_reducible exact LeO.none _)
      | (with_reducible refine LeO.ite ?_ ?_)
      | (with_reducible refine LeO.bind ?_ (fun _ => ?_))
      | exact ih0 _ _ _ _ _ _ _ _ _
      | exact ih1 _ _ _ _ _ _ _ _ _ _ _
      | exact ih2 _ _ _ _ _ _ _ _ _ _ _ _ _ _
      | exact ih3 _ _ _ _ _ _ _ _ _ _ _ _ _ _
      | exact hat_Loses.mono _ _ _ _ _
      | exact wogglelaw09_Deal_made.mono _ _ _ _ _
      | exact wogglelaw09_lives.mono _
      | exact woggleref01_Same.mono _ _ _
      | exact woggleref09_Power.mono _ _ _
      | exact woggleref09_Sees.mono _ _ _
      | exact LeO.none _
      | refine LeO.ite ?_ ?_
      | refine LeO.bind ?_ (fun _ => ?_)
theorem wogglelaw09_HatMore.mono : ∀ a0 a1 a2 a3 a4 a5 k, LeO (wogglelaw09_HatMore.f k a0 a1 a2 a3 a4 a5) (wogglelaw09_HatMore.f (k + 1) a0 a1 a2 a3 a4 a5) := by
  intro a0 a1 a2 a3 a4 a5 k
  obtain ⟨ih0, ih1, ih2, ih3⟩ := wogglelaw09_HatMore.mono_l k
  unfold wogglelaw09_HatMore.f
  repeat' first
      | (with_reducible exact ih0 _ _ _ _ _ _ _ _ _)
      | (with_reducible exact ih1 _ _ _ _ _ _ _ _ _ _ _)
      | (with_reducible exact ih2 _ _ _ _ _ _ _ _ _ _ _ _ _ _)
      | (with_reducible exact ih3 _ _ _ _ _ _ _ _ _ _ _ _ _ _)
      | (with_reducible exact hat_Loses.mono _ _ _ _ _)
      | (with_reducible exact wogglelaw09_Deal_made.mono _ _ _ _ _)
      | (with_reducible exact wogglelaw09_lives.mono _)
      | (with_reducible exact woggleref01_Same.mono _ _ _)
      | (with_reducible exact woggleref09_Power.mono _ _ _)
      | (with_reducible exact woggleref09_Sees.mono _ _ _)
      | (with_reducible exact LeO.refl _)
      | (with_reducible exact LeO.none _)
      | (with_reducible refine LeO.ite ?_ ?_)
      | (with_reducible refine LeO.bind ?_ (fun _ => ?_))
      | exact ih0 _ _ _ _ _ _ _ _ _
      | exact ih1 _ _ _ _ _ _ _ _ _ _ _
      | exact ih2 _ _ _ _ _ _ _ _ _ _ _ _ _ _
      | exact ih3 _ _ _ _ _ _ _ _ _ _ _ _ _ _
      | exact hat_Loses.mono _ _ _ _ _
      | exact wogglelaw09_Deal_made.mono _ _ _ _ _
      | exact wogglelaw09_lives.mono _
      | exact woggleref01_Same.mono _ _ _
      | exact woggleref09_Power.mono _ _ _
      | exact woggleref09_Sees.mono _ _ _
      | exact LeO.none _
      | refine LeO.ite ?_ ?_
      | refine LeO.bind ?_ (fun _ => ?_)
/-- THE ONE PURE STATEMENT of wogglelaw09_HatMore: yours. -/
def wogglelaw09_HatMore.Pure : Prop := ∀ (a0_0 : Int) (a0_1 : Int) (a0_2 : Int) (l0_3 : List Int) (a1_0 : Int) (a1_1 : Int), (Lit.int .u8 a0_0).wf = true → (Lit.int .u8 a0_1).wf = true → (Lit.int .u8 a0_2).wf = true → (l0_3.length ≤ maxLen ∧ ∀ x0_ ∈ l0_3, (Lit.int .u8 x0_).wf = true) → (Lit.int .u8 a1_0).wf = true → (Lit.int .u8 a1_1).wf = true → ∃ k, wogglelaw09_HatMore.f k a0_0 a0_1 a0_2 l0_3 a1_0 a1_1 = some true

end Go.Proofs.Ytgjmfehdjbepiaa.P
