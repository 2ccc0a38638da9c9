/- The contract of hat.Right: the number of right guesses over all hats, or the error. -/
import Derived.Test.YtgjmfehdjbepiaaG43
namespace Go.Proofs.Ytgjmfehdjbepiaa.P
set_option linter.unusedVariables false
open Go.RowKit Go.Proofs.YtgjmfehdjbepiaaW.PrintWords Go.Proofs.YtgjmfehdjbepiaaW.PrintLast Go.Proofs.YtgjmfehdjbepiaaW.PrintMore

def hat_Right.l0 : Nat → List S103 → List (List Int) → List (List Int) → Int → Int → Option Int
  | 0, _, _, _, _, _ => none
  | k + 1, g, t, L, s, i => if i < (L.length : Int) then (if 0 ≤ i then (hat_game_right.f k g t (rd_L2 L i)).bind fun x => hat_Right.l0 k g t L (wrap64 (s + x)) (wrap64 (i + 1)) else none) else some s
theorem hat_Right.mono_l : ∀ k g t L s i, LeO (hat_Right.l0 k g t L s i) (hat_Right.l0 (k + 1) g t L s i)
  | 0 => fun _ _ _ _ _ r h => by simp [hat_Right.l0] at h
  | k + 1 => by
    intro g t L s i
    unfold hat_Right.l0
    exact LeO.ite (LeO.ite (LeO.bind (hat_game_right.mono _ _ _ _) (fun _ => hat_Right.mono_l k _ _ _ _ _)) (LeO.refl _)) (LeO.refl _)
/-- What Right answers, and its error. -/
def hat_Right.f (k : Nat) (a0 a1 : Int) (l2 : List S71) (l3 : List (List Int)) : Option (Int × Int) :=
  (withOf k a0 a1 l2 l3).bind fun gx => if gx.2 = 0 then (hat_game_all.f k gx.1).bind fun L => (hat_Right.l0 k gx.1 l3 L 0 0).bind fun s => some (s, 0) else some (0, gx.2)
theorem hat_Right.mono : ∀ a0 a1 a2 a3 k, LeO (hat_Right.f k a0 a1 a2 a3) (hat_Right.f (k + 1) a0 a1 a2 a3) := by
  intro a0 a1 a2 a3 k
  unfold hat_Right.f
  exact LeO.bind (withOf_mono _ _ _ _ _) (fun _ => LeO.ite (LeO.bind (hat_game_all.mono _ _) (fun _ => LeO.bind (hat_Right.mono_l _ _ _ _ _ _) (fun _ => LeO.refl _))) (LeO.refl _))
set_option maxHeartbeats 8000000 in
set_option maxRecDepth 100000 in
theorem hat_Right.calls (k : Nat) (a0 : Int) (a1 : Int) (A2 : Option Addr) (c2 : Nat) (l2 : List S71) (A3 : Option Addr) (c3 : Nat) (l3 : List (List Int)) (r1 : Int) (r2 : Int) (w : World) (hr2 : Kd.C k71 w A2 l2.length l2) (hc2 : l2.length ≤ c2)
    (hr3 : Kd.C (Kd.slice 3 (Kd.int .i64)) w A3 l3.length l3) (hc3 : l3.length ≤ c3) (h : hat_Right.f k a0 a1 l2 l3 = some (r1, r2)) :
    Calls Try.prog 47 #[.int .i64 a0, .int .i64 a1, .slice A2 l2.length c2, .slice A3 l3.length c3] w fun e w' => e = .returned (.tuple #[.int .i64 r1, .int .i64 r2]) ∧ Below w.heap.size w w' := by
  unfold hat_Right.f at h
  obtain ⟨⟨g, x⟩, hw, h⟩ := Option.bind_eq_some_iff.mp h
  replace h : (if x = 0 then (hat_game_all.f k g).bind fun L => (hat_Right.l0 k g l3 L 0 0).bind fun s => some (s, 0) else some (0, x)) = some (r1, r2) := h
  have HW := Aside0.mk (with_calls k a0 a1 A2 c2 l2 A3 c3 l3 w hr2 hc2 hr3 hc3 g x hw)
  by_cases hx : x = 0
  · subst hx
    rw [if_pos rfl] at h
    obtain ⟨hg, rfl⟩ := withOf_zero hw
    obtain ⟨t602, hy, h⟩ := Option.bind_eq_some_iff.mp h
    obtain ⟨res, hs, h⟩ := Option.bind_eq_some_iff.mp h
    obtain ⟨rfl, rfl⟩ : res = r1 ∧ (0 : Int) = r2 := by simpa using h
    have A3' := Aside0.mk hy
    have H' := Aside0.mk hs
    have HR3 := Aside0.mk hr3
    have HC3 := Aside0.mk hc3
    clear hw h hr2 hc2 hr3 hc3 hg hy hs
    go_enter Try.func47, Try.ntmps47
    go_wp2_with (fail)
    refine HW.out.mono ?_
    rintro e w1 ⟨A, rfl, hG, hb1, _⟩
    have HG := Aside0.mk hG
    have HB1 := Aside0.mk hb1
    clear hG hb1
    go_wp2_with (fail)
    refine (hat_game_all.calls k A 1 [gameOf a0 a1 l2] t602 w1 HG.out (by simp) A3'.out).mono ?_
    rintro e w2 ⟨va, rfl, hS, hb2⟩
    obtain ⟨Aa, ca, rfl⟩ := Kd.S_slice hS
    have HS := Aside0.mk hS
    have HB := Aside0.mk (HB1.out.trans (hb2.mono HB1.out.size))
    have HG2 := Aside0.mk (Kd.C_below HG.out hb2)
    have HR4 := Aside0.mk (Kd.C_below HR3.out HB.out)
    clear hS hb2
    go_wp2
    go_loopg [12, 29] k (fun kq v12 v29 w' => ∃ (s i : Int), v12 = .int .i64 s ∧ v29 = .int .i64 i ∧ Aside0 (hat_Right.l0 kq [gameOf a0 a1 l2] l3 t602 s i = some res) ∧ Aside0 (kq ≤ k) ∧ Aside0 (∃ nd, w' = w2.drewN nd))
    case atStart => exact ⟨0, 0, rfl, rfl, H', ⟨Nat.le_refl _⟩, ⟨⟨0, by first | rfl | simp⟩⟩⟩
    case round =>
      clear H'
      obtain ⟨s, i, rfl, rfl, HA, HK1, HD⟩ := hrel
      obtain ⟨nd, rfl⟩ := HD.out
      clear HD
      cases gk with
      | zero => exact absurd HA.out (by simp [hat_Right.l0])
      | succ k1 =>
        have H := HA.out
        clear HA
        simp only [hat_Right.l0] at H
        by_cases c6 : i < (t602.length : Int)
        · rw [if_pos c6] at H
          have c6b0 : decide (i < (t602.length : Int)) = true := decide_eq_true c6
          by_cases c7 : 0 ≤ i
          · rw [if_pos c7] at H
            have c7b0 : decide (0 ≤ i) = true := decide_eq_true c7
            obtain ⟨t606, A90, H⟩ := Option.bind_eq_some_iff.mp H
            have A9 := Aside0.mk A90
            have H' := Aside0.mk H
            clear A90 H
            obtain ⟨ad605, A605_0, c605_0, e605, hx605_0, hl605_0, hi605_0⟩ := at_L2 (Kd.C_drewN (Kd.S_reads' HS.out).2.2 nd) i c7 c6
            cases e605
            have HR605_0 := Aside0.mk hi605_0
            have HC605_0 := Aside0.mk hl605_0
            clear hi605_0 hl605_0
            have p605 := eq_true c7
            have q605 := eq_true c6
            clear c6 c7
            go_wp2_with (fail)
            (with_reducible refine (hat_game_right.calls k1 _ 1 [gameOf a0 a1 l2] _ _ l3 _ _ (rd_L2 t602 i) t606 _ ?side1 ?side2 ?side3 ?side4 ?side5 ?side6 A9.out).mono ?_)
            case side1 => exact Kd.C_drewN HG2.out nd
            case side2 => simp
            case side3 => exact Kd.C_drewN HR4.out nd
            case side4 => exact HC3.out
            case side5 => exact HR605_0.out
            case side6 => exact HC605_0.out
            rintro e w' ⟨rfl, ⟨nd2, rfl⟩⟩
            go_wp2
            go_roundg k1
            case measure => have := HK1.out; omega
            case rel => exact ⟨_, _, rfl, rfl, H', ⟨by have := HK1.out; omega⟩, ⟨⟨_, rfl⟩⟩⟩
          · rw [if_neg c7] at H
            exact absurd H (by simp)
        · rw [if_neg c6] at H
          have c6b0 : decide (i < (t602.length : Int)) = false := decide_eq_false c6
          obtain rfl := Option.some.inj H
          clear c6 H
          go_wp2
          go_ret2
          exact ⟨rfl, HB.out.trans ((Below.refl w2.heap.size w2 |> fun h => pw_below_drewN h nd).mono HB.out.size)⟩
  · rw [if_neg hx] at h
    obtain ⟨rfl, rfl⟩ : (0 : Int) = r1 ∧ x = r2 := by simpa using h
    have hxb : (x != 0) = true := by rw [bne_iff_ne]; exact hx
    clear hw h hr2 hc2 hr3 hc3 hx
    go_enter Try.func47, Try.ntmps47
    go_wp2_with (fail)
    refine HW.out.mono ?_
    rintro e w1 ⟨A, rfl, hG, hb1, _⟩
    clear hG
    go_wp2
    go_ret2
    exact ⟨rfl, hb1⟩

end Go.Proofs.Ytgjmfehdjbepiaa.P
