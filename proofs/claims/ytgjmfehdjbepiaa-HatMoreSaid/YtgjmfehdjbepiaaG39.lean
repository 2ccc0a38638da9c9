/- The contract of hat.Guesses: the guesses of all players, or the error. -/
import Derived.Test.YtgjmfehdjbepiaaG43
namespace Go.Proofs.Ytgjmfehdjbepiaa.P
set_option linter.unusedVariables false
open Go.RowKit Go.Proofs.YtgjmfehdjbepiaaW.PrintWords Go.Proofs.YtgjmfehdjbepiaaW.PrintLast Go.Proofs.YtgjmfehdjbepiaaW.PrintMore

def hat_Guesses.l0 : Nat → List S103 → List (List Int) → List Int → Int → List Int → Int → Option (List Int)
  | 0, _, _, _, _, _, _ => none
  | k + 1, g, t, h, n, out, i => if i < n then (hat_game_guess.f k g t h i).bind fun x => (if out.length < 17592186044416 then hat_Guesses.l0 k g t h n (out ++ [x]) (wrap64 (i + 1)) else none) else some out
theorem hat_Guesses.mono_l : ∀ k g t h n out i, LeO (hat_Guesses.l0 k g t h n out i) (hat_Guesses.l0 (k + 1) g t h n out i)
  | 0 => fun _ _ _ _ _ _ r h => by simp [hat_Guesses.l0] at h
  | k + 1 => by
    intro g t h n out i
    unfold hat_Guesses.l0
    exact LeO.ite (LeO.bind (hat_game_guess.mono _ _ _ _ _) (fun _ => LeO.ite (hat_Guesses.mono_l k _ _ _ _ _ _) (LeO.refl _))) (LeO.refl _)
/-- What Guesses answers, and its error. -/
def hat_Guesses.f (k : Nat) (a0 a1 : Int) (l2 : List S71) (l3 : List (List Int)) (l4 : List Int) : Option (List Int × Int) :=
  (withOf k a0 a1 l2 l3).bind fun gx => if gx.2 = 0 then (hat_valid.f 0 l4 a0 a1).bind fun b => (if b = true then (hat_Guesses.l0 k gx.1 l3 l4 a0 [] 0).bind fun s => some (s, 0) else some ([], 2)) else some ([], gx.2)
theorem hat_Guesses.mono : ∀ a0 a1 a2 a3 a4 k, LeO (hat_Guesses.f k a0 a1 a2 a3 a4) (hat_Guesses.f (k + 1) a0 a1 a2 a3 a4) := by
  intro a0 a1 a2 a3 a4 k
  unfold hat_Guesses.f
  exact LeO.bind (withOf_mono _ _ _ _ _) (fun _ => LeO.ite (LeO.bind (LeO.refl _) (fun _ => LeO.ite (LeO.bind (hat_Guesses.mono_l _ _ _ _ _ _ _) (fun _ => LeO.refl _)) (LeO.refl _))) (LeO.refl _))
set_option maxHeartbeats 8000000 in
set_option maxRecDepth 100000 in
theorem hat_Guesses.calls (k : Nat) (a0 : Int) (a1 : Int) (A2 : Option Addr) (c2 : Nat) (l2 : List S71) (A3 : Option Addr) (c3 : Nat) (l3 : List (List Int)) (A4 : Option Addr) (c4 : Nat) (l4 : List Int) (r1 : List Int) (r2 : Int) (w : World) (hr2 : Kd.C k71 w A2 l2.length l2) (hc2 : l2.length ≤ c2)
    (hr3 : Kd.C (Kd.slice 3 (Kd.int .i64)) w A3 l3.length l3) (hc3 : l3.length ≤ c3) (hr4 : Kd.C (Kd.int .i64) w A4 l4.length l4) (hc4 : l4.length ≤ c4) (h : hat_Guesses.f k a0 a1 l2 l3 l4 = some (r1, r2)) :
    Calls Try.prog 39 #[.int .i64 a0, .int .i64 a1, .slice A2 l2.length c2, .slice A3 l3.length c3, .slice A4 l4.length c4] w fun e w' => ∃ v0_ : Value, e = .returned (.tuple #[v0_, .int .i64 r2]) ∧ Kd.R (Kd.int .i64) 3 w' w.heap.size (fun _ => True) v0_ r1 ∧ Below w.heap.size w w' := by
  unfold hat_Guesses.f at h
  obtain ⟨⟨g, x⟩, hw, h⟩ := Option.bind_eq_some_iff.mp h
  replace h : (if x = 0 then (hat_valid.f 0 l4 a0 a1).bind fun b => (if b = true then (hat_Guesses.l0 k g l3 l4 a0 [] 0).bind fun s => some (s, 0) else some ([], 2)) else some ([], x)) = some (r1, r2) := h
  have HW := Aside0.mk (with_calls k a0 a1 A2 c2 l2 A3 c3 l3 w hr2 hc2 hr3 hc3 g x hw)
  by_cases hx : x = 0
  · subst hx
    rw [if_pos rfl] at h
    obtain ⟨hg, rfl⟩ := withOf_zero hw
    obtain ⟨b, hy, h⟩ := Option.bind_eq_some_iff.mp h
    have HY := Aside0.mk hy
    have HH := Aside0.mk h
    have HR3 := Aside0.mk hr3
    have HC3 := Aside0.mk hc3
    have HR4 := Aside0.mk hr4
    have HC4 := Aside0.mk hc4
    clear hw h hr2 hc2 hr3 hc3 hg hy hr4 hc4
    go_enter Try.func39, Try.ntmps39
    go_wp2_with (fail)
    refine HW.out.mono ?_
    rintro e w1 ⟨A, rfl, hG, hb1, _⟩
    have HG := Aside0.mk hG
    have HB1 := Aside0.mk hb1
    clear hG hb1
    go_wp2_with (fail)
    refine (hat_valid.calls 0 A4 c4 l4 a0 a1 b w1 (Kd.C_below HR4.out HB1.out) HC4.out HY.out).mono ?_
    rintro e w2 ⟨rfl, hb2⟩
    have HB := Aside0.mk (HB1.out.trans (hb2.mono HB1.out.size))
    have HG2 := Aside0.mk (Kd.C_below HG.out hb2)
    have HR32 := Aside0.mk (Kd.C_below HR3.out HB.out)
    have HR42 := Aside0.mk (Kd.C_below HR4.out HB.out)
    clear hb2
    cases b with
    | false =>
      have hH := HH.out
      rw [if_neg (by decide)] at hH
      obtain ⟨rfl, rfl⟩ : [] = r1 ∧ (2 : Int) = r2 := by simpa using hH
      clear hH
      go_wp2
      go_ret2
      exact ⟨_, rfl, Kd.R_nil _ _ _ _ _, HB.out⟩
    | true =>
      have hH := HH.out
      rw [if_pos rfl] at hH
      obtain ⟨res, hs, hH⟩ := Option.bind_eq_some_iff.mp hH
      obtain ⟨rfl, rfl⟩ : res = r1 ∧ (0 : Int) = r2 := by simpa using hH
      have H' := Aside0.mk hs
      clear hH hs HH
      go_wp2
      go_loopg [14, 35] k (fun kq v14 v35 w' => ∃ (out : List Int) (i : Int), v35 = .int .i64 i ∧ Aside0 (hat_Guesses.l0 kq [gameOf a0 a1 l2] l3 l4 a0 out i = some res) ∧ Aside0 (kq ≤ k) ∧ Aside0 (Kd.R (Kd.int .i64) 3 w' w2.heap.size (fun _ => True) v14 out) ∧ Aside0 (Below w2.heap.size w2 w'))
      case atStart => exact ⟨[], 0, rfl, H', ⟨Nat.le_refl _⟩, ⟨Kd.R_nil _ _ _ _ _⟩, ⟨Below.refl _ _⟩⟩
      case round =>
        clear H'
        obtain ⟨out, i, rfl, HA, HK1, HO, HBL⟩ := hrel
        cases gk with
        | zero => exact absurd HA.out (by simp [hat_Guesses.l0])
        | succ k1 =>
          have H := HA.out
          clear HA
          simp only [hat_Guesses.l0] at H
          by_cases c6 : i < a0
          · rw [if_pos c6] at H
            have c6b0 : decide (i < a0) = true := decide_eq_true c6
            obtain ⟨y, A90, H⟩ := Option.bind_eq_some_iff.mp H
            by_cases c7 : out.length < 17592186044416
            · rw [if_pos c7] at H
              have LM := Aside0.mk c7
              have A9 := Aside0.mk A90
              have H' := Aside0.mk H
              clear A90 H c6 c7
              go_wp2_with (fail)
              (with_reducible refine (hat_game_guess.calls k1 _ 1 [gameOf a0 a1 l2] _ _ l3 _ _ l4 i y _ ?side1 ?side2 ?side3 ?side4 ?side5 ?side6 A9.out).mono ?_)
              case side1 => exact Kd.C_below HG2.out HBL.out
              case side2 => simp
              case side3 => exact Kd.C_below HR32.out HBL.out
              case side4 => exact HC3.out
              case side5 => exact Kd.C_below HR42.out HBL.out
              case side6 => exact HC4.out
              rintro e w' ⟨rfl, ⟨nd2, rfl⟩⟩
              go_wp2_with (first | ((with_reducible refine gate_builtin (b := .append) (xs := #[.tmp 38, .tmp 44]) rfl ?_); at_builtin; refine Kd.R_append (Kd.int .i64) (w0 := w2) w2.heap.size rfl (.tmp 38) (.tmp 44) 37 3 (.int .i64 0) 8 rfl Try.underlying37 info3 rfl (by decide) (by omega) u14 out y [.int .i64 y] (fun _ => True) (fun _ => False) rfl rfl ?aP (fun _ hk => hk.elim) ?aF ?aO ?aB ?aS ?aL ?_; (case aP => exact rfl); (case aB => exact (by repeat (first | (with_reducible first | exact HBL.out | apply below_alloc | apply pw_below_drewN | apply below_drew1) | exact HBL.out))); (case aF => exact (fun _ _ => trivial)); (case aO => exact (by (with_reducible repeat (first | apply Kd.R_alloc | apply Kd.R_drewN | apply Kd.R_drew)); exact HO.out)); (case aS => exact (below_size (by repeat (first | (with_reducible first | exact HBL.out | apply below_alloc | apply pw_below_drewN | apply below_drew1) | exact HBL.out)))); (case aL => have := LM.out; omega); intro v268 w21 ho hb hg hat; have HO2 := Aside0.mk ho; have HBL2 := Aside0.mk hb; clear ho hb hg hat HO HBL))
              go_roundg k1
              case measure => have := HK1.out; omega
              case rel => exact ⟨_, _, rfl, H', ⟨by have := HK1.out; omega⟩, ⟨HO2.out⟩, ⟨HBL2.out⟩⟩
            · rw [if_neg c7] at H
              exact absurd H (by simp)
          · rw [if_neg c6] at H
            have c6b0 : decide (i < a0) = false := decide_eq_false c6
            obtain rfl := Option.some.inj H
            clear c6 H
            go_wp2
            go_ret2
            exact ⟨_, rfl, Kd.R_lower HO.out HB.out.size, HB.out.trans (HBL.out.mono HB.out.size)⟩
  · rw [if_neg hx] at h
    obtain ⟨rfl, rfl⟩ : [] = r1 ∧ x = r2 := by simpa using h
    have hxb : (x != 0) = true := by rw [bne_iff_ne]; exact hx
    clear hw h hr2 hc2 hr3 hc3 hx hr4 hc4
    go_enter Try.func39, Try.ntmps39
    go_wp2_with (fail)
    refine HW.out.mono ?_
    rintro e w1 ⟨A, rfl, hG, hb1, _⟩
    clear hG
    go_wp2
    go_ret2
    exact ⟨_, rfl, Kd.R_nil _ _ _ _ _, hb1⟩

end Go.Proofs.Ytgjmfehdjbepiaa.P
