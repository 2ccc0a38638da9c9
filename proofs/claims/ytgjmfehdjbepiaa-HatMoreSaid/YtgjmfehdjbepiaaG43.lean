/- The contract of hat.Loses: the first hats for which nobody is right, or the error. -/
import Derived.Test.YtgjmfehdjbepiaaG65
import Derived.Test.YtgjmfehdjbepiaaG68
namespace Go.Proofs.Ytgjmfehdjbepiaa.P
set_option linter.unusedVariables false
open Go.RowKit Go.Proofs.YtgjmfehdjbepiaaW.PrintWords Go.Proofs.YtgjmfehdjbepiaaW.PrintLast Go.Proofs.YtgjmfehdjbepiaaW.PrintMore

theorem all_same {k : Nat} {g : List S103} {L M : List (List Int)} {j : Nat} (h : hat_game_all.f k g = some L) (h2 : hat_game_all.f j g = some M) : L = M := by
  have h1 := leo_up (f := fun k => hat_game_all.f k g) (fun k => hat_game_all.mono _ _) h j
  have h3 := leo_up (f := fun k => hat_game_all.f k g) (fun k => hat_game_all.mono _ _) h2 k
  rw [Nat.add_comm] at h3
  exact Option.some.inj (h1.symm.trans h3)
/-- All hats of a game that was read are some hats. -/
theorem all_hats (k : Nat) (n q : Int) (l : List S71) (hg : goodNums n q l) (L : List (List Int)) (h : hat_game_all.f k [gameOf n q l] = some L) : L = allHats n.toNat q := by
  obtain ⟨g1, g2, g3, g4, _⟩ := hg
  obtain ⟨n, rfl⟩ := Int.eq_ofNat_of_zero_le (show 0 ≤ n by omega)
  obtain ⟨j, hj⟩ := all_some n (by omega) q g3 g4 (seesOf l n)
  exact all_same h hj
theorem all_hats_ne (k : Nat) (n q : Int) (l : List S71) (hg : goodNums n q l) (L : List (List Int)) (h : hat_game_all.f k [gameOf n q l] = some L) : ∀ x ∈ L, x ≠ [] := by
  rw [all_hats k n q l hg L h]
  intro x hx h0
  unfold allHats at hx
  obtain ⟨y, _, rfl⟩ := List.mem_map.1 hx
  have : (digs q n.toNat y).reverse.length = 0 := by rw [h0]; rfl
  rw [List.length_reverse, digs_len] at this
  have := hg.1
  omega
theorem withOf_zero {k : Nat} {n q : Int} {l : List S71} {t : List (List Int)} {g : List S103} (h : withOf k n q l t = some (g, 0)) : goodNums n q l ∧ g = [gameOf n q l] := by
  unfold withOf at h
  by_cases hg : goodNums n q l ∧ l.any (badEdge n) = false
  · rw [if_pos hg] at h
    obtain ⟨b, hb, he⟩ := Option.map_eq_some_iff.1 h
    cases b with
    | true => exact ⟨hg.1, by simpa using he.symm⟩
    | false => simp at he
  · rw [if_neg hg] at h; simp at h
/-- What Loses answers, and its error. -/
def hat_Loses.f (k : Nat) (a0 a1 : Int) (l2 : List S71) (l3 : List (List Int)) : Option (List Int × Int) :=
  (withOf k a0 a1 l2 l3).bind fun gx => if gx.2 = 0 then (hat_game_loses.f k gx.1 l3).bind fun h => (if h.length = 0 then some (([] : List Int), 5) else some (h, 0)) else some ([], gx.2)
theorem hat_Loses.mono : ∀ a0 a1 a2 a3 k, LeO (hat_Loses.f k a0 a1 a2 a3) (hat_Loses.f (k + 1) a0 a1 a2 a3) := by
  intro a0 a1 a2 a3 k
  unfold hat_Loses.f
  refine LeO.bind (withOf_mono _ _ _ _ _) (fun _ => LeO.ite (LeO.bind (hat_game_loses.mono _ _ _) (fun _ => LeO.refl _)) (LeO.refl _))
theorem hat_Loses.calls (k : Nat) (a0 : Int) (a1 : Int) (A2 : Option Addr) (c2 : Nat) (l2 : List S71) (A3 : Option Addr) (c3 : Nat) (l3 : List (List Int)) (r1 : List Int) (r2 : Int) (w : World) (hr2 : Kd.C k71 w A2 l2.length l2) (hc2 : l2.length ≤ c2)
    (hr3 : Kd.C (Kd.slice 3 (Kd.int .i64)) w A3 l3.length l3) (hc3 : l3.length ≤ c3) (h : hat_Loses.f k a0 a1 l2 l3 = some (r1, r2)) :
    Calls Try.prog 43 #[.int .i64 a0, .int .i64 a1, .slice A2 l2.length c2, .slice A3 l3.length c3] w fun e w' => ∃ v0_ : Value, e = .returned (.tuple #[v0_, .int .i64 r2]) ∧ Kd.R (Kd.int .i64) 3 w' w.heap.size (fun _ => True) v0_ r1 ∧ Below w.heap.size w w' := by
  unfold hat_Loses.f at h
  obtain ⟨⟨g, x⟩, hw, h⟩ := Option.bind_eq_some_iff.mp h
  replace h : (if x = 0 then (hat_game_loses.f k g l3).bind fun h => (if h.length = 0 then some (([] : List Int), 5) else some (h, 0)) else some ([], x)) = some (r1, r2) := h
  have HW := Aside0.mk (with_calls k a0 a1 A2 c2 l2 A3 c3 l3 w hr2 hc2 hr3 hc3 g x hw)
  by_cases hx : x = 0
  · subst hx
    rw [if_pos rfl] at h
    obtain ⟨hg, rfl⟩ := withOf_zero hw
    obtain ⟨y, hy, h⟩ := Option.bind_eq_some_iff.mp h
    have HN := Aside0.mk (all_hats_ne k a0 a1 l2 hg)
    have HY := Aside0.mk hy
    have HH := Aside0.mk h
    have HR3 := Aside0.mk hr3
    have HC3 := Aside0.mk hc3
    clear hw h hr2 hc2 hr3 hc3 hg hy
    go_enter Try.func43, Try.ntmps43
    go_wp2_with (fail)
    refine HW.out.mono ?_
    rintro e w1 ⟨A, rfl, hG, hb1, _⟩
    have HG := Aside0.mk hG
    have HB1 := Aside0.mk hb1
    clear hG hb1
    go_wp2_with (fail)
    refine (hat_game_loses.calls_nil k A 1 [gameOf a0 a1 l2] A3 c3 l3 y w1 HG.out (by simp) (Kd.C_below HR3.out HB1.out) HC3.out HN.out HY.out).mono ?_
    rintro e w2 ⟨v, rfl, hR, hnil, hb2⟩
    have HB2 := Aside0.mk (HB1.out.trans (hb2.mono HB1.out.size))
    have HR := Aside0.mk (Kd.R_lower hR HB1.out.size)
    by_cases hy0 : y.length = 0
    · obtain rfl : v = .slice none 0 0 := hnil (List.eq_nil_of_length_eq_zero hy0)
      have hH := HH.out
      rw [if_pos hy0] at hH
      obtain ⟨rfl, rfl⟩ : [] = r1 ∧ (5 : Int) = r2 := by simpa using hH
      have hneq := fun W : World => Lib.run_eql_slice_nil (P := Try.prog) W 37 3 none 0 0 0 0 Try.underlying37
      clear hnil hH hb2 hR
      go_wp2
      go_ret2
      exact ⟨_, rfl, Kd.R_nil _ _ _ _ _, HB2.out⟩
    · have hH := HH.out
      rw [if_neg hy0] at hH
      obtain ⟨rfl, rfl⟩ : y = r1 ∧ (0 : Int) = r2 := by simpa using hH
      obtain ⟨A8, c8, rfl⟩ := Kd.R_slice hR
      obtain ⟨ad8, e8, _⟩ := Kd.at_int (Kd.R_reads' hR).2.2 0 (by omega) (by omega)
      subst e8
      have hneq := fun W : World => Lib.run_eql_slice_nil (P := Try.prog) W 37 3 (some ad8) y.length c8 0 0 Try.underlying37
      clear hnil hH hb2 hR hy0
      go_wp2
      go_ret2
      exact ⟨_, rfl, HR.out, HB2.out⟩
  · rw [if_neg hx] at h
    obtain ⟨rfl, rfl⟩ : [] = r1 ∧ x = r2 := by simpa using h
    have hxb : (x != 0) = true := by rw [bne_iff_ne]; exact hx
    clear hw h hr2 hc2 hr3 hc3 hx
    go_enter Try.func43, Try.ntmps43
    go_wp2_with (fail)
    refine HW.out.mono ?_
    rintro e w1 ⟨A, rfl, hG, hb1, _⟩
    clear hG
    go_wp2
    go_ret2
    exact ⟨_, rfl, Kd.R_nil _ _ _ _ _, hb1⟩

end Go.Proofs.Ytgjmfehdjbepiaa.P
