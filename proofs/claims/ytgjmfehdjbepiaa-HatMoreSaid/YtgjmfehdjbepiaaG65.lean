/- What hat.with answers: the game, or the error; for every game and strategy. -/
import Derived.Test.YtgjmfehdjbepiaaML1
import Derived.Test.YtgjmfehdjbepiaaML2
import Derived.Test.YtgjmfehdjbepiaaPF81
namespace Go.Proofs.Ytgjmfehdjbepiaa.P
set_option linter.unusedVariables false
open Go.RowKit Go.Proofs.YtgjmfehdjbepiaaW.PrintWords Go.Proofs.YtgjmfehdjbepiaaW.PrintLast Go.Proofs.YtgjmfehdjbepiaaW.PrintMore

/-- The game as it is read. -/
def gameOf (n q : Int) (l : List S71) : S103 := ⟨n, q, seesOf l n.toNat⟩
theorem with_good (k : Nat) (n q : Int) (A2 : Option Addr) (c2 : Nat) (l : List S71) (A3 : Option Addr) (c3 : Nat) (t : List (List Int)) (w : World) (hr2 : Kd.C k71 w A2 l.length l) (hc2 : l.length ≤ c2)
    (hr3 : Kd.C (Kd.slice 3 (Kd.int .i64)) w A3 t.length t) (hc3 : t.length ≤ c3) (hg : goodNums n q l) (hb : l.any (badEdge n) = false) (b : Bool) (ht : hat_game_tables.f k [gameOf n q l] t = some b) :
    Calls Try.prog 65 #[.int .i64 n, .int .i64 q, .slice A2 l.length c2, .slice A3 t.length c3] w fun e w' =>
      e = .returned (.tuple #[if b = true then .pointer (some ⟨w.heap.size + 1, 0, none⟩) else .pointer none, .int .i64 (if b = true then 0 else 2)]) ∧ Below w.heap.size w w' ∧
      Kd.C k103 w' (some ⟨w.heap.size + 1, 0, none⟩) 1 [gameOf n q l] := by
  have hrd := read_good n q A2 c2 l w hr2 hc2 hg
  rw [hb] at hrd
  have HRD := Aside0.mk hrd
  have HR3 := Aside0.mk hr3
  have HC3 := Aside0.mk hc3
  have HT := Aside0.mk ht
  clear hrd hr2 hc2 hr3 hc3 hg hb ht
  go_enter Try.func65, Try.ntmps65
  go_wp2_with (fail)
  refine HRD.out.mono ?_
  rintro e w1 ⟨rfl, hb1, hG⟩
  have HG := Aside0.mk hG
  have HB1 := Aside0.mk hb1
  clear hG hb1
  go_wp2_with (fail)
  refine (hat_game_tables.calls k _ 1 [gameOf n q l] _ _ t b w1 HG.out (by simp) (Kd.C_below HR3.out HB1.out) HC3.out HT.out).mono ?_
  rintro e w2 ⟨rfl, hb2⟩
  have HB2 := Aside0.mk (HB1.out.trans (hb2.mono HB1.out.size))
  have HG2 := Aside0.mk (Kd.C_below HG.out hb2)
  clear hb2
  cases b with
  | true =>
    go_wp2
    go_ret2
    exact ⟨rfl, HB2.out, HG2.out⟩
  | false =>
    go_wp2
    go_ret2
    exact ⟨rfl, HB2.out, HG2.out⟩
theorem with_bad (n q : Int) (A2 : Option Addr) (c2 : Nat) (l : List S71) (A3 : Option Addr) (c3 : Nat) (t : List (List Int)) (w : World) (hr2 : Kd.C k71 w A2 l.length l) (hc2 : l.length ≤ c2)
    (hbad : ¬ (goodNums n q l ∧ l.any (badEdge n) = false)) :
    Calls Try.prog 65 #[.int .i64 n, .int .i64 q, .slice A2 l.length c2, .slice A3 t.length c3] w fun e w' =>
      e = .returned (.tuple #[.pointer none, .int .i64 1]) ∧ Below w.heap.size w w' := by
  by_cases hg : goodNums n q l
  · have hrd := read_good n q A2 c2 l w hr2 hc2 hg
    have hb : l.any (badEdge n) = true := by
      cases h : l.any (badEdge n) with
      | true => rfl
      | false => exact absurd ⟨hg, h⟩ hbad
    rw [hb] at hrd
    have HRD := Aside0.mk hrd
    clear hrd hr2 hc2 hg hb hbad
    go_enter Try.func65, Try.ntmps65
    go_wp2_with (fail)
    refine HRD.out.mono ?_
    rintro e w1 ⟨rfl, hb1, hG⟩
    clear hG
    go_wp2
    go_ret2
    exact ⟨rfl, hb1⟩
  · have hrd := read_bad n q A2 c2 l w hc2 hg
    have HRD := Aside0.mk hrd
    clear hrd hr2 hc2 hg hbad
    go_enter Try.func65, Try.ntmps65
    go_wp2_with (fail)
    refine HRD.out.mono ?_
    rintro e w1 ⟨rfl, hb1⟩
    go_wp2
    go_ret2
    exact ⟨rfl, hb1⟩
/-- What hat.with answers in short: the game or none, and the error. -/
def withOf (k : Nat) (n q : Int) (l : List S71) (t : List (List Int)) : Option (List S103 × Int) :=
  if goodNums n q l ∧ l.any (badEdge n) = false then (hat_game_tables.f k [gameOf n q l] t).map fun b => if b = true then ([gameOf n q l], 0) else ([], 2) else some ([], 1)
theorem withOf_mono (k : Nat) (n q : Int) (l : List S71) (t : List (List Int)) : LeO (withOf k n q l t) (withOf (k + 1) n q l t) := by
  unfold withOf
  exact LeO.ite (LeO.map _ (hat_game_tables.mono _ _ _)) (LeO.refl _)
theorem with_calls (k : Nat) (n q : Int) (A2 : Option Addr) (c2 : Nat) (l : List S71) (A3 : Option Addr) (c3 : Nat) (t : List (List Int)) (w : World) (hr2 : Kd.C k71 w A2 l.length l) (hc2 : l.length ≤ c2)
    (hr3 : Kd.C (Kd.slice 3 (Kd.int .i64)) w A3 t.length t) (hc3 : t.length ≤ c3) (g : List S103) (x : Int) (h : withOf k n q l t = some (g, x)) :
    Calls Try.prog 65 #[.int .i64 n, .int .i64 q, .slice A2 l.length c2, .slice A3 t.length c3] w fun e w' =>
      ∃ A : Option Addr, e = .returned (.tuple #[.pointer A, .int .i64 x]) ∧ Kd.C k103 w' A g.length g ∧ Below w.heap.size w w' ∧ (x = 0 → g = [gameOf n q l]) := by
  unfold withOf at h
  by_cases hg : goodNums n q l ∧ l.any (badEdge n) = false
  · rw [if_pos hg] at h
    obtain ⟨b, hb, he⟩ := Option.map_eq_some_iff.1 h
    refine (with_good k n q A2 c2 l A3 c3 t w hr2 hc2 hr3 hc3 hg.1 hg.2 b hb).mono ?_
    rintro e w' ⟨rfl, hbl, hG⟩
    cases b with
    | true =>
      obtain ⟨rfl, rfl⟩ : [gameOf n q l] = g ∧ (0 : Int) = x := by simpa using he
      exact ⟨_, rfl, hG, hbl, fun _ => rfl⟩
    | false =>
      obtain ⟨rfl, rfl⟩ : [] = g ∧ (2 : Int) = x := by simpa using he
      exact ⟨_, rfl, Kd.C_nil _ _, hbl, fun h => absurd h (by decide)⟩
  · rw [if_neg hg] at h
    obtain ⟨rfl, rfl⟩ : [] = g ∧ (1 : Int) = x := by simpa using h
    refine (with_bad n q A2 c2 l A3 c3 t w hr2 hc2 hg).mono ?_
    rintro e w' ⟨rfl, hbl⟩
    exact ⟨_, rfl, Kd.C_nil _ _, hbl, fun h => absurd h (by decide)⟩

end Go.Proofs.Ytgjmfehdjbepiaa.P
