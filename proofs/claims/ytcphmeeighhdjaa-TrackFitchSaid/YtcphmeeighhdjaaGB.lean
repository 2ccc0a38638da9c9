/- The contract of track.read: the problem in memory, or the error; and of the function literals that it makes. -/
import Derived.Test.YtcphmeeighhdjaaGA
import Derived.Test.YtcphmeeighhdjaaPF51
namespace Go.Proofs.Ytcphmeeighhdjaa.P
set_option linter.unusedVariables false
open Go.RowKit Go.Proofs.YtcphmeeighhdjaaW.PrintWords Go.Proofs.YtcphmeeighhdjaaW.PrintLast Go.Proofs.YtcphmeeighhdjaaW.PrintMore

/-- A cost that is none. -/
def badCost (c : Int) : Bool := decide (c < 0) || decide (c > 100)
def badRow (k : Int) (row : List Int) : Bool := ((row.length : Int) != k) || row.any badCost
theorem cost_bad (W : World) (x : Int) : Calls Try.prog 70 #[.int .i64 x] W fun e w' => e = .returned (.bool (badCost x)) ∧ Drawn0 W w' := by
  by_cases h1 : x < 0
  · have h1b : decide (x < 0) = true := decide_eq_true h1
    have hf : Aside0 (badCost x = true) := ⟨by simp [badCost, h1]⟩
    clear h1
    go_enter Try.func70, Try.ntmps70
    go_wp2
    repeat (go_quiet (fail); try go_wp2)
    go_ret
    exact ⟨by rw [hf.out]; rfl, by repeat (first | exact Drawn0.refl _ | apply Drawn0.step)⟩
  · have h1b : decide (x < 0) = false := decide_eq_false h1
    have hf : Aside0 (badCost x = decide (100 < x)) := ⟨by simp [badCost, h1]⟩
    clear h1
    go_enter Try.func70, Try.ntmps70
    go_wp2
    repeat (go_quiet (fail); try go_wp2)
    go_ret
    exact ⟨by rw [hf.out]; rfl, by repeat (first | exact Drawn0.refl _ | apply Drawn0.step)⟩
theorem row_costs (A : Option Addr) (c : Nat) (l : List Int) (w : World) (hr : Kd.C (Kd.int .i64) w A l.length l) :
    Calls Try.prog 67 #[.slice A l.length c, .func (.func 70) #[] #[]] w fun e w' => e = .returned (.bool (l.any badCost)) ∧ Below w.heap.size w w' := by
  refine containsFunc.calls badCost 70 #[] (Go.Proofs.enters_of Try.func70 (by kernel_rfl) rfl) A c l w hr ?_
  intro W x hb
  refine (cost_bad W x).mono ?_
  rintro e w' ⟨rfl, hd⟩
  exact ⟨rfl, hb.trans (hd.below.mono hb.size)⟩
theorem row_bad (A : Option Addr) (c : Nat) (l : List Int) (k : Int) (B : Nat) (W : World) (hr : Kd.C (Kd.int .i64) W A l.length l) (hc : W.cell? ⟨B, 0, none⟩ = some (.int .i64 k)) :
    Calls Try.prog 69 #[.slice A l.length c, .pointer (some ⟨B, 0, none⟩)] W fun e w' => e = .returned (.bool (badRow k l)) ∧ Below W.heap.size W w' := by
  have HR := Aside0.mk (row_costs A c l W hr)
  clear hr
  by_cases h1 : (l.length : Int) = k
  · have h1b : ((l.length : Int) != k) = false := bne_eq_false_iff_eq.2 h1
    have hf : Aside0 (badRow k l = l.any badCost) := ⟨by unfold badRow; rw [h1b, Bool.false_or]⟩
    clear h1
    go_enter Try.func69, Try.ntmps69
    go_wp2_with (go_at_call 67; refine HR.out.mono ?_; rintro e w' ⟨rfl, hb'⟩)
    go_ret
    exact ⟨by rw [hf.out]; rfl, hb'⟩
  · have h1b : ((l.length : Int) != k) = true := bne_iff_ne.2 h1
    have hf : Aside0 (badRow k l = true) := ⟨by unfold badRow; rw [h1b, Bool.true_or]⟩
    clear h1
    go_enter Try.func69, Try.ntmps69
    go_wp2
    go_ret
    exact ⟨by rw [hf.out]; rfl, Below.refl _ _⟩
/-- A problem in memory. -/
structure Prob (W : World) (G : Nat) (n : Int) (AJ : Option Addr) (cJ : Nat) (J : List S67) (AL : Option Addr) (cL : Nat) (L : List Int) (k : Int) (B : Nat) (AC : Option Addr) (cC : Nat) (C : List (List Int)) : Prop where
  c0 : W.cell? ⟨G, 0, none⟩ = some (.int .i64 n)
  c1 : W.cell? ⟨G, 1, none⟩ = some (.slice AJ J.length cJ)
  c2 : W.cell? ⟨G, 2, none⟩ = some (.slice AL L.length cL)
  c3 : W.cell? ⟨G, 3, none⟩ = some (.int .i64 k)
  c4 : W.cell? ⟨G, 4, none⟩ = some (.func (.func 72) #[] #[.pointer (some ⟨B, 0, none⟩)])
  cB : W.cell? ⟨B, 0, none⟩ = some (.slice AC C.length cC)
  rJ : Kd.C k67 W AJ J.length J
  lJ : J.length ≤ cJ
  rL : Kd.C (Kd.int .i64) W AL L.length L
  lL : L.length ≤ cL
  rC : Kd.C (Kd.slice 3 (Kd.int .i64)) W AC C.length C
  lC : C.length ≤ cC
theorem Prob.below {W W1 : World} {G : Nat} {n : Int} {AJ : Option Addr} {cJ : Nat} {J : List S67} {AL : Option Addr} {cL : Nat} {L : List Int} {k : Int} {B : Nat} {AC : Option Addr} {cC : Nat} {C : List (List Int)}
    (h : Prob W G n AJ cJ J AL cL L k B AC cC C) (hb : Below W.heap.size W W1) : Prob W1 G n AJ cJ J AL cL L k B AC cC C :=
  ⟨(hb.cell (World.block_lt_of_cell? _ _ h.c0)).trans h.c0, (hb.cell (World.block_lt_of_cell? _ _ h.c1)).trans h.c1, (hb.cell (World.block_lt_of_cell? _ _ h.c2)).trans h.c2, (hb.cell (World.block_lt_of_cell? _ _ h.c3)).trans h.c3, (hb.cell (World.block_lt_of_cell? _ _ h.c4)).trans h.c4,
    (hb.cell (World.block_lt_of_cell? _ _ h.cB)).trans h.cB, Kd.C_below h.rJ hb, h.lJ, Kd.C_below h.rL hb, h.lL, Kd.C_below h.rC hb, h.lC⟩
/-- The error of read; 0: none. -/
def readErr (k : Nat) (n : Int) (J : List S67) (C : List (List Int)) (L : List Int) : Option Int :=
  (track_tree.f k n J).bind fun b => if b = true then (if (C.length : Int) < 1 then some 1 else if (C.length : Int) > 4 then some 1 else if C.any (badRow C.length) = true then some 1 else (track_states.f L n C.length).bind fun s => if s = true then some 0 else some 2) else some 1
theorem readErr_mono (k : Nat) (n : Int) (J : List S67) (C : List (List Int)) (L : List Int) : LeO (readErr k n J C L) (readErr (k + 1) n J C L) := by
  unfold readErr
  exact LeO.bind (track_tree.mono _ _ _) (fun _ => LeO.refl _)
set_option maxRecDepth 100000 in
set_option maxHeartbeats 4000000 in
theorem read_calls (k : Nat) (n : Int) (AJ : Option Addr) (cJ : Nat) (J : List S67) (AC : Option Addr) (cC : Nat) (C : List (List Int)) (AL : Option Addr) (cL : Nat) (L : List Int) (x : Int) (w : World)
    (rJ : Kd.C k67 w AJ J.length J) (lJ : J.length ≤ cJ) (rC : Kd.C (Kd.slice 3 (Kd.int .i64)) w AC C.length C) (lC : C.length ≤ cC) (rL : Kd.C (Kd.int .i64) w AL L.length L) (lL : L.length ≤ cL) (h : readErr k n J C L = some x) :
    Calls Try.prog 55 #[.int .i64 n, .slice AJ J.length cJ, .slice AC C.length cC, .slice AL L.length cL] w fun e w' =>
      ∃ A : Option Addr, e = .returned (.tuple #[.pointer A, .int .i64 x]) ∧ Below w.heap.size w w' ∧ (x = 0 → ∃ G, A = some ⟨G, 0, none⟩ ∧ Prob w' G n AJ cJ J AL cL L C.length w.heap.size AC cC C) := by
  unfold readErr at h
  obtain ⟨b, ht, h⟩ := Option.bind_eq_some_iff.mp h
  have RJ := Aside0.mk rJ
  have LJ := Aside0.mk lJ
  have RC := Aside0.mk rC
  have LC := Aside0.mk lC
  have RL := Aside0.mk rL
  have LL := Aside0.mk lL
  have HT := Aside0.mk ht
  have HH := Aside0.mk h
  obtain ⟨w1, hw1⟩ : ∃ w1, (w.alloc (.cells #[.slice AC C.length cC] 29)).alloc (.cells #[.int .i64 (C.length : Int)] 3) = w1 := ⟨_, rfl⟩
  have B1 : Below w.heap.size w w1 := by rw [← hw1]; exact below_alloc (below_alloc (Below.refl _ _) _) _
  have S1 : w1.heap.size = w.heap.size + 2 := by rw [← hw1]; simp
  have C1 : w1.cell? ⟨w.heap.size, 0, none⟩ = some (.slice AC C.length cC) := by rw [← hw1]; simp
  have C2 : w1.cell? ⟨w.heap.size + 1, 0, none⟩ = some (.int .i64 (C.length : Int)) := by rw [← hw1]; simp
  have HB1 := Aside0.mk B1
  have HS1 := Aside0.mk S1
  have HC1 := Aside0.mk C1
  have HC2 := Aside0.mk C2
  have HTC := Aside0.mk (track_tree.calls k n AJ cJ J b w1 (Kd.C_below rJ B1) lJ ht)
  have HW1 := Aside0.mk hw1
  clear rJ lJ rC lC rL lL ht h B1 S1 C1 C2
  go_enter Try.func55, Try.ntmps55
  go_wp2_with (fail)
  refine HTC.out.mono ?_
  rintro e w2 ⟨rfl, hb2⟩
  have HB2 := Aside0.mk (HB1.out.trans (hb2.mono HB1.out.size))
  have hS2 : w.heap.size + 2 ≤ w2.heap.size := by have := hb2.size; rw [HS1.out] at this; exact this
  have HS2 := Aside0.mk hS2
  have hcB := (hb2.cell (p := ⟨w.heap.size, 0, none⟩) (by show w.heap.size < w1.heap.size; rw [HS1.out]; omega)).trans HC1.out
  have hcK := (hb2.cell (p := ⟨w.heap.size + 1, 0, none⟩) (by show w.heap.size + 1 < w1.heap.size; rw [HS1.out]; omega)).trans HC2.out
  have HCB := Aside0.mk hcB
  have HCK := Aside0.mk hcK
  clear hb2 HC1 HC2 hS2 HTC hw1 HW1 h
  cases b with
  | false =>
    have hH := HH.out
    rw [if_neg (by decide)] at hH
    obtain rfl := Option.some.inj hH
    clear hH HH
    go_wp2
    go_ret2
    exact ⟨_, rfl, HB2.out, fun h => absurd h (by decide)⟩
  | true =>
    have hH := HH.out
    rw [if_pos rfl] at hH
    clear HH
    by_cases k1 : (C.length : Int) < 1
    · rw [if_pos k1] at hH
      obtain rfl := Option.some.inj hH
      have k1b : decide ((C.length : Int) < 1) = true := decide_eq_true k1
      have k1c : decide (C.length < 1) = true := decide_eq_true (by omega)
      clear hH k1
      go_wp2
      go_ret2
      exact ⟨_, rfl, HB2.out, fun h => absurd h (by decide)⟩
    · rw [if_neg k1] at hH
      have k1b : decide ((C.length : Int) < 1) = false := decide_eq_false k1
      have k1c : decide (C.length < 1) = false := decide_eq_false (by omega)
      by_cases k2 : (C.length : Int) > 4
      · rw [if_pos k2] at hH
        obtain rfl := Option.some.inj hH
        have k2b : decide (4 < (C.length : Int)) = true := decide_eq_true k2
        have k2c : decide (4 < C.length) = true := decide_eq_true (by omega)
        clear hH k1 k2
        go_wp2
        go_ret2
        exact ⟨_, rfl, HB2.out, fun h => absurd h (by decide)⟩
      · rw [if_neg k2] at hH
        have k2b : decide (4 < (C.length : Int)) = false := decide_eq_false k2
        have k2c : decide (4 < C.length) = false := decide_eq_false (by omega)
        have HH := Aside0.mk hH
        have hcon := containsRow (badRow C.length) 69 #[.pointer (some ⟨w.heap.size + 1, 0, none⟩)] (Go.Proofs.enters_of Try.func69 (by kernel_rfl) rfl) AC cC C w2 w2 (Below.refl _ _) (Kd.C_below RC.out HB2.out)
          (fun W y A c _ hbW hC _ => row_bad A c y C.length (w.heap.size + 1) W hC ((hbW.cell (p := ⟨w.heap.size + 1, 0, none⟩) (by have := HS2.out; show w.heap.size + 1 < w2.heap.size; omega)).trans HCK.out))
        rw [firstRow_any] at hcon
        clear hH k1 k2
        go_wp2_with (fail)
        refine hcon.mono ?_
        rintro e w3 ⟨rfl, hb3⟩
        clear hcon
        have HB3 := Aside0.mk (HB2.out.trans (hb3.mono HB2.out.size))
        have hcB3 := (hb3.cell (World.block_lt_of_cell? _ _ hcB)).trans hcB
        have hcK3 := (hb3.cell (World.block_lt_of_cell? _ _ hcK)).trans hcK
        have HCB3 := Aside0.mk hcB3
        clear hb3 hcB hcK HCK HCB
        cases ha : C.any (badRow C.length) with
        | true =>
          have hH := HH.out
          rw [if_pos ha] at hH
          obtain rfl := Option.some.inj hH
          clear hH HH
          go_wp2
          go_ret2
          exact ⟨_, rfl, HB3.out, fun h => absurd h (by decide)⟩
        | false =>
          have hH := HH.out
          rw [if_neg (by rw [ha]; decide)] at hH
          obtain ⟨s, hs, hH⟩ := Option.bind_eq_some_iff.mp hH
          have hst := track_states.calls AL cL L n C.length s w3 (Kd.C_below RL.out HB3.out) LL.out hs
          have HH2 := Aside0.mk hH
          clear hH HH hs ha
          go_wp2_with (fail)
          refine hst.mono ?_
          rintro e w4 ⟨rfl, hb4⟩
          clear hst
          have HB4 := Aside0.mk (HB3.out.trans (hb4.mono HB3.out.size))
          have hcB4 := (hb4.cell (World.block_lt_of_cell? _ _ hcB3)).trans hcB3
          have hcK4 := (hb4.cell (World.block_lt_of_cell? _ _ hcK3)).trans hcK3
          have HCB4 := Aside0.mk hcB4
          clear hb4 hcB3 hcK3 HCB3
          cases s with
          | false =>
            have hH := HH2.out
            rw [if_neg (by decide)] at hH
            obtain rfl := Option.some.inj hH
            clear hH HH2
            go_wp2
            go_ret2
            exact ⟨_, rfl, HB4.out, fun h => absurd h (by decide)⟩
          | true =>
            have hH := HH2.out
            rw [if_pos rfl] at hH
            obtain rfl := Option.some.inj hH
            clear hH HH2
            go_wp2
            go_ret2
            refine ⟨_, rfl, below_alloc HB4.out _, _, rfl, ?_⟩
            have hb5 := below_alloc HB4.out (.cells #[.int .i64 n, .slice AJ J.length cJ, .slice AL L.length cL, .int .i64 (C.length : Int), .func (.func 72) #[] #[.pointer (some ⟨w.heap.size, 0, none⟩)]] 97)
            refine ⟨by simp, by simp, by simp, by simp, by simp, ?_, Kd.C_below RJ.out hb5, LJ.out, Kd.C_below RL.out hb5, LL.out, Kd.C_below RC.out hb5, LC.out⟩
            exact ((below_alloc (Below.refl w4.heap.size w4) _).cell (World.block_lt_of_cell? _ _ HCB4.out)).trans HCB4.out

end Go.Proofs.Ytcphmeeighhdjaa.P
