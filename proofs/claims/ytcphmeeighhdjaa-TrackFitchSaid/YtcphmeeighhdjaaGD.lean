/- The contracts of the literals that track.read and sankoff make: a cost, and the least cost of an edge and what is below it; and of free. -/
import Derived.Test.YtcphmeeighhdjaaGC
namespace Go.Proofs.Ytcphmeeighhdjaa.P
set_option linter.unusedVariables false
open Go Go.RowKit Go.Proofs.YtcphmeeighhdjaaW.PrintWords Go.Proofs.YtcphmeeighhdjaaW.PrintLast Go.Proofs.YtcphmeeighhdjaaW.PrintMore

theorem cost_at (W : World) (B : Nat) (AC : Option Addr) (cC : Nat) (C : List (List Int)) (cB : W.cell? ⟨B, 0, none⟩ = some (.slice AC C.length cC)) (rC : Kd.C (Kd.slice 3 (Kd.int .i64)) W AC C.length C) (a b : Nat)
    (ha : a < C.length) (hb : b < (rd_L3 C a).length) : Calls Try.prog 72 #[.int .i64 a, .int .i64 b, .pointer (some ⟨B, 0, none⟩)] W fun e w' => e = .returned (.int .i64 (rd (rd_L3 C a) b)) ∧ Drawn0 W w' := by
  obtain ⟨ad, A1, c1, e1, hx, hl1, hi1⟩ := at_L3 rC a (by omega) (by omega)
  obtain ⟨ad2, e2, hy⟩ := Kd.at_int hi1 b (by omega) (by omega)
  cases e1
  cases e2
  rw [Int.toNat_natCast] at hx hy
  have h1 : decide (a < C.length) = true := decide_eq_true ha
  have h2 : decide (b < (rd_L3 C a).length) = true := decide_eq_true hb
  have h3 : ((a : Int) < (C.length : Int)) = True := eq_true (by omega)
  have h4 : ((b : Int) < ((rd_L3 C a).length : Int)) = True := eq_true (by omega)
  generalize rd (rd_L3 C a) b = y at *
  generalize (rd_L3 C a).length = n at *
  clear rC hi1 hl1
  go_enter Try.func72, Try.ntmps72
  go_wp2
  repeat (go_quiet (fail); try go_wp2)
  go_ret
  exact ⟨rfl, by repeat (first | exact Drawn0.refl _ | apply Drawn0.step)⟩
/-- The least cost of an edge and what is below it, and the number of ways, by the first states. -/
def belowTo (row ct ws : List Int) : Nat → Int × Int
  | 0 => (1073741824, 0)
  | m + 1 => if rd ws m = 0 then belowTo row ct ws m else if wrap64 (rd ct m + rd row m) < (belowTo row ct ws m).1 then (wrap64 (rd ct m + rd row m), rd ws m)
      else if wrap64 (rd ct m + rd row m) = (belowTo row ct ws m).1 then ((belowTo row ct ws m).1, wrap64 ((belowTo row ct ws m).2 + rd ws m)) else belowTo row ct ws m
set_option maxRecDepth 100000 in
set_option maxHeartbeats 8000000 in
theorem below_calls (W : World) (G : Nat) (n : Int) (AJ : Option Addr) (cJ : Nat) (J : List S67) (AL : Option Addr) (cL : Nat) (L : List Int) (k : Nat) (B : Nat) (AC : Option Addr) (cC : Nat) (C : List (List Int))
    (hp : Prob W G n AJ cJ J AL cL L k B AC cC C) (BP : Nat) (hBP : W.cell? ⟨BP, 0, none⟩ = some (.pointer (some ⟨G, 0, none⟩))) (hk : k ≤ 1000) (hC : C.length = k) (A0 : Option Addr) (c0 : Nat) (ct : List Int) (A1 : Option Addr) (c1 : Nat) (ws : List Int)
    (r0 : Kd.C (Kd.int .i64) W A0 ct.length ct) (r1 : Kd.C (Kd.int .i64) W A1 ws.length ws) (h0 : ct.length = k) (h1 : ws.length = k) (a : Nat) (ha : a < k) (hrow : (rd_L3 C a).length = k) :
    Calls Try.prog 84 #[.agg #[.slice A0 ct.length c0, .slice A1 ws.length c1], .int .i64 a, .pointer (some ⟨BP, 0, none⟩)] W fun e w' =>
      e = .returned (.tuple #[.int .i64 (belowTo (rd_L3 C a) ct ws k).1, .int .i64 (belowTo (rd_L3 C a) ct ws k).2]) ∧ Below W.heap.size W w' := by
  have HP := Aside0.mk hp
  have R0 := Aside0.mk r0
  have R1 := Aside0.mk r1
  have H := Aside0.mk (And.intro hk (And.intro hC (And.intro ha hrow)))
  have hp3 := hp.c3
  have hu := Try.underlying111
  obtain ⟨W1, hW1⟩ : ∃ W1, W.alloc (.cells #[.slice A0 ct.length c0, .slice A1 ws.length c1] 111) = W1 := ⟨_, rfl⟩
  have hb1 : Below W.heap.size W W1 := by rw [← hW1]; exact below_alloc (Below.refl _ _) _
  have q0 : W1.cell? ⟨W.heap.size, 0, none⟩ = some (.slice A0 ct.length c0) := by rw [← hW1]; simp
  have q1 : W1.cell? ⟨W.heap.size, 1, none⟩ = some (.slice A1 ws.length c1) := by rw [← hW1]; simp
  have q2 := (hb1.cell (World.block_lt_of_cell? _ _ hBP)).trans hBP
  have hp1 := hp.below hb1
  have q3 := hp1.c3
  have q4 := hp1.c4
  have Q := Aside0.mk (And.intro hb1 hp1)
  rw [h0] at q0
  rw [h1] at q1
  rw [h0, h1] at hW1
  clear hp r0 r1 hk hC hrow hp3 hb1 hp1 ha
  rw [h0, h1]
  go_enter Try.func84, Try.ntmps84
  go_wp2_with (fail)
  go_loopg [7, 8, 9, 10, 15] k (fun gg v7 v8 v9 v10 v15 w' => ∃ (m nd : Nat) (p q : Int), m ≤ k ∧ k - m ≤ gg ∧ v15 = .int .i64 m ∧ v7 = .int .i64 p ∧ v8 = .int .i64 q ∧ Aside0 (belowTo (rd_L3 C a) ct ws m = (p, q)) ∧ w' = W1.drewN nd)
  case atStart => exact ⟨0, 0, 1073741824, 0, Nat.zero_le _, by omega, rfl, rfl, rfl, ⟨rfl⟩, rfl⟩
  case round =>
    obtain ⟨m, nd, p, q, hm, hgg, rfl, rfl, rfl, HB, rfl⟩ := hrel
    by_cases hlt : m < k
    · have hltb : decide ((m : Int) < (k : Int)) = true := decide_eq_true (by omega)
      have hltc : decide (m < k) = true := decide_eq_true hlt
      have hltz : ((m : Int) < (k : Int)) = True := eq_true (by omega)
      obtain ⟨ad1, e1, hx1⟩ := Kd.at_int R1.out m (by omega) (by omega)
      obtain ⟨ad0, e0, hx0⟩ := Kd.at_int R0.out m (by omega) (by omega)
      rw [e1] at q1
      rw [e0] at q0
      rw [Int.toNat_natCast] at hx0 hx1
      replace hx1 : W1.cell? (ad1.add m) = some (.int .i64 (rd ws m)) := (Q.out.1.cell (World.block_lt_of_cell? _ _ hx1)).trans hx1
      replace hx0 : W1.cell? (ad0.add m) = some (.int .i64 (rd ct m)) := (Q.out.1.cell (World.block_lt_of_cell? _ _ hx0)).trans hx0
      have HLT := Aside0.mk hlt
      have hcost := fun nd : Nat => cost_at (W1.drewN nd) B AC cC C Q.out.2.cB (Kd.C_drewN Q.out.2.rC nd) a m (by have := H.out; omega) (by have := H.out; omega)
      have hf : Aside0 (belowTo (rd_L3 C a) ct ws (m + 1) = if rd ws m = 0 then belowTo (rd_L3 C a) ct ws m else if wrap64 (rd ct m + rd (rd_L3 C a) m) < (belowTo (rd_L3 C a) ct ws m).1 then (wrap64 (rd ct m + rd (rd_L3 C a) m), rd ws m)
        else if wrap64 (rd ct m + rd (rd_L3 C a) m) = (belowTo (rd_L3 C a) ct ws m).1 then ((belowTo (rd_L3 C a) ct ws m).1, wrap64 ((belowTo (rd_L3 C a) ct ws m).2 + rd ws m)) else belowTo (rd_L3 C a) ct ws m) := ⟨rfl⟩
      generalize rd ws m = wv at *
      generalize rd ct m = cv at *
      generalize rd (rd_L3 C a) m = rv at *
      have HCOST := Aside0.mk hcost
      have hw : wrap64 ((m : Int) + 1) = ((m + 1 : Nat) : Int) := by have := H.out.1; unfold wrap64; omega
      clear hcost q3
      by_cases w0 : wv = 0
      · have w0b : (wv == 0) = true := beq_iff_eq.2 w0
        have hnext : Aside0 (belowTo (rd_L3 C a) ct ws (m + 1) = (p, q)) := ⟨by rw [hf.out, if_pos w0]; exact HB.out⟩
        clear w0
        go_wp2
        repeat (go_quiet (fail); try go_wp2)
        all_goals
          go_roundg (k - (m + 1))
          case measure => have := HLT.out; omega
          case rel => exact ⟨m + 1, _, p, q, HLT.out, Nat.le_refl _, by rw [hw], rfl, rfl, hnext, rfl⟩
      · have w0b : (wv == 0) = false := beq_eq_false_iff_ne.2 w0
        have hp1 : (belowTo (rd_L3 C a) ct ws m).1 = p := by rw [HB.out]
        have hp2 : (belowTo (rd_L3 C a) ct ws m).2 = q := by rw [HB.out]
        have hf2 := Aside0.mk (hf.out.trans (by rw [if_neg w0, hp1, hp2, HB.out] : _ = if wrap64 (cv + rv) < p then (wrap64 (cv + rv), wv) else if wrap64 (cv + rv) = p then (p, wrap64 (q + wv)) else (p, q)))
        clear hp1 hp2 w0
        by_cases c1 : wrap64 (cv + rv) < p
        · have c1b : decide (wrap64 (cv + rv) < p) = true := decide_eq_true c1
          have hnext : Aside0 (belowTo (rd_L3 C a) ct ws (m + 1) = (wrap64 (cv + rv), wv)) := ⟨by rw [hf2.out, if_pos c1]⟩
          clear c1
          go_wp2
          repeat (go_quiet (first | (go_at_call 72; refine (HCOST.out _).mono ?_; rintro e w' ⟨rfl, ⟨nd2, rfl⟩⟩; (try first | exact ⟨rfl, _, World.drewN_drewN _ _ _⟩ | exact ⟨rfl, _, Eq.trans (World.drewN_drewN _ _ _) (congrArg (World.drewN _) (Nat.add_assoc _ _ _))⟩))); try go_wp2)
          all_goals
            go_roundg (k - (m + 1))
            case measure => have := HLT.out; omega
            case rel => exact ⟨m + 1, _, _, _, HLT.out, Nat.le_refl _, by rw [hw], rfl, rfl, hnext, rfl⟩
        · have c1b : decide (wrap64 (cv + rv) < p) = false := decide_eq_false c1
          by_cases c2 : wrap64 (cv + rv) = p
          · have c2b : (wrap64 (cv + rv) == p) = true := beq_iff_eq.2 c2
            have hnext : Aside0 (belowTo (rd_L3 C a) ct ws (m + 1) = (p, wrap64 (q + wv))) := ⟨by rw [hf2.out, if_neg c1, if_pos c2]⟩
            clear c1 c2
            go_wp2
            repeat (go_quiet (first | (go_at_call 72; refine (HCOST.out _).mono ?_; rintro e w' ⟨rfl, ⟨nd2, rfl⟩⟩; (try first | exact ⟨rfl, _, World.drewN_drewN _ _ _⟩ | exact ⟨rfl, _, Eq.trans (World.drewN_drewN _ _ _) (congrArg (World.drewN _) (Nat.add_assoc _ _ _))⟩))); try go_wp2)
            all_goals
              go_roundg (k - (m + 1))
              case measure => have := HLT.out; omega
              case rel => exact ⟨m + 1, _, _, _, HLT.out, Nat.le_refl _, by rw [hw], rfl, rfl, hnext, rfl⟩
          · have c2b : (wrap64 (cv + rv) == p) = false := beq_eq_false_iff_ne.2 c2
            have hnext : Aside0 (belowTo (rd_L3 C a) ct ws (m + 1) = (p, q)) := ⟨by rw [hf2.out, if_neg c1, if_neg c2]⟩
            clear c1 c2
            go_wp2
            repeat (go_quiet (first | (go_at_call 72; refine (HCOST.out _).mono ?_; rintro e w' ⟨rfl, ⟨nd2, rfl⟩⟩; (try first | exact ⟨rfl, _, World.drewN_drewN _ _ _⟩ | exact ⟨rfl, _, Eq.trans (World.drewN_drewN _ _ _) (congrArg (World.drewN _) (Nat.add_assoc _ _ _))⟩))); try go_wp2)
            all_goals
              go_roundg (k - (m + 1))
              case measure => have := HLT.out; omega
              case rel => exact ⟨m + 1, _, _, _, HLT.out, Nat.le_refl _, by rw [hw], rfl, rfl, hnext, rfl⟩
    · have hltb : decide ((m : Int) < (k : Int)) = false := decide_eq_false (by omega)
      have hltc : decide (m < k) = false := decide_eq_false hlt
      obtain rfl : m = k := by omega
      have hfin := HB.out
      clear hlt hm hgg
      go_wp2
      go_ret2
      refine ⟨by rw [hfin]; rfl, ?_⟩
      exact pw_below_drewN Q.out.1 _

end Go.Proofs.Ytcphmeeighhdjaa.P
