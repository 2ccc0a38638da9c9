/- The contracts of least and free, and of Least, Ways and Label. -/
import Derived.Test.YtcphmeeighhdjaaGF
import Derived.Outline
namespace Go.Proofs.Ytcphmeeighhdjaa.P
set_option linter.unusedVariables false
open Go Go.RowKit Go.Proofs.YtcphmeeighhdjaaW.PrintWords Go.Proofs.YtcphmeeighhdjaaW.PrintLast Go.Proofs.YtcphmeeighhdjaaW.PrintMore

/-- The least cost of the root, by its first states, and the number of ways. -/
def leastTo (ct ws : List Int) : Nat → Int × Int
  | 0 => (-1, 0)
  | m + 1 => if rd ws m = 0 then leastTo ct ws m else if (leastTo ct ws m).1 < 0 ∨ rd ct m < (leastTo ct ws m).1 then (rd ct m, rd ws m)
      else if rd ct m = (leastTo ct ws m).1 then ((leastTo ct ws m).1, wrap64 ((leastTo ct ws m).2 + rd ws m)) else leastTo ct ws m
/-- What least answers. -/
def leastOf (k : Nat) (C : List (List Int)) (F : List Int) (J : List S67) (L : List Int) : Int × Int :=
  leastTo (rd_T111 (sankTo k C F J L J.length) ((L.length + J.length - 1 : Nat) : Int)).f0 (rd_T111 (sankTo k C F J L J.length) ((L.length + J.length - 1 : Nat) : Int)).f1 k
set_option maxRecDepth 100000 in
set_option maxHeartbeats 8000000 in
theorem least_calls (w : World) (G : Nat) (n : Int) (AJ : Option Addr) (cJ : Nat) (J : List S67) (AL : Option Addr) (cL : Nat) (L : List Int) (k : Nat) (B : Nat) (AC : Option Addr) (cC : Nat) (C : List (List Int))
    (hp : Prob w G n AJ cJ J AL cL L k B AC cC C) (hk : k ≤ 8) (hL : (∀ s ∈ L, 0 ≤ s ∧ s < k) ∧ L.length ≤ 100) (AF : Option Addr) (cF : Nat) (F : List Int) (rF : Kd.C (Kd.int .i64) w AF F.length F) (hF : F.length = J.length)
    (hC : C.length = k ∧ ∀ i : Nat, i < k → (rd_L3 C i).length = k) (hJ : (∀ i : Nat, i < J.length → 0 ≤ (rd_T67 J i).f0 ∧ (rd_T67 J i).f0 < L.length + i ∧ 0 ≤ (rd_T67 J i).f1 ∧ (rd_T67 J i).f1 < L.length + i) ∧ J.length ≤ 100) (hpos : 0 < L.length) :
    Calls Try.prog 57 #[.pointer (some ⟨G, 0, none⟩), .slice AF F.length cF] w fun e w' => e = .returned (.tuple #[.int .i64 (leastOf k C F J L).1, .int .i64 (leastOf k C F J L).2]) ∧ Below w.heap.size w w' := by
  have HS := Aside0.mk (sankoff_calls w G n AJ cJ J AL cL L k B AC cC C hp hk hL AF cF F rF hF hC hJ)
  obtain ⟨N, hN⟩ : ∃ N, L.length + J.length = N + 1 := ⟨L.length + J.length - 1, by omega⟩
  have HN := Aside0.mk (show (sankTo k C F J L J.length).length = N + 1 by rw [sankTo_length, hN])
  have HB := Aside0.mk (show N ≤ 200 by have := hJ.2; have := hL.2; omega)
  have HLEN := Aside0.mk (show (rd_T111 (sankTo k C F J L J.length) (N : Int)).f0.length = k ∧ (rd_T111 (sankTo k C F J L J.length) (N : Int)).f1.length = k from sankTo_len k C F J L J.length _ (rd_T111_mem _ _ (by omega) (by rw [HN.out]; omega)))
  have HOF : Aside0 (leastOf k C F J L = leastTo (rd_T111 (sankTo k C F J L J.length) (N : Int)).f0 (rd_T111 (sankTo k C F J L J.length) (N : Int)).f1 k) := ⟨by unfold leastOf; rw [show L.length + J.length - 1 = N by omega]⟩
  have HK := Aside0.mk hk
  generalize sankTo k C F J L J.length = tabs at *
  generalize leastOf k C F J L = res at *
  clear hp hL rF hF hC hJ hpos hN hk
  go_enter Try.func57, Try.ntmps57
  go_wp2_with (fail)
  refine HS.out.mono ?_
  rintro e w1 ⟨v, rfl, hv, hb⟩
  obtain ⟨Aa, ca, rfl⟩ := Kd.N_slice hv
  have HV := Aside0.mk (Kd.N_reads' hv).2.2
  have HB1 := Aside0.mk hb
  obtain ⟨ad, A0, c0, A1, c1, e1, x0, x1, l0, r0, l1, r1⟩ := at_T111 HV.out (N : Int) (by omega) (by rw [HN.out]; omega)
  cases e1
  rw [HN.out, Int.toNat_natCast] at *
  rw [HLEN.out.1] at x0 l0 r0
  rw [HLEN.out.2] at x1 l1 r1
  have HR := Aside0.mk (And.intro r0 r1)
  have hbN := HB.out
  have hsub : wrap64 (((N + 1 : Nat) : Int) - 1) = N := by unfold wrap64; omega
  obtain ⟨W1, hW1⟩ : ∃ W1, w1.alloc (.cells #[.slice A0 k c0, .slice A1 k c1] 111) = W1 := ⟨_, rfl⟩
  have hb1 : Below w1.heap.size w1 W1 := by rw [← hW1]; exact below_alloc (Below.refl _ _) _
  obtain ⟨g, hg⟩ : ∃ g, w1.heap.size = g := ⟨_, rfl⟩
  have q0 : W1.cell? ⟨g, 0, none⟩ = some (.slice A0 k c0) := by rw [← hW1, ← hg]; simp
  have q1 : W1.cell? ⟨g, 1, none⟩ = some (.slice A1 k c1) := by rw [← hW1, ← hg]; simp
  have HB2 := Aside0.mk (HB1.out.trans (hb1.mono HB1.out.size))
  have R0 := Aside0.mk (Kd.C_below HR.out.1 hb1)
  have R1 := Aside0.mk (Kd.C_below HR.out.2 hb1)
  generalize (rd_T111 tabs (N : Int)).f0 = ct at *
  generalize (rd_T111 tabs (N : Int)).f1 = ws at *
  clear hv hb HV r0 r1 HS l0 l1 hb1
  go_wp2_with (fail)
  clear hW1 x0 x1 hg
  go_loopg [8, 9, 10, 11, 24] k (fun gg v8 v9 v10 v11 v24 w' => ∃ (m nd : Nat) (p q : Int), m ≤ k ∧ k - m ≤ gg ∧ v24 = .int .i64 m ∧ v8 = .int .i64 p ∧ v9 = .int .i64 q ∧ Aside0 (leastTo ct ws m = (p, q)) ∧ w' = W1.drewN nd)
  case atStart => exact ⟨0, 0, -1, 0, Nat.zero_le _, by omega, rfl, rfl, rfl, ⟨rfl⟩, rfl⟩
  case round =>
    obtain ⟨m, nd, p, q, hm, hgg, rfl, rfl, rfl, HA, rfl⟩ := hrel
    by_cases hlt : m < k
    · have hltb : decide ((m : Int) < (k : Int)) = true := decide_eq_true (by omega)
      have hltc : decide (m < k) = true := decide_eq_true hlt
      have hltz : ((m : Int) < (k : Int)) = True := eq_true (by omega)
      obtain ⟨ad1, e1, hx1⟩ := Kd.at_int R1.out m (by omega) (by omega)
      obtain ⟨ad0, e0, hx0⟩ := Kd.at_int R0.out m (by omega) (by omega)
      cases e1
      cases e0
      rw [Int.toNat_natCast] at hx0 hx1
      have HLT := Aside0.mk hlt
      have hf : Aside0 (leastTo ct ws (m + 1) = if rd ws m = 0 then leastTo ct ws m else if (leastTo ct ws m).1 < 0 ∨ rd ct m < (leastTo ct ws m).1 then (rd ct m, rd ws m)
        else if rd ct m = (leastTo ct ws m).1 then ((leastTo ct ws m).1, wrap64 ((leastTo ct ws m).2 + rd ws m)) else leastTo ct ws m) := ⟨rfl⟩
      generalize rd ws m = wv at *
      generalize rd ct m = cv at *
      have hw : wrap64 ((m : Int) + 1) = ((m + 1 : Nat) : Int) := by have := HK.out; unfold wrap64; omega
      have HGG := Aside0.mk hgg
      clear hm hgg hlt
      by_cases w0 : wv = 0
      · have w0b : (wv == 0) = true := beq_iff_eq.2 w0
        have hnext : Aside0 (leastTo ct ws (m + 1) = (p, q)) := ⟨by rw [hf.out, if_pos w0]; exact HA.out⟩
        clear w0
        go_wp2
        repeat (go_quiet (fail); try go_wp2)
        all_goals
          go_roundg (k - (m + 1))
          case measure => have := HLT.out; have := HGG.out; omega
          case rel => exact ⟨m + 1, _, p, q, HLT.out, Nat.le_refl _, by rw [hw], rfl, rfl, hnext, rfl⟩
      · have w0b : (wv == 0) = false := beq_eq_false_iff_ne.2 w0
        have hp1 : (leastTo ct ws m).1 = p := by rw [HA.out]
        have hp2 : (leastTo ct ws m).2 = q := by rw [HA.out]
        have hf2 := Aside0.mk (hf.out.trans (by rw [if_neg w0, hp1, hp2, HA.out] : _ = if p < 0 ∨ cv < p then (cv, wv) else if cv = p then (p, wrap64 (q + wv)) else (p, q)))
        clear hp1 hp2 w0
        by_cases c1 : p < 0
        · have c1b : decide (p < 0) = true := decide_eq_true c1
          have hnext : Aside0 (leastTo ct ws (m + 1) = (cv, wv)) := ⟨by rw [hf2.out, if_pos (.inl c1)]⟩
          clear c1
          go_wp2
          repeat (go_quiet (fail); try go_wp2)
          all_goals
            go_roundg (k - (m + 1))
            case measure => have := HLT.out; have := HGG.out; omega
            case rel => exact ⟨m + 1, _, _, _, HLT.out, Nat.le_refl _, by rw [hw], rfl, rfl, hnext, rfl⟩
        · have c1b : decide (p < 0) = false := decide_eq_false c1
          by_cases c2 : cv < p
          · have c2b : decide (cv < p) = true := decide_eq_true c2
            have hnext : Aside0 (leastTo ct ws (m + 1) = (cv, wv)) := ⟨by rw [hf2.out, if_pos (.inr c2)]⟩
            clear c1 c2
            go_wp2
            repeat (go_quiet (fail); try go_wp2)
            all_goals
              go_roundg (k - (m + 1))
              case measure => have := HLT.out; have := HGG.out; omega
              case rel => exact ⟨m + 1, _, _, _, HLT.out, Nat.le_refl _, by rw [hw], rfl, rfl, hnext, rfl⟩
          · have c2b : decide (cv < p) = false := decide_eq_false c2
            by_cases c3 : cv = p
            · have c3b : (cv == p) = true := beq_iff_eq.2 c3
              have hnext : Aside0 (leastTo ct ws (m + 1) = (p, wrap64 (q + wv))) := ⟨by rw [hf2.out, if_neg (by omega), if_pos c3]⟩
              clear c1 c2 c3
              go_wp2
              repeat (go_quiet (fail); try go_wp2)
              all_goals
                go_roundg (k - (m + 1))
                case measure => have := HLT.out; have := HGG.out; omega
                case rel => exact ⟨m + 1, _, _, _, HLT.out, Nat.le_refl _, by rw [hw], rfl, rfl, hnext, rfl⟩
            · have c3b : (cv == p) = false := beq_eq_false_iff_ne.2 c3
              have hnext : Aside0 (leastTo ct ws (m + 1) = (p, q)) := ⟨by rw [hf2.out, if_neg (by omega), if_neg c3]⟩
              clear c1 c2 c3
              go_wp2
              repeat (go_quiet (fail); try go_wp2)
              all_goals
                go_roundg (k - (m + 1))
                case measure => have := HLT.out; have := HGG.out; omega
                case rel => exact ⟨m + 1, _, _, _, HLT.out, Nat.le_refl _, by rw [hw], rfl, rfl, hnext, rfl⟩
    · have hltb : decide ((m : Int) < (k : Int)) = false := decide_eq_false (by omega)
      have hltc : decide (m < k) = false := decide_eq_false hlt
      obtain rfl : m = k := by omega
      have hfin := HOF.out.trans HA.out
      have HFIN := Aside0.mk hfin
      clear hlt hm hgg hfin
      go_wp2
      go_ret2
      refine ⟨by rw [HFIN.out]; rfl, ?_⟩
      exact pw_below_drewN HB2.out _
end Go.Proofs.Ytcphmeeighhdjaa.P
