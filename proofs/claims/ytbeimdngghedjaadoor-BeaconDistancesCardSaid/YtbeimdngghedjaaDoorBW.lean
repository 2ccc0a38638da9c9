/- The contract of beacon.with. -/
import Derived.Test.YtbeimdngghedjaaDoorBX
namespace Go.Proofs.YtbeimdngghedjaaDoor.P
set_option linter.unusedVariables false
set_option linter.unusedSimpArgs false
open Go Go.RowKit Go.Proofs.YtbeimdngghedjaaDoorW.PrintWords Go.Proofs.YtbeimdngghedjaaDoorW.PrintLast Go.Proofs.YtbeimdngghedjaaDoorW.PrintMore

/-- Is the landmark at place i wrong? -/
def badMark (n : Int) (m : List Int) (i : Nat) : Bool := decide (rd m i < 0) || decide (n ≤ rd m i) || (decide (0 < i) && decide (rd m i ≤ rd m ((i : Int) - 1)))
/-- The error of with; 0: none. -/
def withErr (n : Int) (l : List S47) (m : List Int) : Int := if readOk n l = true then (if (List.range m.length).any (badMark n m) = true then 2 else 0) else 1
theorem any_bad {n : Int} {m : List Int} {i : Nat} (hi : i < m.length) (h : badMark n m i = true) : (List.range m.length).any (badMark n m) = true := List.any_eq_true.2 ⟨i, by simpa using hi, h⟩
theorem any_good {n : Int} {m : List Int} (h : ∀ i, i < m.length → badMark n m i = false) : (List.range m.length).any (badMark n m) = false := by
  rw [List.any_eq_false]
  intro i hi
  rw [h i (by simpa using hi)]; decide
set_option maxRecDepth 100000 in
set_option maxHeartbeats 4000000 in
theorem with_calls (n : Int) (A : Option Addr) (c : Nat) (l : List S47) (A2 : Option Addr) (c2 : Nat) (m : List Int) (w : World) (hr : Kd.C k47 w A l.length l) (hc : l.length ≤ c) (hr2 : Kd.C (Kd.int .i64) w A2 m.length m) :
    Calls Tryd.prog 56 #[.int .i64 n, .slice A l.length c, .slice A2 m.length c2] w fun e w' =>
      ∃ B, e = .returned (.tuple #[.pointer B, .int .i64 (withErr n l m)]) ∧ Below w.heap.size w w' ∧ (withErr n l m = 0 → 1 ≤ n ∧ n ≤ 10 ∧ Kd.C k82 w' B 1 [graphOf n.toNat l]) := by
  have HRD := Aside0.mk (read_calls n A c l w hr hc)
  have hlen : m.length ≤ 9223372036854775807 := hr2.2.1
  have HR2 := Aside0.mk hr2
  clear hr hc hr2
  cases ho : readOk n l with
  | false =>
    have HE := Aside0.mk (show withErr n l m = 1 by unfold withErr; rw [ho]; rfl)
    rw [ho] at HRD
    clear ho
    go_enter Tryd.func56, Tryd.ntmps56
    go_wp2_with (fail)
    refine HRD.out.mono ?_
    rintro e w1 ⟨B, rfl, hb, _⟩
    clear HRD
    go_wp2
    go_ret2
    exact ⟨none, by rw [HE.out]; rfl, hb, fun h => by rw [HE.out] at h; exact absurd h (by decide)⟩
  | true =>
    have HE := Aside0.mk (show withErr n l m = if (List.range m.length).any (badMark n m) = true then 2 else 0 by unfold withErr; rw [ho]; rfl)
    rw [ho] at HRD
    clear ho
    go_enter Tryd.func56, Tryd.ntmps56
    go_wp2_with (fail)
    refine HRD.out.mono ?_
    rintro e w1 ⟨B, rfl, hb, hG⟩
    have HB := Aside0.mk hb
    have HG := Aside0.mk (hG (by simp))
    have HM := Aside0.mk (Kd.C_below HR2.out hb)
    clear HRD hG hb
    have HBAD := Aside0.mk (fun (h : (List.range m.length).any (badMark n m) = true) => show ∃ B, Ending.returned (.tuple #[.pointer none, .int .i64 2]) = .returned (.tuple #[.pointer B, .int .i64 (withErr n l m)]) ∧ Below w.heap.size w w1 ∧ (withErr n l m = 0 → 1 ≤ n ∧ n ≤ 10 ∧ Kd.C k82 w1 B 1 [graphOf n.toNat l]) from
      ⟨none, by rw [HE.out, if_pos h], HB.out, fun h0 => by rw [HE.out, if_pos h] at h0; exact absurd h0 (by decide)⟩)
    go_wp2
    go_loopg [22] m.length (fun gg v22 wr => ∃ i : Nat, i ≤ m.length ∧ m.length - i ≤ gg ∧ v22 = .int .i64 i ∧ wr = w1 ∧ Aside0 (∀ j : Nat, j < i → badMark n m j = false))
    case atStart => exact ⟨0, Nat.zero_le _, by omega, rfl, rfl, ⟨fun j hj => absurd hj (by omega)⟩⟩
    case round =>
      obtain ⟨i, hi, hgi, rfl, rfl, HJ⟩ := hrel
      by_cases hlt : i < m.length
      · have hltb : decide (i < m.length) = true := decide_eq_true hlt
        have hltz : ((i : Int) < (m.length : Int)) = True := eq_true (by omega)
        obtain ⟨ad, e1, hx⟩ := Kd.at_int HM.out (i : Int) (by omega) (by omega)
        cases e1
        rw [Int.toNat_natCast] at hx
        have HX := Aside0.mk (fun h => HBAD.out (any_bad (n := n) hlt h))
        have HS := Aside0.mk (fun (h : badMark n m i = false) (j : Nat) (hj : j < i + 1) => if e : j = i then by rw [e]; exact h else HJ.out j (by omega))
        clear HBAD
        by_cases k1 : rd m i < 0
        · have HF := Aside0.mk (HX.out (by unfold badMark; rw [decide_eq_true k1]; rfl))
          have k1b : decide (rd m i < 0) = true := decide_eq_true k1
          clear k1 HX HS
          go_wp2
          go_ret2
          exact HF.out
        · have k1b : decide (rd m i < 0) = false := decide_eq_false k1
          by_cases k2 : n ≤ rd m i
          · have HF := Aside0.mk (HX.out (by unfold badMark; rw [decide_eq_true k2]; simp))
            have k2b : decide (n ≤ rd m i) = true := decide_eq_true k2
            clear k1 k2 HX HS
            go_wp2
            go_ret2
            exact HF.out
          · have k2b : decide (n ≤ rd m i) = false := decide_eq_false k2
            by_cases k3 : 0 < i
            · have k3b : decide (0 < i) = true := decide_eq_true k3
              have k3c : decide ((0 : Int) < (i : Int)) = true := decide_eq_true (by omega)
              have hw : wrap64 ((i : Int) - 1) = (i : Int) - 1 := by unfold wrap64; omega
              have hz0 : ((0 : Int) ≤ (i : Int) - 1) = True := eq_true (by omega)
              have hz1 : ((i : Int) - 1 < (m.length : Int)) = True := eq_true (by omega)
              obtain ⟨ad2, e2, hx2⟩ := Kd.at_int HM.out ((i : Int) - 1) (by omega) (by omega)
              cases e2
              rw [show ((i : Int) - 1).toNat = i - 1 by omega] at hx2
              by_cases k4 : rd m i ≤ rd m ((i : Int) - 1)
              · have HF := Aside0.mk (HX.out (by unfold badMark; rw [decide_eq_true k3, decide_eq_true k4]; simp))
                have k4b : decide (rd m i ≤ rd m ((i : Int) - 1)) = true := decide_eq_true k4
                clear k1 k2 k4 HX HS
                go_wp2
                go_ret2
                exact HF.out
              · have HF := Aside0.mk (HS.out (by unfold badMark; rw [k1b, k2b, decide_eq_false k4]; simp))
                have k4b : decide (rd m i ≤ rd m ((i : Int) - 1)) = false := decide_eq_false k4
                clear k1 k2 k4 HX HS
                go_wp2
                go_roundg (m.length - (i + 1))
                case measure => omega
                case rel => exact ⟨i + 1, by omega, by omega, by go_num, rfl, HF⟩
            · have k3b : decide (0 < i) = false := decide_eq_false k3
              have k3c : decide ((0 : Int) < (i : Int)) = false := decide_eq_false (by omega)
              have HF := Aside0.mk (HS.out (by unfold badMark; rw [k1b, k2b, k3b]; simp))
              clear k1 k2 HX HS
              go_wp2
              go_roundg (m.length - (i + 1))
              case measure => omega
              case rel => exact ⟨i + 1, by omega, by omega, by go_num, rfl, HF⟩
      · have hltb : decide (i < m.length) = false := decide_eq_false hlt
        have HN := Aside0.mk (any_good (fun j hj => HJ.out j (by omega)))
        clear HBAD hlt hi hgi
        go_wp2
        go_ret2
        exact ⟨_, by rw [HE.out, HN.out]; rfl, HB.out, fun _ => HG.out⟩
end Go.Proofs.YtbeimdngghedjaaDoor.P
