/- The contracts of slices.Max and slices.Min at []int. -/
import Derived.Test.YtbeimdngghedjaaDoorPK
import Derived.Lib.Hide
namespace Go.Proofs.YtbeimdngghedjaaDoor.P
set_option linter.unusedVariables false
set_option linter.unusedSimpArgs false
open Go Go.RowKit Go.Proofs.YtbeimdngghedjaaDoorW.PrintWords Go.Proofs.YtbeimdngghedjaaDoorW.PrintLast Go.Proofs.YtbeimdngghedjaaDoorW.PrintMore
attribute [local go_sem] max2_int min2_int max_two min_two

def maxTo (l : List Int) (t : Nat) : Int := (l.take t).foldl mx (rd l 0)
def minTo (l : List Int) (t : Nat) : Int := (l.take t).foldl mn (rd l 0)
theorem take_rdI (l : List Int) (t : Nat) (h : t < l.length) : l.take (t + 1) = l.take t ++ [rd l t] := by
  rw [List.take_succ_eq_append_getElem h]
  unfold rd
  simp [h]
theorem maxTo_succ (l : List Int) (t : Nat) (h : t < l.length) : maxTo l (t + 1) = mx (maxTo l t) (rd l t) := by unfold maxTo; rw [take_rdI l t h, List.foldl_append]; rfl
theorem minTo_succ (l : List Int) (t : Nat) (h : t < l.length) : minTo l (t + 1) = mn (minTo l t) (rd l t) := by unfold minTo; rw [take_rdI l t h, List.foldl_append]; rfl
theorem maxTo_one (l : List Int) (h : 0 < l.length) : maxTo l 1 = rd l 0 := by rw [maxTo_succ l 0 h]; unfold maxTo mx; simp
theorem minTo_one (l : List Int) (h : 0 < l.length) : minTo l 1 = rd l 0 := by rw [minTo_succ l 0 h]; unfold minTo mn; simp
set_option maxRecDepth 100000 in
set_option maxHeartbeats 2000000 in
theorem max_calls (A : Option Addr) (c : Nat) (l : List Int) (w : World) (hr : Kd.C (Kd.int .i64) w A l.length l) (hl : 0 < l.length) :
    Calls Tryd.prog 64 #[.slice A l.length c] w fun e w' => e = .returned (.int .i64 (maxTo l l.length)) ∧ w = w' := by
  have hlen : l.length ≤ 9223372036854775807 := hr.2.1
  obtain ⟨ad, e1, hx⟩ := Kd.at_int hr 0 (by omega) (by omega)
  cases e1
  rw [show (0 : Int).toNat = 0 from rfl, rp_add0] at hx
  have HR := Aside0.mk hr
  have HL := Aside0.mk hl
  have H1 := Aside0.mk (maxTo_one l hl)
  have k1 : decide (l.length < 1) = false := decide_eq_false (by omega)
  have k2 : decide ((l.length : Int) < 1) = false := decide_eq_false (by omega)
  have k3 : ((0 : Int) < (l.length : Int)) = True := eq_true (by omega)
  have k4 : (0 < l.length) = True := eq_true hl
  clear hr hl
  go_enter Tryd.func64, Tryd.ntmps64
  go_wp2
  go_loopg [3, 4] l.length (fun gg v3 v4 wr => ∃ t : Nat, 1 ≤ t ∧ t ≤ l.length ∧ l.length - t ≤ gg ∧ v3 = .int .i64 (maxTo l t) ∧ v4 = .int .i64 t ∧ wr = w)
  case atStart => exact ⟨1, Nat.le_refl _, by have := HL.out; omega, by omega, by rw [H1.out], rfl, rfl⟩
  case round =>
    obtain ⟨t, ht1, ht, hg, rfl, rfl, rfl⟩ := hrel
    by_cases hlt : t < l.length
    · have hltb : decide (t < l.length) = true := decide_eq_true hlt
      have hltz : ((t : Int) < (l.length : Int)) = True := eq_true (by omega)
      obtain ⟨ad2, e2, hx2⟩ := Kd.at_int HR.out (t : Int) (by omega) (by omega)
      cases e2
      rw [Int.toNat_natCast] at hx2
      have HS := Aside0.mk (maxTo_succ l t hlt)
      generalize maxTo l t = m at HS
      generalize rd l t = y at hx2 HS
      obtain ⟨v, hv⟩ : ∃ v, (if m < y then y else m) = v := ⟨_, rfl⟩
      have HV := Aside0.mk (show maxTo l (t + 1) = v by rw [HS.out, ← hv]; rfl)
      clear HS
      go_wp2
      go_roundg (l.length - (t + 1))
      case measure => omega
      case rel => exact ⟨t + 1, by omega, by omega, by omega, by rw [HV.out], by go_num, rfl⟩
    · have hltb : decide (t < l.length) = false := decide_eq_false hlt
      obtain rfl : t = l.length := by omega
      clear hlt hg ht
      go_wp2
      go_ret
      exact ⟨rfl, rfl⟩
set_option maxRecDepth 100000 in
set_option maxHeartbeats 2000000 in
theorem min_calls (A : Option Addr) (c : Nat) (l : List Int) (w : World) (hr : Kd.C (Kd.int .i64) w A l.length l) (hl : 0 < l.length) :
    Calls Tryd.prog 67 #[.slice A l.length c] w fun e w' => e = .returned (.int .i64 (minTo l l.length)) ∧ w = w' := by
  have hlen : l.length ≤ 9223372036854775807 := hr.2.1
  obtain ⟨ad, e1, hx⟩ := Kd.at_int hr 0 (by omega) (by omega)
  cases e1
  rw [show (0 : Int).toNat = 0 from rfl, rp_add0] at hx
  have HR := Aside0.mk hr
  have HL := Aside0.mk hl
  have H1 := Aside0.mk (minTo_one l hl)
  have k1 : decide (l.length < 1) = false := decide_eq_false (by omega)
  have k2 : decide ((l.length : Int) < 1) = false := decide_eq_false (by omega)
  have k3 : ((0 : Int) < (l.length : Int)) = True := eq_true (by omega)
  have k4 : (0 < l.length) = True := eq_true hl
  clear hr hl
  go_enter Tryd.func67, Tryd.ntmps67
  go_wp2
  go_loopg [3, 4] l.length (fun gg v3 v4 wr => ∃ t : Nat, 1 ≤ t ∧ t ≤ l.length ∧ l.length - t ≤ gg ∧ v3 = .int .i64 (minTo l t) ∧ v4 = .int .i64 t ∧ wr = w)
  case atStart => exact ⟨1, Nat.le_refl _, by have := HL.out; omega, by omega, by rw [H1.out], rfl, rfl⟩
  case round =>
    obtain ⟨t, ht1, ht, hg, rfl, rfl, rfl⟩ := hrel
    by_cases hlt : t < l.length
    · have hltb : decide (t < l.length) = true := decide_eq_true hlt
      have hltz : ((t : Int) < (l.length : Int)) = True := eq_true (by omega)
      obtain ⟨ad2, e2, hx2⟩ := Kd.at_int HR.out (t : Int) (by omega) (by omega)
      cases e2
      rw [Int.toNat_natCast] at hx2
      have HS := Aside0.mk (minTo_succ l t hlt)
      generalize minTo l t = m at HS
      generalize rd l t = y at hx2 HS
      obtain ⟨v, hv⟩ : ∃ v, (if y < m then y else m) = v := ⟨_, rfl⟩
      have HV := Aside0.mk (show minTo l (t + 1) = v by rw [HS.out, ← hv]; rfl)
      clear HS
      go_wp2
      go_roundg (l.length - (t + 1))
      case measure => omega
      case rel => exact ⟨t + 1, by omega, by omega, by omega, by rw [HV.out], by go_num, rfl⟩
    · have hltb : decide (t < l.length) = false := decide_eq_false hlt
      obtain rfl : t = l.length := by omega
      clear hlt hg ht
      go_wp2
      go_ret
      exact ⟨rfl, rfl⟩
def slices_Max_int_int.f (l0 : List Int) : Option Int := if 0 < l0.length then some (maxTo l0 l0.length) else none
theorem slices_Max_int_int.calls (A0 : Option Addr) (c0 : Nat) (l0 : List Int) (r : Int) (w : World) (hr0 : Kd.C (Kd.int .i64) w A0 l0.length l0) (hc0 : l0.length ≤ c0) (h : slices_Max_int_int.f l0 = some r) :
    Calls Tryd.prog 64 #[.slice A0 l0.length c0] w fun e w' => e = .returned (.int .i64 r) ∧ Drawn0 w w' := by
  unfold slices_Max_int_int.f at h
  by_cases hl : 0 < l0.length
  · rw [if_pos hl] at h
    obtain rfl := Option.some.inj h
    refine (max_calls A0 c0 l0 w hr0 hl).mono ?_
    rintro e w' ⟨rfl, rfl⟩
    exact ⟨rfl, Drawn0.refl _⟩
  · rw [if_neg hl] at h; cases h
def slices_Min_int_int.f (l0 : List Int) : Option Int := if 0 < l0.length then some (minTo l0 l0.length) else none
theorem slices_Min_int_int.calls (A0 : Option Addr) (c0 : Nat) (l0 : List Int) (r : Int) (w : World) (hr0 : Kd.C (Kd.int .i64) w A0 l0.length l0) (hc0 : l0.length ≤ c0) (h : slices_Min_int_int.f l0 = some r) :
    Calls Tryd.prog 67 #[.slice A0 l0.length c0] w fun e w' => e = .returned (.int .i64 r) ∧ Drawn0 w w' := by
  unfold slices_Min_int_int.f at h
  by_cases hl : 0 < l0.length
  · rw [if_pos hl] at h
    obtain rfl := Option.some.inj h
    refine (min_calls A0 c0 l0 w hr0 hl).mono ?_
    rintro e w' ⟨rfl, rfl⟩
    exact ⟨rfl, Drawn0.refl _⟩
  · rw [if_neg hl] at h; cases h
end Go.Proofs.YtbeimdngghedjaaDoor.P
