/- The contract of track.rows: is a table valid? -/
import Derived.Test.YtcphmeeighhdjaaGB
import Derived.Outline
namespace Go.Proofs.Ytcphmeeighhdjaa.P
set_option linter.unusedVariables false
open Go.RowKit Go.Proofs.YtcphmeeighhdjaaW.PrintWords Go.Proofs.YtcphmeeighhdjaaW.PrintLast Go.Proofs.YtcphmeeighhdjaaW.PrintMore

/-- Is a row one of so many states? -/
def stB (row : List Int) (m : Int) : Bool := if (row.length : Int) = m then !(row.any (outside 4)) else false
theorem stB_f (row : List Int) (m : Int) : track_states.f row m 4 = some (stB row m) := by
  unfold track_states.f stB
  split <;> rfl
def badR (m : Int) (row : List Int) : Bool := !stB row m
theorem badR_calls (A : Option Addr) (c : Nat) (row : List Int) (B : Nat) (AC : Option Addr) (cC : Nat) (C : List (List Int)) (W : World) (hr : Kd.C (Kd.int .i64) W A row.length row) (hrc : row.length ≤ c)
    (hc : W.cell? ⟨B, 0, none⟩ = some (.slice AC C.length cC)) (hC : Kd.C (Kd.slice 3 (Kd.int .i64)) W AC C.length C) (h0 : 0 < C.length) :
    Calls Try.prog 75 #[.slice A row.length c, .pointer (some ⟨B, 0, none⟩)] W fun e w' => e = .returned (.bool (badR (rd_L3 C 0).length row)) ∧ Below W.heap.size W w' := by
  have HS := Aside0.mk (track_states.calls A c row (rd_L3 C 0).length 4 (stB row (rd_L3 C 0).length) W hr hrc (stB_f _ _))
  obtain ⟨ad, A0, c0, e, x0, l0, r0⟩ := at_L3 hC 0 (by omega) (by omega)
  cases e
  rw [show ((0 : Int)).toNat = 0 from rfl, show ad.add 0 = ad by simp [Addr.add]] at x0
  have p1 : decide (0 < C.length) = true := decide_eq_true h0
  clear hr hrc hC l0 r0
  go_enter Try.func75, Try.ntmps75
  go_wp2_with (fail)
  refine HS.out.mono ?_
  rintro e w' ⟨rfl, hb⟩
  clear HS
  go_wp2
  go_ret
  exact ⟨rfl, hb⟩
/-- What rows answers. -/
def track_rows.f (l : List (List Int)) : Option Bool :=
  if (l.length : Int) < 2 then some false else if (l.length : Int) > 5 then some false else if ((rd_L3 l 0).length : Int) < 1 then some false else if ((rd_L3 l 0).length : Int) > 6 then some false else some (!(l.any (badR (rd_L3 l 0).length)))
set_option maxRecDepth 100000 in
set_option maxHeartbeats 1000000 in
theorem track_rows.calls (A0 : Option Addr) (c0 : Nat) (l0 : List (List Int)) (r : Bool) (w : World) (hr0 : Kd.C (Kd.slice 3 (Kd.int .i64)) w A0 l0.length l0) (hc0 : l0.length ≤ c0) (h : track_rows.f l0 = some r) :
    Calls Try.prog 62 #[.slice A0 l0.length c0] w fun e w' => e = .returned (.bool r) ∧ Below w.heap.size w w' := by
  unfold track_rows.f at h
  obtain ⟨w1, hw1⟩ : ∃ w1, w.alloc (.cells #[.slice A0 l0.length c0] 29) = w1 := ⟨_, rfl⟩
  have hb1 : Below w.heap.size w w1 := by rw [← hw1]; exact below_alloc (Below.refl _ _) _
  have HB1 := Aside0.mk hb1
  have hcl : w1.cell? ⟨w.heap.size, 0, none⟩ = some (.slice A0 l0.length c0) := by rw [← hw1]; simp
  have HCL := Aside0.mk hcl
  have hr1 := Kd.C_below hr0 hb1
  have HR1 := Aside0.mk hr1
  have HR0 := Aside0.mk hr0
  by_cases k1 : (l0.length : Int) < 2
  · rw [if_pos k1] at h
    obtain rfl := Option.some.inj h
    have k1b : decide ((l0.length : Int) < 2) = true := decide_eq_true k1
    have k1c : decide (l0.length < 2) = true := decide_eq_true (by omega)
    clear h k1 hr0 hc0 hb1 hr1
    go_enter Try.func62, Try.ntmps62
    go_wp2
    go_ret
    exact ⟨rfl, HB1.out⟩
  rw [if_neg k1] at h
  have k1b : decide ((l0.length : Int) < 2) = false := decide_eq_false k1
  have k1c : decide (l0.length < 2) = false := decide_eq_false (by omega)
  by_cases k2 : (l0.length : Int) > 5
  · rw [if_pos k2] at h
    obtain rfl := Option.some.inj h
    have k2b : decide (5 < (l0.length : Int)) = true := decide_eq_true k2
    have k2c : decide (5 < l0.length) = true := decide_eq_true (by omega)
    clear h k1 k2 hr0 hc0 hb1 hr1
    go_enter Try.func62, Try.ntmps62
    go_wp2
    go_ret
    exact ⟨rfl, HB1.out⟩
  rw [if_neg k2] at h
  have k2b : decide (5 < (l0.length : Int)) = false := decide_eq_false k2
  have k2c : decide (5 < l0.length) = false := decide_eq_false (by omega)
  obtain ⟨ad, A1, c1, e, x0, la, ra⟩ := at_L3 hr1 0 (by omega) (by omega)
  cases e
  rw [show ((0 : Int)).toNat = 0 from rfl, show ad.add 0 = ad by simp [Addr.add]] at x0
  have hpos : 0 < l0.length := by omega
  have HPOS := Aside0.mk hpos
  have k0 : decide (0 < l0.length) = true := decide_eq_true hpos
  by_cases k3 : ((rd_L3 l0 0).length : Int) < 1
  · rw [if_pos k3] at h
    obtain rfl := Option.some.inj h
    generalize (rd_L3 l0 0).length = m at *
    have k3b : decide ((m : Int) < 1) = true := decide_eq_true k3
    have k3c : decide (m < 1) = true := decide_eq_true (by omega)
    have k3d : decide (m = 0) = true := decide_eq_true (by omega)
    clear h k1 k2 k3 hr0 hc0 hb1 hr1 la ra
    go_enter Try.func62, Try.ntmps62
    go_wp2
    go_ret
    exact ⟨rfl, HB1.out⟩
  rw [if_neg k3] at h
  by_cases k4 : ((rd_L3 l0 0).length : Int) > 6
  · rw [if_pos k4] at h
    obtain rfl := Option.some.inj h
    generalize (rd_L3 l0 0).length = m at *
    have k3b : decide ((m : Int) < 1) = false := decide_eq_false k3
    have k3c : decide (m < 1) = false := decide_eq_false (by omega)
    have k4b : decide (6 < (m : Int)) = true := decide_eq_true k4
    have k4c : decide (6 < m) = true := decide_eq_true (by omega)
    clear h k1 k2 k3 k4 hr0 hc0 hb1 hr1 la ra
    go_enter Try.func62, Try.ntmps62
    go_wp2
    go_ret
    exact ⟨rfl, HB1.out⟩
  rw [if_neg k4] at h
  obtain rfl := Option.some.inj h
  have hcon := containsRow (badR (rd_L3 l0 0).length) 75 #[.pointer (some ⟨w.heap.size, 0, none⟩)] (Go.Proofs.enters_of Try.func75 (by kernel_rfl) rfl) (some ad) c0 l0 w1 w1 (Below.refl _ _) hr1
    (fun W y A c _ hbW hC hy => badR_calls A c y w.heap.size (some ad) c0 l0 W hC hy ((hbW.cell (World.block_lt_of_cell? _ _ hcl)).trans hcl) (Kd.C_below hr1 hbW) hpos)
  rw [firstRow_any] at hcon
  have HCON := Aside0.mk hcon
  generalize l0.any (badR (rd_L3 l0 0).length) = res at *
  generalize (rd_L3 l0 0).length = m at *
  have k3b : decide ((m : Int) < 1) = false := decide_eq_false k3
  have k3c : decide (m < 1) = false := decide_eq_false (by omega)
  have k4b : decide (6 < (m : Int)) = false := decide_eq_false k4
  have k4c : decide (6 < m) = false := decide_eq_false (by omega)
  clear h k1 k2 k3 k4 hr0 hc0 hb1 hr1 la ra hcon
  go_enter Try.func62, Try.ntmps62
  go_wp2_with (fail)
  refine HCON.out.mono ?_
  rintro e w3 ⟨rfl, hb3⟩
  clear HCON
  go_wp2
  go_ret
  exact ⟨rfl, HB1.out.trans (hb3.mono HB1.out.size)⟩
end Go.Proofs.Ytcphmeeighhdjaa.P
