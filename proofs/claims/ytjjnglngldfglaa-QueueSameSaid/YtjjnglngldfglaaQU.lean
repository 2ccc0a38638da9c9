/- QueueExclusion: the walk. -/
import Derived.Test.YtjjnglngldfglaaQT
namespace Go.Proofs.Ytjjnglngldfglaa.P
set_option linter.unusedVariables false
open Go Go.RowKit Go.Proofs.YtjjnglngldfglaaW.PrintWords Go.Proofs.YtjjnglngldfglaaW.PrintLast Go.Proofs.YtjjnglngldfglaaW.PrintMore

theorem R_moved {W : World} {b g gs base : Nat} {sh : Sh} {ok : Nat → Prop} {v : Value} {l : List Int} (h : Shp W b g gs sh) (hr : Kd.R (Kd.int .i64) 3 W base ok v l) :
    ∃ A c, v = .slice A l.length c ∧ l.length ≤ c ∧ ∀ w', Moved W w' b g gs → Kd.C (Kd.int .i64) w' A l.length l := by
  obtain ⟨A, c, rfl, hc, hC⟩ := Kd.R_reads hr
  refine ⟨A, c, rfl, hc, fun w' m => ?_⟩
  obtain ⟨rest, h0⟩ := h.hs
  have h1 := Kd.R_types (Kd.R_types hr h.hg (by decide)) h0 (by decide)
  have h2 : Kd.R (Kd.int .i64) 3 w' base _ _ l := Kd.R_step h1 (fun k hk hlt => m.keep k hlt hk.1.2 hk.2)
  obtain ⟨A', c', e, _, hC'⟩ := Kd.R_reads h2
  injection e with e1 _ _
  rw [e1]; exact hC'
theorem mkL_in (k : Nat) (x : List Int) (hk : 1 ≤ k) (i : Int) (hi : i ∈ mkL k x) : 0 ≤ i ∧ i < k := by
  unfold mkL at hi
  obtain ⟨v, _, rfl⟩ := List.mem_map.1 hi
  exact ⟨Int.emod_nonneg _ (by omega), Int.emod_lt_of_pos _ (by omega)⟩
theorem mkL_len (k : Nat) (x : List Int) : (mkL k x).length ≤ 400 := mkTo_len k x 400
theorem mkL_err (k : Nat) (c : Bool) (x : List Int) (hk : 1 ≤ k) (i : Int) (hi : i ∈ mkL k x) : errI (newSh k c) i = 0 := by
  obtain ⟨h0, h1⟩ := mkL_in k x hk i hi
  have e : (newSh k c).sc.length = k := by simp [newSh]
  rw [errI_of _ k e, if_neg (by omega), if_neg (by omega)]
set_option maxRecDepth 100000 in
set_option maxHeartbeats 400000 in
theorem Exclusion_calls (W : World) (n : Int) (k : Nat) (h0 : 0 ≤ n) (h1 : n < 256) (hk : n % 4 + 1 = (k : Int)) (A : Option Addr) (c : Nat) (x : List Int) (hx : Kd.C (Kd.int .u8) W A x.length x) (hu : ∀ v ∈ x, 0 ≤ v ∧ v < 256)
    (hp : (runS (newSh k false) (mkL k x)).2 ≤ 1 ∧ ((insL (runS (newSh k false) (mkL k x)).1).length : Int) ≤ (runS (newSh k false) (mkL k x)).2) :
    Calls Try.prog 3 #[.int .u8 n, .slice A x.length c] W fun e w' => e = .returned (.bool true) ∧ Below W.heap.size W w' := by
  have HM := Aside0.mk (made2_calls W n k h0 h1 hk A c x hx hu)
  have HP := Aside0.mk hp
  have HK := Aside0.mk (show 1 ≤ k ∧ k ≤ 4 by omega)
  have HX := Aside0.mk hx
  clear hx hu hp hk h0 h1
  go_enter Try.func3, Try.ntmps3
  go_wp2_with (fail)
  with_reducible refine HM.out.mono ?_
  rintro e w1 ⟨g, gs, v, rfl, hs, hr, hb⟩
  have S1 := Aside0.mk hs
  have R1 := Aside0.mk hr
  have B1 := Aside0.mk hb
  clear hs hr hb HM
  go_wp2_with (fail)
  with_reducible refine (lives_calls w1).mono ?_
  rintro e w2 ⟨rfl, hb⟩
  have S2 := Aside0.mk (S1.out.below hb)
  have R2 := Aside0.mk (Kd.R_below R1.out hb)
  have B2 := Aside0.mk (B1.out.trans (hb.mono B1.out.size))
  clear hb
  obtain ⟨AL, cL, rfl, hcL, hCL⟩ := R_moved S2.out R2.out
  have HCL := Aside0.mk hCL
  clear hcL hCL
  go_wp2_with (fail)
  with_reducible refine (Run_calls w2 W.heap.size g gs (newSh k false) S2.out (okSh_new k false HK.out.2) B2.out.size AL cL (mkL k x) HCL.out (by have := mkL_len k x; omega) (mkL_err k false x HK.out.1)).mono ?_
  rintro e w3 ⟨rfl, hs, hm⟩
  have S3 := Aside0.mk hs
  have B3 := Aside0.mk (hm.bel W.heap.size W B2.out (Nat.le_refl _))
  have p1 := decide_eq_true HP.out.1
  have p2 := decide_eq_true HP.out.2
  clear hs hm
  generalize runS (newSh k false) (mkL k x) = r at *
  go_wp2_with (fail)
  with_reducible refine (Inside_calls w3 W.heap.size g gs r.1 S3.out).mono ?_
  rintro e w4 ⟨v, rfl, hR, hb5⟩
  obtain ⟨A5, c5, rfl, -, -⟩ := Kd.R_reads hR
  have B4 := Aside0.mk (B3.out.trans (hb5.mono B3.out.size))
  clear hR hb5
  go_wp2
  go_ret
  exact ⟨rfl, B4.out⟩
end Go.Proofs.Ytjjnglngldfglaa.P
