/- QueueNews: the walk. -/
import Derived.Test.YtjjnglngldfglaaQZ11
namespace Go.Proofs.Ytjjnglngldfglaa.P
set_option linter.unusedVariables false
open Go Go.RowKit Go.Proofs.YtjjnglngldfglaaW.PrintWords Go.Proofs.YtjjnglngldfglaaW.PrintLast Go.Proofs.YtjjnglngldfglaaW.PrintMore

theorem sim_new (n : Nat) (c : Bool) : Sim (newSh n c) (List.replicate n z54) 0 := by
  have hl : (newSh n c).sc.length = n := by simp [newSh]
  refine ⟨by rw [hl, List.length_replicate], rfl, fun i hi => ?_⟩
  rw [scAt_nat _ i hi]
  have hi' : i < n := by omega
  unfold rd_T54
  simp [List.getD_eq_getElem?_getD, newSh, hi', z54, sc0, St.num]
set_option maxRecDepth 100000 in
set_option maxHeartbeats 800000 in
theorem News_row (W : World) (n : Int) (hn : (Lit.int .i64 n).wf = true) (cl : Bool) :
    Calls Try.prog 8 #[.int .i64 n, .bool cl] W fun e w' => e = .returned (.bool true) ∧ Below W.heap.size W w' := by
  clear hn
  by_cases c1 : n < 1
  · have HN := Aside0.mk (New_err n cl W (.inl c1))
    have k1 : decide (n < 1) = true := decide_eq_true c1
    clear c1
    go_enter Try.func8, Try.ntmps8
    go_wp2_with (fail)
    with_reducible refine HN.out.mono ?_
    rintro e w' ⟨rfl, rfl⟩
    go_wp2_with (fail)
    with_reducible refine (lives_calls W).mono ?_
    rintro e w2 ⟨rfl, hb⟩
    have HB := Aside0.mk hb
    clear hb
    go_wp2
    go_ret
    exact ⟨rfl, HB.out⟩
  · by_cases c4 : 4 < n
    · have HN := Aside0.mk (New_err n cl W (.inr c4))
      have k1 : decide (n < 1) = false := decide_eq_false c1
      have k4 : decide (4 < n) = true := decide_eq_true c4
      clear c1 c4
      go_enter Try.func8, Try.ntmps8
      go_wp2_with (fail)
      with_reducible refine HN.out.mono ?_
      rintro e w' ⟨rfl, rfl⟩
      go_wp2_with (fail)
      with_reducible refine (lives_calls W).mono ?_
      rintro e w2 ⟨rfl, hb⟩
      have HB := Aside0.mk hb
      clear hb
      go_wp2
      go_ret
      exact ⟨rfl, HB.out⟩
    · obtain ⟨k, rfl⟩ : ∃ k : Nat, n = k := ⟨n.toNat, by omega⟩
      have HK := Aside0.mk (show 1 ≤ k ∧ k ≤ 4 by omega)
      have k1 : decide ((k : Int) < 1) = false := decide_eq_false (by omega)
      have k1' : decide (k < 1) = false := decide_eq_false (by omega)
      have k4 : decide (4 < (k : Int)) = false := decide_eq_false (by omega)
      have k4' : decide (4 < k) = false := decide_eq_false (by omega)
      have HF := Aside0.mk (show woggleref10_New.f (k : Int) cl = some (List.replicate k z54, cl, 0) by
        unfold woggleref10_New.f
        rw [if_pos (by omega), if_pos (by omega), Int.toNat_natCast])
      clear c1 c4
      go_enter Try.func8, Try.ntmps8
      go_wp2_with (fail)
      with_reducible refine (New_calls k cl W HK.out.1 HK.out.2).mono ?_
      rintro e w1 ⟨g, gs, rfl, hs, hb⟩
      have S1 := Aside0.mk hs
      have B1 := Aside0.mk hb
      clear hs hb
      go_wp2_with (fail)
      with_reducible refine (woggleref10_New.calls (k : Int) cl (List.replicate k z54) cl 0 w1 HF.out).mono ?_
      rintro e w2 ⟨v, rfl, hR, hb⟩
      obtain ⟨A, c, rfl, hc, hC⟩ := Kd.R_reads hR
      have S2 := Aside0.mk (S1.out.below hb)
      have B2 := Aside0.mk (B1.out.trans (hb.mono B1.out.size))
      have hsm := same_calls w2 W.heap.size g gs (newSh k cl) S2.out A c (List.replicate k z54) cl 0 hC hc (sim_new k cl)
      rw [List.length_replicate] at hsm
      have HSM := Aside0.mk hsm
      clear hsm
      clear hR hb hc hC
      go_wp2_with (fail)
      with_reducible refine HSM.out.mono ?_
      rintro e w3 ⟨rfl, hb⟩
      have B3 := Aside0.mk (B2.out.trans (hb.mono B2.out.size))
      clear hb
      go_wp2_with (fail)
      with_reducible refine (lives_calls w3).mono ?_
      rintro e w4 ⟨rfl, hb⟩
      have B4 := Aside0.mk (B3.out.trans (hb.mono B3.out.size))
      clear hb
      go_wp2
      go_ret
      exact ⟨rfl, B4.out⟩
end Go.Proofs.Ytjjnglngldfglaa.P
