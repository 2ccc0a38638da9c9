/- QueueAlone: one scout alone goes inside in 3n + 4 steps. -/
import Derived.Test.YtjjnglngldfglaaQW1
namespace Go.Proofs.Ytjjnglngldfglaa.P
set_option linter.unusedVariables false
open Go Go.RowKit Go.Proofs.YtjjnglngldfglaaW.PrintWords Go.Proofs.YtjjnglngldfglaaW.PrintLast Go.Proofs.YtjjnglngldfglaaW.PrintMore

def alSh (k : Nat) (i : Nat) : Sh := ⟨List.replicate k sc0, false, i, k⟩
def al1 (k v i : Nat) : Sh × Int := runS (alSh k i) (List.replicate (3 * k + 3) (v : Int))
def al2 (k v i : Nat) : Sh × Int := runS (al1 k v i).1 [(v : Int)]
def alOk (k v i : Nat) : Bool :=
  (al1 k v i).2 == 0 && insL (al1 k v i).1 == [] && (al1 k v i).1.tk == i && (al2 k v i).2 == 1 && insL (al2 k v i).1 == [(v : Int)] && (al2 k v i).1.tk == i + 1 &&
  stepC (al2 k v i).1 v && stepR (al2 k v i).1 v == 0 && stOf (stepS (al2 k v i).1 v) v == 0 && noOf (stepS (al2 k v i).1 v) v == 0 && decide (stepS (al2 k v i).1 v = alSh k (i + 1))
theorem alOk_all : ∀ k ∈ List.range 5, ∀ v ∈ List.range k, ∀ i ∈ List.range 8, alOk k v i = true := by decide +kernel
structure AlOk (k v i : Nat) : Prop where
  a1 : (al1 k v i).2 = 0
  a2 : insL (al1 k v i).1 = []
  a3 : (al1 k v i).1.tk = i
  b1 : (al2 k v i).2 = 1
  b2 : insL (al2 k v i).1 = [(v : Int)]
  b3 : (al2 k v i).1.tk = i + 1
  c1 : stepC (al2 k v i).1 v = true
  c2 : stepR (al2 k v i).1 v = 0
  c3 : stOf (stepS (al2 k v i).1 v) v = 0
  c4 : noOf (stepS (al2 k v i).1 v) v = 0
  c5 : stepS (al2 k v i).1 v = alSh k (i + 1)
theorem AlOk.of (k v i : Nat) (hk : k ≤ 4) (hv : v < k) (hi : i < 8) : AlOk k v i := by
  have h := alOk_all k (List.mem_range.2 (by omega)) v (List.mem_range.2 hv) i (List.mem_range.2 hi)
  unfold alOk at h
  simp only [Bool.and_eq_true, beq_iff_eq, decide_eq_true_eq] at h
  obtain ⟨⟨⟨⟨⟨⟨⟨⟨⟨⟨h1, h2⟩, h3⟩, h4⟩, h5⟩, h6⟩, h7⟩, h8⟩, h9⟩, h10⟩, h11⟩ := h
  exact ⟨h1, h2, h3, h4, h5, h6, h7, h8, h9, h10, h11⟩
theorem same_one (v : Nat) : woggleref01_Same.f 10 [(v : Int)] [(v : Int)] = some true := by
  simp [woggleref01_Same.f, woggleref01_Before.f, woggleref01_Before.l0, woggleref01_Before.j1, rd, wrap64]
theorem okSh_at {sh : Sh} (h : okSh sh) (k : Nat) (hk : k < sh.sc.length) : okSt sh.sc.length (scAt sh k).st := h.2 k hk
theorem okSh_al (k i : Nat) (h : k ≤ 4) : okSh (alSh k i) := by
  refine ⟨by simpa [alSh] using h, fun j hj => ?_⟩
  rw [scAt_nat _ j hj]
  simp [alSh, sc0, okSt]
theorem alSh_len (k i : Nat) : (alSh k i).sc.length = k := by simp [alSh]
set_option maxRecDepth 100000 in
set_option maxHeartbeats 800000 in
theorem Alone_calls (W : World) (n : Int) (k : Nat) (h0 : 0 ≤ n) (h1 : n < 256) (hk : n % 4 + 1 = (k : Int)) (A : Option Addr) (c : Nat) (x : List Int) (hx : Kd.C (Kd.int .u8) W A x.length x) (hu : ∀ v ∈ x, 0 ≤ v ∧ v < 256) :
    Calls Try.prog 7 #[.int .u8 n, .slice A x.length c] W fun e w' => e = .returned (.bool true) ∧ Below W.heap.size W w' := by
  have HX := Aside0.mk hx
  have HU := Aside0.mk hu
  have hxl : x.length ≤ 9223372036854775807 := hx.2.1
  have HKB := Aside0.mk (show 1 ≤ k ∧ k ≤ 4 by omega)
  have hkw : wrap64 (n % 4 + 1) = (k : Int) := by unfold wrap64; omega
  have hkw2 : n % 4 + 1 = (k : Int) := hk
  clear hx hu hk
  go_enter Try.func7, Try.ntmps7
  go_wp2_with (fail)
  with_reducible refine (New_calls k false W HKB.out.1 HKB.out.2).mono ?_
  rintro e w1 ⟨g, gs, rfl, hs, hb⟩
  have S1 := Aside0.mk hs
  have B1 := Aside0.mk hb
  clear hs hb
  go_wp2_with (fail)
  with_reducible refine (lives_calls w1).mono ?_
  rintro e w2 ⟨rfl, hb⟩
  have S2 := Aside0.mk (show Shp w2 W.heap.size g gs (alSh k 0) from S1.out.below hb)
  have B2 := Aside0.mk (B1.out.trans (hb.mono B1.out.size))
  clear hb
  obtain ⟨NN, hNN⟩ : ∃ N : Nat, N = 8 := ⟨_, rfl⟩
  have HNN := Aside0.mk hNN
  clear hNN
  clear hkw hkw2 h0 h1
  go_wp2
  go_loopg [8] NN (fun gg v8 w' => ∃ m : Nat, m ≤ x.length ∧ m ≤ 8 ∧ NN - m ≤ gg ∧ v8 = .int .i64 m ∧ Aside0 (Shp w' W.heap.size g gs (alSh k m)) ∧ Aside0 (Below W.heap.size W w'))
  case atStart => exact ⟨0, Nat.zero_le _, by omega, by have := HNN.out; omega, rfl, S2, B2⟩
  case round =>
    obtain ⟨m, hm, hm8, hgg, rfl, HS, HBm⟩ := hrel
    by_cases hq : m < x.length ∧ m < 8
    · obtain ⟨hlt, hl8⟩ := hq
      have hltb : decide ((m : Int) < (x.length : Int)) = true := decide_eq_true (by omega)
      have hltc : decide (m < x.length) = true := decide_eq_true hlt
      have hltz : ((m : Int) < (x.length : Int)) = True := eq_true (by omega)
      have h4b : decide ((m : Int) < 8) = true := decide_eq_true (by omega)
      have h4c : decide (m < 8) = true := decide_eq_true hl8
      obtain ⟨ad, e1, hx⟩ := Kd.at_int (Kd.C_below HX.out (HBm.out)) m (by omega) (by omega)
      cases e1
      rw [Int.toNat_natCast] at hx
      have hv0 := (HU.out _ (rd_in x m hlt)).1
      have hv1 := (HU.out _ (rd_in x m hlt)).2
      generalize rd x m = u at *
      obtain ⟨v, hv⟩ : ∃ v : Nat, u % (k : Int) = v := ⟨(u % (k : Int)).toNat, by have := Int.emod_nonneg u (show (k : Int) ≠ 0 by have := HKB.out; omega); omega⟩
      have HV := Aside0.mk (show v < k by have := Int.emod_lt_of_pos u (show (0 : Int) < k by have := HKB.out; omega); omega)
      have HLT := Aside0.mk (And.intro hlt hl8)
      have AO := Aside0.mk (AlOk.of k v m HKB.out.2 HV.out hl8)
      have hwm : wrap64 ((m : Int) + 1) = (m : Int) + 1 := by unfold wrap64; omega
      have hk0 : (0 : Int) < (k : Int) := by have := HKB.out; omega
      have hkn : ¬ (k = 0) := by have := HKB.out; omega
      clear hlt hl8 hm hm8
      go_wp2_with (first | ((with_reducible refine gate_dst (N := 54) rfl ?_); refine Kd.R_lit (Kd.int .i64) W.heap.size 3 ?hg (N := 54) ?hd (xs := ([] : List Int)) (inner := []) (ok := fun _ => True) (okp := fun _ => True) ?hr ?hp (fun _ hk => hk) trivial HBm.out HBm.out.size (by simp) ?_; (case hd => rfl); (case hg => rfl); (case hr => first | (go_simp; done) | (go_simp; rfl)); (case hp => exact (Reps.none _ _)); intro v54 w3 ho hb hg_ hnew_; have HO := Aside0.mk ho; have HB3 := Aside0.mk hb; have HG3 := Aside0.mk hg_; clear ho hb hg_ hnew_))
      have S3 := Aside0.mk (HS.out.grown HG3.out (by simp) (by simp))
      have hk4 : (k : Int) ≤ 4 := by have := HKB.out; omega
      clear hx HG3
      obtain ⟨LL, hLL⟩ : ∃ N : Nat, N = 3 * k + 3 := ⟨_, rfl⟩
      have HLL := Aside0.mk hLL
      clear hLL
      go_loopg [10, 11] LL (fun gg v10 v11 w' => ∃ j : Nat, j ≤ LL ∧ LL - j ≤ gg ∧ v11 = .int .i64 j ∧ Aside0 (Kd.R (Kd.int .i64) 3 w' W.heap.size (fun _ => True) v10 (List.replicate j (v : Int))) ∧ Aside0 (Shp w' W.heap.size g gs (alSh k m)) ∧ Aside0 (Below W.heap.size W w'))
      case atStart => exact ⟨0, Nat.zero_le _, by omega, rfl, HO, S3, HB3⟩
      case round =>
        obtain ⟨j, hj, hgg2, rfl, HR4, HS4, HB4⟩ := hrel
        by_cases hjl : j < LL
        · have ha : ((j : Int) < 3 * (k : Int) + 3) = True := eq_true (by have := HLL.out; omega)
          have hb : decide ((j : Int) < 3 * (k : Int) + 3) = true := decide_eq_true (by have := HLL.out; omega)
          have hj60 : (j : Int) < 60 := by have := HLL.out; omega
          have HJL := Aside0.mk hjl
          clear hjl hj
          go_wp2_with (first | ((with_reducible refine gate_builtin (b := .append) (xs := #[.tmp 62, .tmp 64]) rfl ?_); at_builtin; refine Kd.R_append (Kd.int .i64) (w0 := W) W.heap.size rfl (.tmp 62) (.tmp 64) 24 3 (.int .i64 0) 8 rfl Try.underlying24 info3 rfl (by decide) (by omega) _ (List.replicate j (v : Int)) (v : Int) [.int .i64 v] (fun _ => True) (fun _ => False) rfl rfl ?aP (fun _ hk => hk.elim) ?aF ?aO ?aB ?aS ?aL ?_; (case aP => exact rfl); (case aB => exact (by repeat (first | exact HB4.out | apply below_alloc))); (case aF => exact (fun _ _ => trivial)); (case aO => exact (by (with_reducible repeat (first | apply Kd.R_alloc | apply Kd.R_drewN | apply Kd.R_drew)); exact HR4.out)); (case aS => exact (below_size (by repeat (first | exact HB4.out | apply below_alloc)))); (case aL => rw [List.length_replicate]; omega); intro v115 w10 ho hb hg hat; have HO5 := Aside0.mk ho; have HB5 := Aside0.mk hb; have HG5 := Aside0.mk hg; clear ho hb hg hat))
          have S5 := Aside0.mk (HS4.out.grown HG5.out (HS4.out.row HR4.out).1 (HS4.out.row HR4.out).2)
          go_roundg (LL - (j + 1))
          case measure => have := HJL.out; omega
          case rel => exact ⟨j + 1, by have := HJL.out; omega, Nat.le_refl _, by go_num, ⟨by rw [List.replicate_succ']; exact HO5.out⟩, S5, HB5⟩
        · have ha : ((j : Int) < 3 * (k : Int) + 3) = False := eq_false (by have := HLL.out; omega)
          have hb : decide ((j : Int) < 3 * (k : Int) + 3) = false := decide_eq_false (by have := HLL.out; omega)
          have HJL := Aside0.mk (show j = 3 * k + 3 by have := HLL.out; omega)
          clear hjl hj hgg2
          have HR5 := HR4.out
          rw [HJL.out] at HR5
          obtain ⟨AL, cL, rfl, hcL, hCL⟩ := R_moved HS4.out HR5
          have HCL := Aside0.mk hCL
          clear hcL hCL HR5 HR4 HS
          go_wp2_with (fail)
          have hln := Aside0.mk (List.length_replicate (n := 3 * k + 3) (a := (v : Int)))
          have herr := Aside0.mk (fun (sh : Sh) (hl : sh.sc.length = k) => show errI sh (v : Int) = 0 by rw [errI_of _ k hl, if_neg (by omega), if_neg (by have := HV.out; omega)])
          have hruns := Run_calls wr W.heap.size g gs (alSh k m) HS4.out (okSh_al k m HKB.out.2) HB4.out.size AL cL (List.replicate (3 * k + 3) (v : Int)) HCL.out (by rw [hln.out]; have := HKB.out; omega) (fun i hi => by rw [List.eq_of_mem_replicate hi]; exact herr.out _ (alSh_len k m))
          rw [show runS (alSh k m) (List.replicate (3 * k + 3) (v : Int)) = al1 k v m from rfl, hln.out] at hruns
          have HRUN := Aside0.mk hruns
          clear hruns
          with_reducible refine HRUN.out.mono ?_
          rintro e w4 ⟨rfl, hs, hmv⟩
          have S6 := Aside0.mk hs
          have B6 := Aside0.mk (hmv.bel W.heap.size W HB4.out (Nat.le_refl _))
          have ra := Aside0.mk (runS_ok (okSh_al k m HKB.out.2) (List.replicate (3 * k + 3) (v : Int)) (fun i hi => by rw [List.eq_of_mem_replicate hi]; exact herr.out _ (alSh_len k m)))
          have hl1 := Aside0.mk (show (al1 k v m).1.sc.length = k from ra.out.2.trans (alSh_len k m))
          have a1 := AO.out.a1
          rw [a1]
          clear hs hmv HRUN a1 ha hb
          go_wp2_with (fail)
          with_reducible refine (Inside_calls w4 W.heap.size g gs (al1 k v m).1 S6.out).mono ?_
          rintro e w5 ⟨q, rfl, hR, hb5⟩
          obtain ⟨A5, c5, rfl, -, -⟩ := Kd.R_reads hR
          have S7 := Aside0.mk (S6.out.below hb5)
          have B7 := Aside0.mk (B6.out.trans (hb5.mono B6.out.size))
          rw [show (insL (al1 k v m).1).length = 0 from by rw [AO.out.a2]; rfl]
          clear hR hb5
          go_wp2_with (fail)
          with_reducible refine (Taken_calls w5 W.heap.size g gs (al1 k v m).1 S7.out).mono ?_
          rintro e w6 ⟨rfl, rfl⟩
          rw [AO.out.a3]
          go_wp2_with (fail)
          have hruns := Run_calls (w5.alloc (.cells #[.int .i64 v] 3)) W.heap.size g gs (al1 k v m).1 (S7.out.alloc _) ra.out.1 (below_alloc B7.out (.cells #[.int .i64 v] 3)).size (some ⟨w5.heap.size, 0, none⟩) 1 [(v : Int)] (C_keep _ _ _ _ _ _ (alloc_at _ _) (by simp) (by have := S7.out.lt; omega) (by have := S7.out.lts; omega)) (by simp) (fun i hi => by rw [List.mem_singleton.1 hi]; exact herr.out _ hl1.out)
          rw [show runS (al1 k v m).1 [(v : Int)] = al2 k v m from rfl] at hruns
          have HRUN := Aside0.mk hruns
          clear hruns
          refine HRUN.out.mono ?_
          rintro e w7 ⟨rfl, hs, hmv⟩
          have S8 := Aside0.mk hs
          have B8 := Aside0.mk (hmv.bel W.heap.size W (below_alloc B7.out (.cells #[.int .i64 v] 3)) (Nat.le_refl _))
          have rb := Aside0.mk (show okSh (al2 k v m).1 ∧ (al2 k v m).1.sc.length = (al1 k v m).1.sc.length from runS_ok ra.out.1 [(v : Int)] (fun i hi => by rw [List.mem_singleton.1 hi]; exact herr.out _ hl1.out))
          have hl2 := Aside0.mk (show (al2 k v m).1.sc.length = k from rb.out.2.trans hl1.out)
          rw [AO.out.b1]
          clear hs hmv HRUN
          go_wp2_with (fail)
          with_reducible refine (Inside_calls w7 W.heap.size g gs (al2 k v m).1 S8.out).mono ?_
          rintro e w8 ⟨q, rfl, hR, hb5⟩
          obtain ⟨A8, c8, rfl, hc8, hC8⟩ := Kd.R_reads hR
          rw [AO.out.b2] at hC8 hc8
          have HC8 := Aside0.mk hC8
          have Hc8 := Aside0.mk hc8
          have S9 := Aside0.mk (S8.out.below hb5)
          have B9 := Aside0.mk (B8.out.trans (hb5.mono B8.out.size))
          rw [AO.out.b2]
          clear hR hb5 hc8 hC8
          go_wp2_with (fail)
          have hq := Aside0.mk (woggleref01_Same.calls 10 A8 c8 [(v : Int)] (some ⟨w8.heap.size, 0, none⟩) 1 [(v : Int)] true (w8.alloc (.cells #[.int .i64 v] 3)) (Kd.C_below HC8.out (below_alloc (Below.refl _ _) _)) Hc8.out (C_cells _ _ [(v : Int)] (alloc_at _ _) (by simp)) (by simp) (same_one v))
          refine hq.out.mono ?_
          rintro e w9 ⟨rfl, hd⟩
          have S10 := Aside0.mk ((S9.out.alloc (.cells #[.int .i64 v] 3)).below hd.below)
          have B10 := Aside0.mk ((below_alloc B9.out (.cells #[.int .i64 v] 3)).trans (hd.below.mono (below_alloc B9.out (.cells #[.int .i64 v] 3)).size))
          clear hd hq
          go_wp2_with (fail)
          with_reducible refine (Taken_calls w9 W.heap.size g gs (al2 k v m).1 S10.out).mono ?_
          rintro e w' ⟨rfl, rfl⟩
          rw [AO.out.b3]
          go_wp2_with (fail)
          with_reducible refine (Step_calls w9 W.heap.size g gs (al2 k v m).1 S10.out v (by rw [hl2.out]; exact HV.out) (okSh_at (sh := (al2 k v m).1) rb.out.1 v (by rw [hl2.out]; exact HV.out)) B10.out.size).mono ?_
          rintro e w10 ⟨rfl, hs, hmv⟩
          rw [AO.out.c1, AO.out.c2]
          have S11 := Aside0.mk hs
          have B11 := Aside0.mk (hmv.bel W.heap.size W B10.out (Nat.le_refl _))
          clear hs hmv
          go_wp2_with (fail)
          with_reducible refine (Stage_calls w10 W.heap.size g gs _ S11.out v).mono ?_
          rintro e w11 ⟨rfl, hb⟩
          rw [AO.out.c3]
          have S12 := Aside0.mk (S11.out.below hb)
          have B12 := Aside0.mk (B11.out.trans (hb.mono B11.out.size))
          clear hb
          go_wp2_with (fail)
          with_reducible refine (Number_calls w11 W.heap.size g gs _ S12.out v).mono ?_
          rintro e w' ⟨rfl, rfl⟩
          rw [AO.out.c4]
          go_wp2
          go_roundg (NN - (m + 1))
          case measure => have := HLT.out; have := HNN.out; omega
          case rel => exact ⟨m + 1, by have := HLT.out; omega, by have := HLT.out; omega, Nat.le_refl _, by go_num, ⟨by rw [← AO.out.c5]; exact S12.out⟩, B12⟩
    · have HE := Aside0.mk hq
      by_cases hlt : m < x.length
      · have hltb : decide ((m : Int) < (x.length : Int)) = true := decide_eq_true (by omega)
        have hltc : decide (m < x.length) = true := decide_eq_true hlt
        have h4b : decide ((m : Int) < 8) = false := decide_eq_false (by omega)
        have h4c : decide (m < 8) = false := decide_eq_false (by omega)
        clear hq hlt hm hm8 hgg
        go_wp2
        go_ret
        exact ⟨rfl, HBm.out⟩
      · have hltb : decide ((m : Int) < (x.length : Int)) = false := decide_eq_false (by omega)
        have hltc : decide (m < x.length) = false := decide_eq_false hlt
        clear hq hlt hm hm8 hgg
        go_wp2
        go_ret
        exact ⟨rfl, HBm.out⟩
theorem Alone_row (W : World) (n : Int) (hn : (Lit.int .u8 n).wf = true) (A : Option Addr) (c : Nat) (x : List Int) (hx : Kd.C (Kd.int .u8) W A x.length x) (hc : x.length ≤ c) (hg : x.length ≤ maxLen ∧ ∀ y ∈ x, (Lit.int .u8 y).wf = true) :
    Calls Try.prog 7 #[.int .u8 n, .slice A x.length c] W fun e w' => e = .returned (.bool true) ∧ Below W.heap.size W w' := by
  obtain ⟨h0, h1⟩ := u8_of hn
  exact Alone_calls W n (n % 4 + 1).toNat h0 h1 (by omega) A c x hx (u8s_of hg)
end Go.Proofs.Ytjjnglngldfglaa.P
