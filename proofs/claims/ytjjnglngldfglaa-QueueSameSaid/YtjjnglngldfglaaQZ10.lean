/- QueueSame: the walk. -/
import Derived.Test.YtjjnglngldfglaaQZ9
import Derived.Deep.DeepCutAuto
import Derived.Deep.CutBlock
namespace Go.Proofs.Ytjjnglngldfglaa.P
set_option linter.unusedVariables false
open Go Go.RowKit Go.Proofs.YtjjnglngldfglaaW.PrintWords Go.Proofs.YtjjnglngldfglaaW.PrintLast Go.Proofs.YtjjnglngldfglaaW.PrintMore
attribute [local go_sem] max2_int max_two

theorem int_succ (a : Nat) : Value.int .i64 ((a : Int) + 1) = Value.int .i64 ((a + 1 : Nat) : Int) := rfl
theorem int_wsucc {a : Nat} (h : wrap64 ((a : Int) + 1) = (a : Int) + 1) : Value.int .i64 (wrap64 ((a : Int) + 1)) = Value.int .i64 ((a + 1 : Nat) : Int) := by rw [h]; rfl
theorem wrap_lt60 {a : Nat} (h : a < 1000) : wrap64 ((a : Int) + 1) = (a : Int) + 1 := by unfold wrap64; omega
theorem slL_len (k : Nat) (x : List Int) : (slL k x).length ≤ 200 := mkTo_len k x 200
theorem u8_of' {n : Int} (h : (Lit.int .u8 n).wf = true) : 0 ≤ n ∧ n < 256 := by
  simp [Lit.wf, IntKind.min, IntKind.max, IntKind.signed, IntKind.bits] at h
  omega
theorem okSh_cp {sh : Sh} (h : okSh sh) (c : Nat) : okSh { sh with cp := c } := ⟨h.1, fun k hk => h.2 k hk⟩
theorem errI_cp (sh : Sh) (c : Nat) (i : Int) : errI { sh with cp := c } i = errI sh i := rfl
theorem errI_take {sh : Sh} {l : List Int} (h : ∀ i ∈ l, errI sh i = 0) (c : Nat) : ∀ i ∈ l.take c, errI sh i = 0 := fun i hi => h i (List.mem_of_mem_take hi)
theorem errI_drop {sh : Sh} {l : List Int} (h : ∀ i ∈ l, errI sh i = 0) (c : Nat) : ∀ i ∈ l.drop c, errI sh i = 0 := fun i hi => h i (List.mem_of_mem_drop hi)
theorem errI_len {sh sh' : Sh} (h : sh'.sc.length = sh.sc.length) (i : Int) : errI sh' i = errI sh i := by unfold errI; rw [h]
set_option maxRecDepth 100000 in
set_option maxHeartbeats 1600000 in
theorem Same_calls (W : World) (a0 a1 : Int) (k : Nat) (h0 : 0 ≤ a0) (h1 : a0 < 256) (h2 : 0 ≤ a1) (h3 : a1 < 256) (hk : a0 % 4 + 1 = (k : Int)) (A : Option Addr) (c : Nat) (x : List Int) (hx : Kd.C (Kd.int .u8) W A x.length x) (hu : ∀ v ∈ x, 0 ≤ v ∧ v < 256) (cl : Bool) :
    Calls Try.prog 10 #[.agg #[.int .u8 a0, .int .u8 a1], .slice A x.length c, .bool cl] W fun e w' => e = .returned (.bool true) ∧ Below W.heap.size W w' := by
  have HX := Aside0.mk hx
  have HU := Aside0.mk hu
  have hxl : x.length ≤ 9223372036854775807 := hx.2.1
  have HK := Aside0.mk (show 1 ≤ k ∧ k ≤ 4 by omega)
  have hkw : wrap64 (a0 % 4 + 1) = (k : Int) := by unfold wrap64; omega
  have hkw2 : a0 % 4 + 1 = (k : Int) := hk
  obtain ⟨w1, hw1⟩ : ∃ w1, W.alloc (.cells #[.int .u8 a0, .int .u8 a1] 63) = w1 := ⟨_, rfl⟩
  have B1 := Aside0.mk (show Below W.heap.size W w1 by rw [← hw1]; exact below_alloc (Below.refl _ _) _)
  have Q1 := Aside0.mk (show W.heap.size < w1.heap.size by rw [← hw1]; simp)
  have q0 : w1.cell? ⟨W.heap.size, 0, none⟩ = some (.int .u8 a0) := by rw [← hw1]; simp
  have q1 : w1.cell? ⟨W.heap.size, 1, none⟩ = some (.int .u8 a1) := by rw [← hw1]; simp
  have HQ := Aside0.mk (show w1.heap[W.heap.size]? = some (.cells #[.int .u8 a0, .int .u8 a1] 63 (0, 0)) by rw [← hw1]; exact alloc_at _ _)
  have HA1 := Aside0.mk (And.intro h2 h3)
  clear hx hu hk
  go_enter Try.func10, Try.ntmps10
  go_upto_block 0 with (first | ((with_reducible refine gate_dst (N := 32) rfl ?_); refine Kd.R_lit (Kd.int .i64) W.heap.size 3 ?hg (N := 32) ?hd (xs := ([] : List Int)) (inner := []) (ok := fun _ => True) (okp := fun _ => True) ?hr ?hp (fun _ hk => hk) trivial B1.out B1.out.size (by simp) ?_; (case hd => rfl); (case hg => rfl); (case hr => first | (go_simp; done) | (go_simp; rfl)); (case hp => exact (Reps.none _ _)); intro v32 w2 ho hb hg_ hnew_; have HO := Aside0.mk ho; have B2 := Aside0.mk hb; have G2 := Aside0.mk hg_; clear ho hb hg_ hnew_))
  have q2 := Aside0.mk (show w2.heap[W.heap.size]? = some (.cells #[.int .u8 a0, .int .u8 a1] 63 (0, 0)) from (G2.out.block W.heap.size Q1.out (by simp)).trans HQ.out)
  have Q2 := Aside0.mk (Nat.lt_of_lt_of_le Q1.out G2.out.size)
  clear q0 q1 hw1 hkw hkw2 G2 h0 h1 h2 h3
  obtain ⟨NN, hNN⟩ : ∃ N : Nat, N = 200 := ⟨_, rfl⟩
  have HNN := Aside0.mk hNN
  clear hNN
  go_cut [8, 9] (fun s8 s9 wx => Aside0 (Kd.R (Kd.int .i64) 3 wx W.heap.size (fun _ => True) s8 (slL k x)) ∧ Aside0 (wx.heap[W.heap.size]? = some (.cells #[.int .u8 a0, .int .u8 a1] 63 (0, 0))) ∧ Aside0 (W.heap.size < wx.heap.size) ∧ Aside0 (Below W.heap.size W wx))
  case first =>
    go_wp2
    go_loopg [8, 9] NN (fun gg v8 v9 w' => ∃ m : Nat, m ≤ x.length ∧ m ≤ 200 ∧ NN - m ≤ gg ∧ v9 = .int .i64 m ∧ Aside0 (Kd.R (Kd.int .i64) 3 w' W.heap.size (fun _ => True) v8 (mkTo k x m)) ∧ Aside0 (w'.heap[W.heap.size]? = some (.cells #[.int .u8 a0, .int .u8 a1] 63 (0, 0))) ∧ Aside0 (W.heap.size < w'.heap.size) ∧ Aside0 (Below W.heap.size W w'))
    case atStart => exact ⟨0, Nat.zero_le _, by omega, by have := HNN.out; omega, rfl, ⟨HO.out⟩, q2, Q2, B2⟩
    case round =>
      obtain ⟨m, hm, hm4, hgg, rfl, HR, HC1, HZ, HBm⟩ := hrel
      by_cases hq : m < x.length ∧ m < 200
      · obtain ⟨hlt, hl4⟩ := hq
        have hltb : decide ((m : Int) < (x.length : Int)) = true := decide_eq_true (by omega)
        have hltc : decide (m < x.length) = true := decide_eq_true hlt
        have hltz : ((m : Int) < (x.length : Int)) = True := eq_true (by omega)
        have h4b : decide ((m : Int) < 200) = true := decide_eq_true (by omega)
        have h4c : decide (m < 200) = true := decide_eq_true hl4
        obtain ⟨ad, e1, hx⟩ := Kd.at_int (Kd.C_below HX.out (HBm.out)) m (by omega) (by omega)
        cases e1
        rw [Int.toNat_natCast] at hx
        have hv := HU.out _ (rd_in x m hlt)
        have hv0 := hv.1
        have hv1 := hv.2
        have HT := Aside0.mk (mkTo_snoc k x m hlt)
        have HLT := Aside0.mk (And.intro hlt hl4)
        generalize rd x m = u at *
        have hwm : wrap64 ((m : Int) + 1) = (m : Int) + 1 := wrap_lt60 (by omega)
        have hk0 : (0 : Int) < (k : Int) := by have := HK.out; omega
        have hkn : ¬ (k = 0) := by have := HK.out; omega
        clear hlt hl4 hm hm4 hv
        go_wp2_with (first | ((with_reducible refine gate_builtin (b := .append) (xs := #[.tmp 43, .tmp 51]) rfl ?_); at_builtin; refine Kd.R_append (Kd.int .i64) (w0 := W) W.heap.size rfl (.tmp 43) (.tmp 51) 24 3 (.int .i64 0) 8 rfl Try.underlying24 info3 rfl (by decide) (by omega) _ (mkTo k x m) (u % (k : Int)) [.int .i64 (u % (k : Int))] (fun _ => True) (fun _ => False) rfl rfl ?aP (fun _ hk => hk.elim) ?aF ?aO ?aB ?aS ?aL ?_; (case aP => exact rfl); (case aB => exact (by repeat (first | exact HBm.out | apply below_alloc))); (case aF => exact (fun _ _ => trivial)); (case aO => exact (by (with_reducible repeat (first | apply Kd.R_alloc | apply Kd.R_drewN | apply Kd.R_drew)); exact HR.out)); (case aS => exact (below_size (by repeat (first | exact HBm.out | apply below_alloc)))); (case aL => have := mkTo_len k x m; have := HLT.out; omega); intro v115 w10 ho hb hg hat; have HO4 := Aside0.mk ho; have HB4 := Aside0.mk hb; have HG4 := Aside0.mk hg; clear ho hb hg hat))
        have C4 := Aside0.mk (show w10.heap[W.heap.size]? = some (.cells #[.int .u8 a0, .int .u8 a1] 63 (0, 0)) from (HG4.out.block W.heap.size HZ.out (Kd.R_ne HR.out HC1.out (by decide))).trans HC1.out)
        go_roundg (NN - (m + 1))
        case measure => have := HLT.out; have := HNN.out; omega
        case rel => exact ⟨m + 1, HLT.out.1, HLT.out.2, Nat.le_refl _, (by first | exact int_succ m | exact int_wsucc hwm), ⟨by rw [HT.out]; exact HO4.out⟩, C4, ⟨Nat.lt_of_lt_of_le HZ.out HG4.out.size⟩, HB4⟩
      · have HM := Aside0.mk (show mkTo k x m = slL k x by
          unfold mkTo slL
          by_cases e : m < x.length
          · rw [show m = 200 by omega]
          · rw [List.take_of_length_le (by omega), List.take_of_length_le (by omega)])
        by_cases e : m < x.length
        · have hltb : decide ((m : Int) < (x.length : Int)) = true := decide_eq_true (by omega)
          have hltc : decide (m < x.length) = true := decide_eq_true e
          have h4b : decide ((m : Int) < 200) = false := decide_eq_false (by omega)
          have h4c : decide (m < 200) = false := decide_eq_false (by omega)
          clear hq e hm hm4 hgg
          go_wp2
          go_meet
          exact ⟨⟨by rw [← HM.out]; exact HR.out⟩, HC1, HZ, HBm⟩
        · have hltb : decide ((m : Int) < (x.length : Int)) = false := decide_eq_false (by omega)
          have hltc : decide (m < x.length) = false := decide_eq_false e
          clear hq e hm hm4 hgg
          go_wp2
          go_meet
          exact ⟨⟨by rw [← HM.out]; exact HR.out⟩, HC1, HZ, HBm⟩
  case rest =>
    obtain ⟨R3, C3, Z3, B3⟩ := hcut
    have HLL := Aside0.mk (slL_len k x)
    have HEI := Aside0.mk (slL_err k cl x HK.out.1)
    generalize slL k x = l at *
    obtain ⟨AL, cL, rfl, hcL0, -⟩ := Kd.R_reads R3.out
    have HcL := Aside0.mk hcL0
    clear hcL0
    go_wp2_with (fail)
    with_reducible refine (New_calls k cl wc HK.out.1 HK.out.2).mono ?_
    rintro e w4 ⟨g, gs, rfl, hs, hb⟩
    have S4 := Aside0.mk hs
    have R4 := Aside0.mk (Kd.R_below R3.out hb)
    have C4 := Aside0.mk ((hb.block W.heap.size Z3.out).trans C3.out)
    have B4 := Aside0.mk (B3.out.trans (hb.mono B3.out.size))
    have Z4 := Aside0.mk (Nat.lt_of_lt_of_le Z3.out hb.size)
    clear hs hb
    go_wp2_with (fail)
    with_reducible refine (New_calls k cl w4 HK.out.1 HK.out.2).mono ?_
    rintro e w5 ⟨g2, gs2, rfl, hs, hb⟩
    have T5 := Aside0.mk hs
    have S5 := Aside0.mk (S4.out.below hb)
    have R5 := Aside0.mk (Kd.R_below R4.out hb)
    have C5 := Aside0.mk ((hb.block W.heap.size Z4.out).trans C4.out)
    have B5 := Aside0.mk (B4.out.trans (hb.mono B4.out.size))
    have Z5 := Aside0.mk (Nat.lt_of_lt_of_le Z4.out hb.size)
    have NE := Aside0.mk (show g < w4.heap.size ∧ gs < w4.heap.size ∧ w4.heap.size ≤ g2 ∧ w4.heap.size ≤ gs2 ∧ W.heap.size < g ∧ W.heap.size < gs from ⟨S4.out.lt, S4.out.lts, hs.bg, hs.bs, by have := S4.out.bg; have := Z3.out; omega, by have := S4.out.bs; have := Z3.out; omega⟩)
    clear hs hb
    go_wp2_with (fail)
    with_reducible refine (lives_calls w5).mono ?_
    rintro e w6 ⟨rfl, hb⟩
    have T6 := Aside0.mk (T5.out.below hb)
    have S6 := Aside0.mk (S5.out.below hb)
    have R6 := Aside0.mk (Kd.R_below R5.out hb)
    have C6 := Aside0.mk ((hb.block W.heap.size Z5.out).trans C5.out)
    have B6 := Aside0.mk (B5.out.trans (hb.mono B5.out.size))
    have Z6 := Aside0.mk (Nat.lt_of_lt_of_le Z5.out hb.size)
    clear hb
    have q1 : w6.cell? ⟨W.heap.size, 1, none⟩ = some (.int .u8 a1) := by have := C6.out; simp [World.cell?, this]
    obtain ⟨ct, hct⟩ : ∃ ct : Nat, a1 % ((l.length : Int) + 1) = ct := ⟨(a1 % ((l.length : Int) + 1)).toNat, by have := Int.emod_nonneg a1 (show (l.length : Int) + 1 ≠ 0 by omega); omega⟩
    have HCT := Aside0.mk (show ct ≤ l.length by have := Int.emod_lt_of_pos a1 (show (0 : Int) < (l.length : Int) + 1 by omega); omega)
    have ha0 : 0 ≤ a1 := HA1.out.1
    have ha1 : a1 < 256 := HA1.out.2
    have hl2 : (l.length : Int) ≤ 200 := by have := HLL.out; omega
    obtain ⟨A', c', e', hcL, hCL⟩ := R_moved S6.out R6.out
    injection e' with e1 e2 e3
    subst e1
    have HCL := Aside0.mk hCL
    clear hCL hcL e2 e3
    go_wp2_with (fail)
    with_reducible refine (Run_calls w6 wc.heap.size g gs (newSh k cl) S6.out (okSh_new k cl HK.out.2) (by have := S6.out.bg; have := S6.out.lt; omega) AL cL l HCL.out (by have := HLL.out; omega) HEI.out).mono ?_
    rintro e w7 ⟨rfl, hs, hm⟩
    have S7 := Aside0.mk hs
    have T7 := Aside0.mk (T6.out.keep hm (by have := NE.out; omega) (by have := NE.out; omega) (by have := NE.out; omega) (by have := NE.out; omega))
    have R7 := Aside0.mk (R_mv S6.out R6.out hm)
    have B7 := Aside0.mk (hm.bel W.heap.size W B6.out B3.out.size)
    clear hs hm q1 HCL
    have hcc1 : ((ct : Int) ≤ (cL : Int)) = True := eq_true (by have := HCT.out; have := HcL.out; omega)
    have hcc2 : (ct ≤ cL) = True := eq_true (by have := HCT.out; have := HcL.out; omega)
    obtain ⟨A', c', e', hcL, hCL⟩ := R_moved T7.out R7.out
    injection e' with e1 e2 e3
    subst e1
    have hCLt := Aside0.mk (fun w' m => C_take (hCL w' m) ct HCT.out)
    have hlt := Aside0.mk (show (l.take ct).length = ct by rw [List.length_take]; have := HCT.out; omega)
    clear hCL hcL e2 e3
    have SP1 := Aside0.mk (runS_split (newSh k cl) l ct)
    have OK1 := Aside0.mk (runS_ok (okSh_new k cl HK.out.2) (l.take ct) (errI_take HEI.out ct))
    have hr := Run_calls w7 w4.heap.size g2 gs2 (newSh k cl) T7.out (okSh_new k cl HK.out.2) (by have := T7.out.bg; have := T7.out.lt; omega) AL cL (l.take ct) hCLt.out (by rw [hlt.out]; have := HCT.out; have := HLL.out; omega) (errI_take HEI.out ct)
    rw [hlt.out] at hr
    have HRUN := Aside0.mk hr
    clear hr
    generalize runS (newSh k cl) (l.take ct) = r1 at *
    have LNA := Aside0.mk (show (runS (newSh k cl) l).1.sc.length = k from (runS_ok (okSh_new k cl HK.out.2) l HEI.out).2.trans (by simp [newSh]))
    generalize runS (newSh k cl) l = ra at *
    go_wp2_with (fail)
    with_reducible refine HRUN.out.mono ?_
    rintro e w8 ⟨rfl, hs, hm⟩
    have T8 := Aside0.mk hs
    have S8 := Aside0.mk (S7.out.keep hm (by have := NE.out; omega) (by have := NE.out; omega) (by have := NE.out; omega) (by have := NE.out; omega))
    have R8 := Aside0.mk (R_mv T7.out R7.out hm)
    have B8 := Aside0.mk (hm.bel W.heap.size W B7.out (Nat.le_trans B3.out.size (by have := S4.out.bg; have := S4.out.lt; omega)))
    clear hs hm HRUN
    go_wp2_with (fail)
    with_reducible refine (Clone_calls w8 w4.heap.size g2 gs2 r1.1 T8.out).mono ?_
    rintro e w9 ⟨g3, gs3, cap, rfl, hs, hb⟩
    have O9 := Aside0.mk hs
    have T9 := Aside0.mk (T8.out.below hb)
    have S9 := Aside0.mk (S8.out.below hb)
    have R9 := Aside0.mk (Kd.R_below R8.out hb)
    have B9 := Aside0.mk (B8.out.trans (hb.mono B8.out.size))
    have NE3 := Aside0.mk (show g2 < g3 ∧ gs2 < g3 ∧ g2 < gs3 ∧ gs2 < gs3 ∧ g < g3 ∧ gs < g3 ∧ g < gs3 ∧ gs < gs3 by
      have := hs.bg; have := hs.bs; have := T8.out.lt; have := T8.out.lts; have := S8.out.lt; have := S8.out.lts; omega)
    clear hs hb
    go_upto_block 2 with (first | ((with_reducible refine gate_dst (N := 116) rfl ?_); refine Kd.R_lit (Kd.int .i64) w9.heap.size 3 ?hg (N := 116) ?hd (xs := ([] : List Int)) (inner := []) (ok := fun _ => True) (okp := fun _ => True) ?hr ?hp (fun _ hk => hk) trivial (Below.refl _ w9) (Nat.le_refl _) (by simp) ?_; (case hd => rfl); (case hg => rfl); (case hr => first | (go_simp; done) | (go_simp; rfl)); (case hp => exact (Reps.none _ _)); intro v116 w10 ho hb hg_ hnew_; have HO10 := Aside0.mk ho; have B10 := Aside0.mk hb; clear ho hb hg_ hnew_))
    have hl0 : 0 ≤ (l.length : Int) := by omega
    go_cut [20, 21] (fun s20 s21 wx => ∃ bk : List Int, Aside0 (bk.length ≤ 200 ∧ ∀ i ∈ bk, errI (newSh k cl) i = 0) ∧ Aside0 (Kd.R (Kd.int .i64) 3 wx w9.heap.size (fun _ => True) s20 bk) ∧ Aside0 (Below w9.heap.size w9 wx))
    case first =>
      go_wp2
      go_loopg [20, 21] l.length (fun gg v20 v21 w' => ∃ (m : Nat) (z : Int) (bk : List Int), m ≤ l.length ∧ l.length - m ≤ gg ∧ v21 = .int .i64 z ∧ Aside0 (z = (l.length : Int) - 1 - m) ∧ Aside0 (bk.length = m ∧ ∀ i ∈ bk, errI (newSh k cl) i = 0) ∧ Aside0 (Kd.R (Kd.int .i64) 3 w' w9.heap.size (fun _ => True) v20 bk) ∧ Aside0 (Below w9.heap.size w9 w'))
      case atStart => exact ⟨0, (l.length : Int) - 1, [], Nat.zero_le _, by omega, rfl, ⟨by simp⟩, ⟨rfl, fun i hi => by cases hi⟩, HO10, B10⟩
      case round =>
        obtain ⟨m, z, bk, hm, hgg, rfl, HZ, HBK, HRb, HBb⟩ := hrel
        by_cases hlt : m < l.length
        · have hz0 : 0 ≤ z := by rw [HZ.out]; omega
          have hz1 : z < (l.length : Int) := by rw [HZ.out]; omega
          have hz2 : decide (0 ≤ z) = true := decide_eq_true hz0
          have hz3 : (z < (l.length : Int)) = True := eq_true hz1
          have hz4 : decide (z < (l.length : Int)) = true := decide_eq_true hz1
          have hzw : wrap64 (z - 1) = z - 1 := by have := HLL.out; unfold wrap64; omega
          have HLT := Aside0.mk hlt
          obtain ⟨A', c', e', hcL', hCL⟩ := Kd.R_reads (Kd.R_below R9.out HBb.out)
          injection e' with e1 e2 e3
          subst e1
          obtain ⟨ad, ee, hx⟩ := Kd.at_int hCL z hz0 hz1
          cases ee
          have hin := Aside0.mk (show errI (newSh k cl) (rd l z) = 0 by
            have := HEI.out (rd l z.toNat) (rd_in l z.toNat (by omega))
            rw [Int.toNat_of_nonneg hz0] at this
            exact this)
          generalize rd l z = u at *
          clear hCL hcL' e2 e3 hlt hm
          go_wp2_with (first | ((with_reducible refine gate_builtin (b := .append) (xs := #[.tmp 124, .tmp 129]) rfl ?_); at_builtin; refine Kd.R_append (Kd.int .i64) (w0 := w9) w9.heap.size rfl (.tmp 124) (.tmp 129) 24 3 (.int .i64 0) 8 rfl Try.underlying24 info3 rfl (by decide) (by omega) _ bk u [.int .i64 u] (fun _ => True) (fun _ => False) rfl rfl ?aP (fun _ hk => hk.elim) ?aF ?aO ?aB ?aS ?aL ?_; (case aP => exact rfl); (case aB => exact (by repeat (first | exact HBb.out | apply below_alloc))); (case aF => exact (fun _ _ => trivial)); (case aO => exact (by (with_reducible repeat (first | apply Kd.R_alloc | apply Kd.R_drewN | apply Kd.R_drew)); exact HRb.out)); (case aS => exact (below_size (by repeat (first | exact HBb.out | apply below_alloc)))); (case aL => have := HBK.out.1; have := HLT.out; have := HLL.out; omega); intro v115 w11 ho hb hg hat; have HO5 := Aside0.mk ho; have HB5 := Aside0.mk hb; clear ho hb hg hat))
          go_roundg (l.length - (m + 1))
          case measure => have := HLT.out; omega
          case rel => exact ⟨m + 1, z - 1, bk ++ [u], HLT.out, Nat.le_refl _, (by first | rfl | rw [hzw]), ⟨by have := HZ.out; push_cast; omega⟩, ⟨by rw [List.length_append, HBK.out.1]; rfl, fun i hi => by
            rcases List.mem_append.1 hi with h | h
            · exact HBK.out.2 i h
            · rw [List.mem_singleton.1 h]; exact hin.out⟩, HO5, HB5⟩
        · have hz0 : ¬ 0 ≤ z := by rw [HZ.out]; omega
          have hz2 : decide (0 ≤ z) = false := decide_eq_false hz0
          have HB2 := Aside0.mk (show bk.length ≤ 200 by have := HBK.out.1; have := HLL.out; omega)
          clear hlt hm hgg hz0
          go_wp2
          go_meet
          exact ⟨bk, ⟨HB2.out, HBK.out.2⟩, HRb, HBb⟩
    case rest =>
      obtain ⟨bk, HBK, HRb, HBb⟩ := hcut
      have S10 := Aside0.mk (S9.out.below HBb.out)
      have T10 := Aside0.mk (T9.out.below HBb.out)
      have O10 := Aside0.mk (O9.out.below HBb.out)
      have R10 := Aside0.mk (Kd.R_below R9.out HBb.out)
      have B10 := Aside0.mk (B9.out.trans (HBb.out.mono B9.out.size))
      have LN1 := Aside0.mk (show r1.1.sc.length = k from OK1.out.2.trans (by simp [newSh]))
      have ER1 := Aside0.mk (show ∀ (i : Int), errI r1.1 i = errI (newSh k cl) i from fun i => errI_len OK1.out.2 i)
      obtain ⟨Ab, cb, rfl, hcb, hCb⟩ := R_moved O10.out HRb.out
      have HCb := Aside0.mk hCb
      clear hCb hcb
      go_wp2_with (fail)
      with_reducible refine (Run_calls _ _ g3 gs3 _ O10.out (okSh_cp OK1.out.1 cap) (by have := O10.out.bg; have := O10.out.lt; omega) Ab cb bk HCb.out (by have := HBK.out.1; omega) (fun i hi => (errI_cp _ _ _).trans ((ER1.out i).trans (HBK.out.2 i hi)))).mono ?_
      rintro e w11 ⟨rfl, -, hm⟩
      have S11 := Aside0.mk (S10.out.keep hm (by have := NE3.out; omega) (by have := NE3.out; omega) (by have := NE3.out; omega) (by have := NE3.out; omega))
      have T11 := Aside0.mk (T10.out.keep hm (by have := NE3.out; omega) (by have := NE3.out; omega) (by have := NE3.out; omega) (by have := NE3.out; omega))
      have R11 := Aside0.mk (R_mv O10.out R10.out hm)
      have B11 := Aside0.mk (hm.bel W.heap.size W B10.out B8.out.size)
      clear hm
      obtain ⟨A', c', e', hcL, hCL⟩ := R_moved T11.out R11.out
      injection e' with e1 e2 e3
      subst e1
      have hld := Aside0.mk (show (l.drop ct).length = l.length - ct from List.length_drop)
      have HCd := Aside0.mk (show ∀ AD : Option Addr, (AD = AL.map (fun x => x.add ct) ∨ l.length ≤ ct) → ∀ w', Moved w11 w' w4.heap.size g2 gs2 → Kd.C (Kd.int .i64) w' AD (l.drop ct).length (l.drop ct) from fun AD hAD w' m => by
        by_cases q : ct < l.length
        · rcases hAD with rfl | hAD
          · obtain ⟨ad, he, _⟩ := (hCL w' m).2.2 (by omega)
            rw [he]
            exact C_drop (hCL w' m) ct q ad he
          · omega
        · rw [List.drop_of_length_le (by omega)]
          exact C_nil w' AD)
      clear hCL hcL e2 e3
      have SP2 := Aside0.mk (show ra.1 = (runS r1.1 (l.drop ct)).1 ∧ ra.2 = mxI r1.2 (runS r1.1 (l.drop ct)).2 from SP1.out)
      have HED := Aside0.mk (fun i hi => (ER1.out i).trans (errI_drop HEI.out ct i hi))
      have HRD := Aside0.mk (fun (AD : Option Addr) (c9 : Nat) hAD => Run_calls w11 w4.heap.size g2 gs2 r1.1 T11.out OK1.out.1 (by have := T11.out.bg; have := T11.out.lt; omega) AD c9 (l.drop ct) (HCd.out AD hAD) (by rw [hld.out]; have := HLL.out; omega) HED.out)
      rw [hld.out] at HRD
      generalize runS r1.1 (l.drop ct) = r2 at *
      have hcl1 : (ct ≤ l.length) = True := eq_true HCT.out
      have hcl2 : ((ct : Int) ≤ (l.length : Int)) = True := eq_true (by have := HCT.out; omega)
      go_upto_region 24 with (fail)
      go_cut [24, 25] (fun s24 s25 wx => s24 = .int .i64 r2.2 ∧ s25 = .int .i64 0 ∧ Aside0 (Shp wx w4.heap.size g2 gs2 r2.1) ∧ Aside0 (∃ b1, Shp wx b1 g gs ra.1) ∧ Aside0 (Below W.heap.size W wx))
      case first =>
        by_cases hcc : cL = ct
        · have hcb : (cL = ct) = True := eq_true hcc
          have HQ2 := Aside0.mk (show l.length ≤ ct by have := HcL.out; omega)
          clear hcc
          go_wp2_with (fail)
          refine (HRD.out _ _ (.inr HQ2.out)).mono ?_
          rintro e w12 ⟨rfl, hs, hm⟩
          have T12 := Aside0.mk hs
          have S12 := Aside0.mk (S11.out.keep hm (by have := NE.out; omega) (by have := NE.out; omega) (by have := NE.out; omega) (by have := NE.out; omega))
          have B12 := Aside0.mk (hm.bel W.heap.size W B11.out (Nat.le_of_lt Z4.out))
          clear hs hm
          go_wp2
          go_meet
          exact ⟨rfl, rfl, T12, ⟨⟨_, S12.out⟩⟩, B12⟩
        · have hcb : (cL = ct) = False := eq_false hcc
          clear hcc
          go_wp2_with (fail)
          refine (HRD.out _ _ (.inl rfl)).mono ?_
          rintro e w12 ⟨rfl, hs, hm⟩
          have T12 := Aside0.mk hs
          have S12 := Aside0.mk (S11.out.keep hm (by have := NE.out; omega) (by have := NE.out; omega) (by have := NE.out; omega) (by have := NE.out; omega))
          have B12 := Aside0.mk (hm.bel W.heap.size W B11.out (Nat.le_of_lt Z4.out))
          clear hs hm
          go_wp2
          go_meet
          exact ⟨rfl, rfl, T12, ⟨⟨_, S12.out⟩⟩, B12⟩
      case rest =>
        obtain ⟨rfl, rfl, T12, S12', B12⟩ := hcut
        obtain ⟨b1, S12⟩ := S12'.out
        have S12 := Aside0.mk S12
        go_upto_region 25 with (fail)
        go_cut [170] (fun s170 wx => s170 = .bool false ∧ Aside0 (Shp wx w4.heap.size g2 gs2 r2.1) ∧ Aside0 (∃ b1, Shp wx b1 g gs ra.1) ∧ Aside0 (Below W.heap.size W wx))
        case first =>
          by_cases hlt : r1.2 < r2.2
          · have hrr : ra.2 = r2.2 := by rw [SP2.out.2]; exact if_pos hlt
            have hre : (ra.2 = r2.2) = True := eq_true hrr
            have hrn : (ra.2 != r2.2) = false := bne_eq_false_iff_eq.2 hrr
            clear hrr
            have hl1 : (r1.2 < r2.2) = True := eq_true hlt
            clear hlt
            go_wp2_with (fail)
            with_reducible refine (Taken_calls _ b1 g gs ra.1 S12.out).mono ?_
            rintro e w13 ⟨rfl, rfl⟩
            go_wp2_with (fail)
            with_reducible refine (Taken_calls _ w4.heap.size g2 gs2 r2.1 T12.out).mono ?_
            rintro e w13 ⟨rfl, rfl⟩
            rw [SP2.out.1]
            go_wp2_with (fail)
            with_reducible refine (Inside_calls _ b1 g gs ra.1 S12.out).mono ?_
            rintro e w13 ⟨v, rfl, hR, hb⟩
            obtain ⟨A5, c5, rfl, hc5, hC5⟩ := Kd.R_reads hR
            rw [SP2.out.1] at hC5 hc5 ⊢
            have S13 := Aside0.mk (S12.out.below hb)
            have T13 := Aside0.mk (T12.out.below hb)
            have B13 := Aside0.mk (B12.out.trans (hb.mono B12.out.size))
            have HC5 := Aside0.mk hC5
            have Hc5 := Aside0.mk hc5
            clear hb hR hc5 hC5
            go_wp2_with (fail)
            with_reducible refine (Inside_calls w13 w4.heap.size g2 gs2 r2.1 T13.out).mono ?_
            rintro e w14 ⟨v, rfl, hR, hb⟩
            obtain ⟨A6, c6, rfl, hc6, hC6⟩ := Kd.R_reads hR
            have S14 := Aside0.mk (S13.out.below hb)
            have T14 := Aside0.mk (T13.out.below hb)
            have B14 := Aside0.mk (B13.out.trans (hb.mono B13.out.size))
            have HSM := Aside0.mk (woggleref01_Same.calls 20 A5 c5 (insL r2.1) A6 c6 (insL r2.1) true w14 (Kd.C_below HC5.out hb) Hc5.out hC6 hc6 (same_same _ (Nat.le_trans (insTo_len _ _) T13.out.few)))
            clear hb hR hc6 hC6 HC5
            go_wp2_with (fail)
            with_reducible refine HSM.out.mono ?_
            rintro e w15 ⟨rfl, hd⟩
            have S15 := Aside0.mk (S14.out.below hd.below)
            have T15 := Aside0.mk (T14.out.below hd.below)
            have B15 := Aside0.mk (B14.out.trans (hd.below.mono B14.out.size))
            clear hd
            go_wp2
            go_meet
            exact ⟨rfl, T15, ⟨⟨_, S15.out⟩⟩, B15⟩
          · have hrr : ra.2 = r1.2 := by rw [SP2.out.2]; exact if_neg hlt
            have hre : (ra.2 = r1.2) = True := eq_true hrr
            have hrn : (ra.2 != r1.2) = false := bne_eq_false_iff_eq.2 hrr
            clear hrr
            have hl1 : (r1.2 < r2.2) = False := eq_false hlt
            clear hlt
            go_wp2_with (fail)
            with_reducible refine (Taken_calls _ b1 g gs ra.1 S12.out).mono ?_
            rintro e w13 ⟨rfl, rfl⟩
            go_wp2_with (fail)
            with_reducible refine (Taken_calls _ w4.heap.size g2 gs2 r2.1 T12.out).mono ?_
            rintro e w13 ⟨rfl, rfl⟩
            rw [SP2.out.1]
            go_wp2_with (fail)
            with_reducible refine (Inside_calls _ b1 g gs ra.1 S12.out).mono ?_
            rintro e w13 ⟨v, rfl, hR, hb⟩
            obtain ⟨A5, c5, rfl, hc5, hC5⟩ := Kd.R_reads hR
            rw [SP2.out.1] at hC5 hc5 ⊢
            have S13 := Aside0.mk (S12.out.below hb)
            have T13 := Aside0.mk (T12.out.below hb)
            have B13 := Aside0.mk (B12.out.trans (hb.mono B12.out.size))
            have HC5 := Aside0.mk hC5
            have Hc5 := Aside0.mk hc5
            clear hb hR hc5 hC5
            go_wp2_with (fail)
            with_reducible refine (Inside_calls w13 w4.heap.size g2 gs2 r2.1 T13.out).mono ?_
            rintro e w14 ⟨v, rfl, hR, hb⟩
            obtain ⟨A6, c6, rfl, hc6, hC6⟩ := Kd.R_reads hR
            have S14 := Aside0.mk (S13.out.below hb)
            have T14 := Aside0.mk (T13.out.below hb)
            have B14 := Aside0.mk (B13.out.trans (hb.mono B13.out.size))
            have HSM := Aside0.mk (woggleref01_Same.calls 20 A5 c5 (insL r2.1) A6 c6 (insL r2.1) true w14 (Kd.C_below HC5.out hb) Hc5.out hC6 hc6 (same_same _ (Nat.le_trans (insTo_len _ _) T13.out.few)))
            clear hb hR hc6 hC6 HC5
            go_wp2_with (fail)
            with_reducible refine HSM.out.mono ?_
            rintro e w15 ⟨rfl, hd⟩
            have S15 := Aside0.mk (S14.out.below hd.below)
            have T15 := Aside0.mk (T14.out.below hd.below)
            have B15 := Aside0.mk (B14.out.trans (hd.below.mono B14.out.size))
            clear hd
            go_wp2
            go_meet
            exact ⟨rfl, T15, ⟨⟨_, S15.out⟩⟩, B15⟩
        case rest =>
          obtain ⟨rfl, T16, S16', B16⟩ := hcut
          obtain ⟨b2, S16⟩ := S16'.out
          have S16 := Aside0.mk S16
          have LN2 := Aside0.mk (show r2.1.sc.length = k from by rw [← SP2.out.1]; exact LNA.out)
          go_wp2
          go_loopg [26] k (fun gg v26 w' => ∃ j : Nat, j ≤ k ∧ k - j ≤ gg ∧ v26 = .int .i64 j ∧ Aside0 (Shp w' w4.heap.size g2 gs2 r2.1) ∧ Aside0 (Shp w' b2 g gs ra.1) ∧ Aside0 (Below W.heap.size W w'))
          case atStart => exact ⟨0, Nat.zero_le _, by omega, rfl, T16, S16, B16⟩
          case round =>
            obtain ⟨j, hj, hgg, rfl, HT, HS, HBj⟩ := hrel
            by_cases hjk : j < k
            · have hja : ((j : Int) < (k : Int)) = True := eq_true (by omega)
              have hjb : decide (j < k) = true := decide_eq_true hjk
              have hjc : decide ((j : Int) < (k : Int)) = true := decide_eq_true (by omega)
              have hwj : wrap64 ((j : Int) + 1) = (j : Int) + 1 := wrap_lt60 (by have := HK.out; omega)
              have HJK := Aside0.mk hjk
              clear hjk hj
              go_wp2_with (fail)
              with_reducible refine (Stage_calls _ b2 g gs ra.1 HS.out j).mono ?_
              rintro e w17 ⟨rfl, hb⟩
              rw [SP2.out.1]
              have S17 := Aside0.mk (HS.out.below hb)
              have T17 := Aside0.mk (HT.out.below hb)
              have B17 := Aside0.mk (HBj.out.trans (hb.mono HBj.out.size))
              clear hb
              go_wp2_with (fail)
              with_reducible refine (Stage_calls w17 w4.heap.size g2 gs2 r2.1 T17.out j).mono ?_
              rintro e w18 ⟨rfl, hb⟩
              have S18 := Aside0.mk (S17.out.below hb)
              have T18 := Aside0.mk (T17.out.below hb)
              have B18 := Aside0.mk (B17.out.trans (hb.mono B17.out.size))
              clear hb
              go_wp2_with (fail)
              with_reducible refine (Number_calls w18 b2 g gs ra.1 S18.out j).mono ?_
              rintro e w' ⟨rfl, rfl⟩
              rw [SP2.out.1]
              go_wp2_with (fail)
              with_reducible refine (Number_calls w18 w4.heap.size g2 gs2 r2.1 T18.out j).mono ?_
              rintro e w' ⟨rfl, rfl⟩
              go_wp2_with (fail)
              with_reducible refine (Choosing_calls w18 b2 g gs ra.1 S18.out j).mono ?_
              rintro e w' ⟨rfl, rfl⟩
              rw [SP2.out.1]
              go_wp2_with (fail)
              with_reducible refine (Choosing_calls w18 w4.heap.size g2 gs2 r2.1 T18.out j).mono ?_
              rintro e w' ⟨rfl, rfl⟩
              go_wp2
              go_roundg (k - (j + 1))
              case measure => have := HJK.out; omega
              case rel => exact ⟨j + 1, HJK.out, Nat.le_refl _, (by first | exact int_succ j | exact int_wsucc hwj), T18, S18, B18⟩
            · have hja : ((j : Int) < (k : Int)) = False := eq_false (by omega)
              have hjb : decide (j < k) = false := decide_eq_false hjk
              have hjc : decide ((j : Int) < (k : Int)) = false := decide_eq_false (by omega)
              clear hjk hj hgg
              go_wp2
              go_ret
              exact ⟨rfl, HBj.out⟩
theorem Same_row (W : World) (a0 a1 : Int) (h0 : (Lit.int .u8 a0).wf = true) (h1 : (Lit.int .u8 a1).wf = true) (A : Option Addr) (c : Nat) (x : List Int) (hx : Kd.C (Kd.int .u8) W A x.length x) (hc : x.length ≤ c) (hg : x.length ≤ maxLen ∧ ∀ y ∈ x, (Lit.int .u8 y).wf = true) (cl : Bool) :
    Calls Try.prog 10 #[.agg #[.int .u8 a0, .int .u8 a1], .slice A x.length c, .bool cl] W fun e w' => e = .returned (.bool true) ∧ Below W.heap.size W w' := by
  obtain ⟨p0, p1⟩ := u8_of' h0
  obtain ⟨p2, p3⟩ := u8_of' h1
  exact Same_calls W a0 a1 (a0 % 4 + 1).toNat p0 p1 p2 p3 (by omega) A c x hx (fun v hv => u8_of' (hg.2 v hv)) cl
end Go.Proofs.Ytjjnglngldfglaa.P
