/- QueueProgress: the walk. -/
import Derived.Test.YtjjnglngldfglaaQZ6
import Derived.Deep.DeepCutAuto
namespace Go.Proofs.Ytjjnglngldfglaa.P
set_option linter.unusedVariables false
open Go Go.RowKit Go.Proofs.YtjjnglngldfglaaW.PrintWords Go.Proofs.YtjjnglngldfglaaW.PrintLast Go.Proofs.YtjjnglngldfglaaW.PrintMore

theorem infoB : (Try.prog.info? 4).map (fun i => (i.zero, i.size, i.bytes)) = some (some (.bool false), 1, 1) := by kernel_rfl
def rdb (l : List Bool) (i : Nat) : Bool := l.getD i false
def BlkB (w : World) (ga : Nat) (l : List Bool) : Prop := w.heap[ga]? = some (.cells (l.map Value.bool).toArray 4 (0, 0))
section
variable {W W1 : World} {b g gs ga : Nat} {sh : Sh} {ah : List Bool}
theorem BlkB.lt (h : BlkB W ga ah) : ga < W.heap.size := (Array.getElem?_eq_some_iff.1 h).1
theorem BlkB.cell (h : BlkB W ga ah) (j : Nat) (hj : j < ah.length) : W.cell? ⟨ga, j, none⟩ = some (.bool (rdb ah j)) := by
  unfold BlkB at h
  simp only [World.cell?, h]
  unfold rdb
  simp [hj]
theorem BlkB.fz (h : BlkB W ga ah) (j : Nat) : W.frozen? ⟨ga, j, none⟩ = false := by
  unfold BlkB at h
  simp [World.frozen?, h]
theorem BlkB.set (h : BlkB W ga ah) (j : Nat) (x : Bool) : BlkB (W.setCell ⟨ga, j, none⟩ (.bool x)) ga (ah.set j x) := by
  unfold BlkB at *
  rw [heap_setCell_same W ga _ _ 4 _ h]
  simp [List.map_set]
theorem BlkB.ne (h : BlkB W ga ah) (hs : Shp W b g gs sh) : ga ≠ g ∧ ga ≠ gs := by
  unfold BlkB at h
  refine ⟨fun e => ?_, fun e => ?_⟩
  · have h0 := hs.hg
    rw [← e, h] at h0
    have := Option.some.inj h0
    injection this with _ e2 _
    exact absurd e2 (by decide)
  · obtain ⟨_, h0⟩ := hs.hs
    rw [← e, h] at h0
    have := Option.some.inj h0
    injection this with _ e2 _
    exact absurd e2 (by decide)
theorem BlkB.below (h : BlkB W ga ah) (hb : Below W.heap.size W W1) : BlkB W1 ga ah := (hb.block ga h.lt).trans h
theorem BlkB.moved (h : BlkB W ga ah) (hs : Shp W b g gs sh) (m : Moved W W1 b g gs) : BlkB W1 ga ah := (m.keep ga h.lt (h.ne hs).1 (h.ne hs).2).trans h
theorem Shp.setB (hs : Shp W b g gs sh) (h : BlkB W ga ah) (j : Nat) (x : Value) : Shp (W.setCell ⟨ga, j, none⟩ x) b g gs sh := by
  obtain ⟨n1, n2⟩ := h.ne hs
  obtain ⟨r, h0⟩ := hs.hs
  exact ⟨(Below.heap_setCell W _ _ g (Ne.symm n1)).trans hs.hg, ⟨r, (Below.heap_setCell W _ _ gs (Ne.symm n2)).trans h0⟩, hs.bg, hs.bs, hs.pos, hs.few⟩
end
theorem rdb_set (l : List Bool) (j i : Nat) (x : Bool) (hj : j < l.length) : rdb (l.set j x) i = if i = j then x else rdb l i := by
  unfold rdb
  by_cases e : i = j
  · subst e; rw [if_pos rfl]; simp [hj]
  · rw [if_neg e]; simp [List.getD_eq_getElem?_getD, List.getElem?_set_ne (Ne.symm e)]
theorem made_false (k : Nat) : madeCells #[.bool false] k = ((List.replicate k false).map Value.bool).toArray := by
  apply Array.ext'
  unfold madeCells
  simp
  apply List.ext_getElem
  · simp
  · intro i h1 h2; simp [Nat.mod_one]
theorem bak_mono {sh : Sh} {t t' : Int} (h : Bak sh t) (ht : t ≤ t') : Bak sh t' := ⟨h.cl, h.few, by have := h.t0; omega, fun i hi => (h.wf i hi).mono ht, h.pr⟩
theorem int_succ (a : Nat) : Value.int .i64 ((a : Int) + 1) = Value.int .i64 ((a + 1 : Nat) : Int) := rfl
theorem int_wsucc {a : Nat} (h : wrap64 ((a : Int) + 1) = (a : Int) + 1) : Value.int .i64 (wrap64 ((a : Int) + 1)) = Value.int .i64 ((a + 1 : Nat) : Int) := by rw [h]; rfl
theorem wrap_lt {a : Nat} (h : a < 4) : wrap64 ((a : Int) + 1) = (a : Int) + 1 := wrap_few a (by omega) (by omega)
theorem wrap_lt60 {a : Nat} (h : a < 1000) : wrap64 ((a : Int) + 1) = (a : Int) + 1 := by unfold wrap64; omega
/-- Who waits has been inside, or is on its way. -/
def Way (sh : Sh) (ins : List Bool) (wt : List Int) : Prop := ∀ w ∈ wt, ∃ v : Nat, w = v ∧ v < sh.sc.length ∧ (rdb ins v = true ∨ (1 ≤ (scAt sh v).st.num ∧ (scAt sh v).st.num ≤ 6))
theorem num_le7 (s : St) : 0 ≤ s.num ∧ s.num ≤ 7 := by cases s <;> simp [St.num]
theorem way_step {sh : Sh} {t : Int} (hB : Bak sh t) (ht : t < 1000000) {ins : List Bool} {wt : List Int} (h : Way sh ins wt) (v : Nat) (hv : v < sh.sc.length) (hi : ¬ (scAt sh v).st.isIdle = true) (hl : v < ins.length) : Way (stepS sh v) (ins.set v (rdb ins v || (scAt (stepS sh v) v).st.num == 7)) wt := by
  have hadv : adv sh v = stepS sh v := (want_busy hv hi).2.2
  intro w hw
  obtain ⟨u, rfl, hu, h1⟩ := h w hw
  refine ⟨u, rfl, by rw [stepS_len]; exact hu, ?_⟩
  rw [rdb_set _ _ _ _ hl]
  by_cases e : u = v
  · subst e
    rw [if_pos rfl]
    rcases h1 with h1 | ⟨h1, h2⟩
    · left; rw [h1]; rfl
    · have h3 := (step_meas hB ht u hv).2.2.2.2.2.2 h1 h2
      have h4 := num_le7 (scAt (stepS sh u) u).st
      by_cases q : (scAt (stepS sh u) u).st.num = 7
      · left; rw [q]; simp
      · right; omega
  · rw [if_neg e, ← hadv, adv_ne sh v u e hu]
    exact h1
set_option maxRecDepth 100000 in
set_option maxHeartbeats 1600000 in
theorem Progress_calls (W : World) (n : Int) (k : Nat) (h0 : 0 ≤ n) (h1 : n < 256) (hk : n % 4 + 1 = (k : Int)) (A : Option Addr) (c : Nat) (x : List Int) (hx : Kd.C (Kd.int .u8) W A x.length x) (hu : ∀ v ∈ x, 0 ≤ v ∧ v < 256)
    (A' : Option Addr) (c' : Nat) (y : List Int) (hy : Kd.C (Kd.int .u8) W A' y.length y) (hv : ∀ v ∈ y, 0 ≤ v ∧ v < 256) :
    Calls Try.prog 5 #[.int .u8 n, .slice A x.length c, .slice A' y.length c'] W fun e w' => e = .returned (.bool true) ∧ Below W.heap.size W w' := by
  have HM := Aside0.mk (made2_calls W n k h0 h1 hk A c x hx hu)
  have HK := Aside0.mk (show 1 ≤ k ∧ k ≤ 4 by omega)
  have HY := Aside0.mk hy
  have HYV := Aside0.mk hv
  have HYL := Aside0.mk hy.2.1
  have hl0 := Aside0.mk (show (newSh k false).sc.length = k by simp [newSh])
  have HRI := Aside0.mk (mkL_err k false x HK.out.1)
  have HLL := Aside0.mk (mkL_len k x)
  generalize mkL k x = l at *
  clear hx hu hk h0 h1 hy hv
  go_enter Try.func5, Try.ntmps5
  go_wp2_with (fail)
  with_reducible refine HM.out.mono ?_
  rintro e w1 ⟨g, gs, v, rfl, hs, hr, hb⟩
  have S1 := Aside0.mk hs
  have R1 := Aside0.mk hr
  have B1 := Aside0.mk hb
  clear hs hr hb HM
  go_wp2_with (fail)
  with_reducible refine (lives_calls w1).mono ?_
  rintro e w2 ⟨rfl, hb⟩
  have S2 := Aside0.mk (S1.out.below hb)
  have R2 := Aside0.mk (Kd.R_below R1.out hb)
  have B2 := Aside0.mk (B1.out.trans (hb.mono B1.out.size))
  clear hb
  obtain ⟨AL, cL, rfl, hcL, hCL⟩ := R_moved S2.out R2.out
  have HCL := Aside0.mk hCL
  clear hcL hCL
  go_wp2_with (fail)
  with_reducible refine (Run_calls w2 W.heap.size g gs (newSh k false) S2.out (okSh_new k false HK.out.2) B2.out.size AL cL l HCL.out (by have := HLL.out; omega) HRI.out).mono ?_
  rintro e w3 ⟨rfl, hs, hm⟩
  have S3 := Aside0.mk hs
  have B3 := Aside0.mk (hm.bel W.heap.size W B2.out (Nat.le_refl _))
  have BR := Aside0.mk (bak_run (bak_new k HK.out.2) l (by have := HLL.out; omega) HRI.out)
  have OR := Aside0.mk (runS_ok (okSh_new k false HK.out.2) l HRI.out)
  clear hs hm
  generalize runS (newSh k false) l = rs at *
  obtain ⟨sh0, m0⟩ := rs
  have BR0 := Aside0.mk (show Bak sh0 l.length from BR.out.1)
  have OR0 := Aside0.mk (show okSh sh0 from OR.out.1)
  have LN0 := Aside0.mk (show sh0.sc.length = k from OR.out.2.trans hl0.out)
  clear BR OR
  go_wp2_with (first | ((with_reducible refine gate_dst (N := 46) rfl ?_); refine Kd.R_lit (Kd.int .i64) W.heap.size 3 ?hg (N := 46) ?hd (xs := ([] : List Int)) (inner := []) (ok := fun _ => True) (okp := fun _ => True) ?hr ?hp (fun _ hk => hk) trivial B3.out B3.out.size (by simp) ?_; (case hd => rfl); (case hg => rfl); (case hr => first | (go_simp; done) | (go_simp; rfl)); (case hp => exact (Reps.none _ _)); intro v46 w4 ho hb hg_ hnew_; have HO := Aside0.mk ho; have HB4 := Aside0.mk hb; have HG4 := Aside0.mk hg_; clear ho hb hg_ hnew_))
  have S4 := Aside0.mk (show Shp w4 W.heap.size g gs sh0 from S3.out.grown HG4.out (by simp) (by simp))
  clear HG4
  go_loopg [12, 13] k (fun gg v12 v13 w' => ∃ (i : Nat) (wt : List Int), i ≤ k ∧ k - i ≤ gg ∧ v13 = .int .i64 i ∧ Aside0 (wt.length ≤ i ∧ ∀ q ∈ wt, ∃ u : Nat, q = u ∧ u < sh0.sc.length ∧ 1 ≤ (scAt sh0 u).st.num ∧ (scAt sh0 u).st.num ≤ 6) ∧ Aside0 (Kd.R (Kd.int .i64) 3 w' W.heap.size (fun _ => True) v12 wt) ∧ Aside0 (Shp w' W.heap.size g gs sh0) ∧ Aside0 (Below W.heap.size W w'))
  case atStart => exact ⟨0, [], Nat.zero_le _, by omega, rfl, ⟨by simp, fun q hq => by cases hq⟩, HO, S4, HB4⟩
  case round =>
    obtain ⟨i, wt, hi, hgg, rfl, HW, HR, HS, HB⟩ := hrel
    by_cases hik : i < k
    · have hka : ((i : Int) < (k : Int)) = True := eq_true (by omega)
      have hkb : decide (i < k) = true := decide_eq_true hik
      have hkc : decide ((i : Int) < (k : Int)) = true := decide_eq_true (by omega)
      have HIK := Aside0.mk (show i < k ∧ i < 4 by have := HK.out; omega)
      have HIS := Aside0.mk (show i < sh0.sc.length by rw [LN0.out]; exact hik)
      have hwi : wrap64 ((i : Int) + 1) = (i : Int) + 1 := wrap_lt HIK.out.2
      have ST := Aside0.mk (Stage_calls wr W.heap.size g gs sh0 HS.out i)
      rw [stOf_nat HIS.out] at ST
      clear hik hi
      obtain ⟨p, hp⟩ : ∃ p, (scAt sh0 i).st.num = p := ⟨_, rfl⟩
      rw [hp] at ST
      have HP := Aside0.mk hp
      clear hp
      go_wp2_with (fail)
      with_reducible refine ST.out.mono ?_
      rintro e w5 ⟨rfl, hb5⟩
      have S5 := Aside0.mk (HS.out.below hb5)
      have R5 := Aside0.mk (Kd.R_below HR.out hb5)
      have B5 := Aside0.mk (HB.out.trans (hb5.mono HB.out.size))
      clear hb5
      by_cases hpp : 0 < p ∧ p < 7
      · have p1 : decide (0 < p) = true := decide_eq_true hpp.1
        have p2 : decide (p < 7) = true := decide_eq_true hpp.2
        have HPP := Aside0.mk hpp
        clear hpp
        go_wp2_with (first | ((with_reducible refine gate_builtin (b := .append) (xs := #[.tmp 61, .tmp 63]) rfl ?_); at_builtin; refine Kd.R_append (Kd.int .i64) (w0 := W) W.heap.size rfl (.tmp 61) (.tmp 63) 24 3 (.int .i64 0) 8 rfl Try.underlying24 info3 rfl (by decide) (by omega) _ wt (i : Int) [.int .i64 i] (fun _ => True) (fun _ => False) rfl rfl ?aP (fun _ hk => hk.elim) ?aF ?aO ?aB ?aS ?aL ?_; (case aP => exact rfl); (case aB => exact (by repeat (first | exact B5.out | apply below_alloc))); (case aF => exact (fun _ _ => trivial)); (case aO => exact (by (with_reducible repeat (first | apply Kd.R_alloc | apply Kd.R_drewN | apply Kd.R_drew)); exact R5.out)); (case aS => exact (below_size (by repeat (first | exact B5.out | apply below_alloc)))); (case aL => have := HW.out.1; have := HIK.out; omega); intro v115 w10 ho hb hg hat; have HO5 := Aside0.mk ho; have HB5 := Aside0.mk hb; have HG5 := Aside0.mk hg; clear ho hb hg hat))
        have S6 := Aside0.mk (S5.out.grown HG5.out (S5.out.row R5.out).1 (S5.out.row R5.out).2)
        have HW2 := Aside0.mk (show (wt ++ [(i : Int)]).length ≤ i + 1 ∧ ∀ q ∈ wt ++ [(i : Int)], ∃ u : Nat, q = u ∧ u < sh0.sc.length ∧ 1 ≤ (scAt sh0 u).st.num ∧ (scAt sh0 u).st.num ≤ 6 from ⟨by rw [List.length_append, List.length_singleton]; have := HW.out.1; omega, fun q hq => by
          rcases List.mem_append.1 hq with h | h
          · exact HW.out.2 q h
          · exact ⟨i, List.mem_singleton.1 h, HIS.out, by rw [HP.out]; have := HPP.out; omega, by rw [HP.out]; have := HPP.out; omega⟩⟩)
        go_roundg (k - (i + 1))
        case measure => have := HIK.out; omega
        case rel => exact ⟨i + 1, wt ++ [(i : Int)], HIK.out.1, Nat.le_refl _, (by first | exact int_succ i | exact int_wsucc hwi), HW2, HO5, S6, HB5⟩
      · by_cases hp0 : 0 < p
        · have p1 : decide (0 < p) = true := decide_eq_true hp0
          have p2 : decide (p < 7) = false := decide_eq_false (fun h => hpp ⟨hp0, h⟩)
          clear hpp hp0
          go_wp2
          go_roundg (k - (i + 1))
          case measure => have := HIK.out; omega
          case rel => exact ⟨i + 1, wt, HIK.out.1, Nat.le_refl _, (by first | exact int_succ i | exact int_wsucc hwi), ⟨Nat.le_succ_of_le HW.out.1, HW.out.2⟩, R5, S5, B5⟩
        · have p1 : decide (0 < p) = false := decide_eq_false hp0
          clear hpp hp0
          go_wp2
          go_roundg (k - (i + 1))
          case measure => have := HIK.out; omega
          case rel => exact ⟨i + 1, wt, HIK.out.1, Nat.le_refl _, (by first | exact int_succ i | exact int_wsucc hwi), ⟨Nat.le_succ_of_le HW.out.1, HW.out.2⟩, R5, S5, B5⟩
    · have hka : ((i : Int) < (k : Int)) = False := eq_false (by omega)
      have hkb : decide (i < k) = false := decide_eq_false hik
      have hkc : decide ((i : Int) < (k : Int)) = false := decide_eq_false (by omega)
      have HWL := Aside0.mk (show wt.length ≤ 4 by have := HW.out.1; have := HK.out; omega)
      clear hik hi hgg
      obtain ⟨wb, hwb⟩ : ∃ wb, wb = wr := ⟨_, rfl⟩
      subst hwb
      obtain ⟨AW, cW, rfl, hcW, hCW⟩ := R_kept HS.out HR.out
      have HCW := Aside0.mk hCW
      clear hcW hCW
      obtain ⟨i0, hi, hz0, hsz, hby⟩ := info_parts infoB
      have hmk := fun W : World => run_make (P := Try.prog) (w := W) 35 4 i0 (.bool false) Try.underlying35 hi hz0 .i64 .i64 (k : Int) (k : Int) (by omega) (by omega) (by have := HK.out; rw [hby]; omega) (by have := HK.out; omega)
      simp only [Int.toNat_natCast, hsz, Nat.mul_one] at hmk
      obtain ⟨w5, hw5⟩ : ∃ w5, wb.alloc (.cells (madeCells #[.bool false] k) 4) = w5 := ⟨_, rfl⟩
      obtain ⟨ga, hga⟩ : ∃ ga, wb.heap.size = ga := ⟨_, rfl⟩
      have HGA := Aside0.mk hga
      have A5 := Aside0.mk (show BlkB w5 ga (List.replicate k false) by rw [← hw5, ← hga, made_false]; exact alloc_at _ _)
      have S5 := Aside0.mk (show Shp w5 W.heap.size g gs sh0 by rw [← hw5]; exact HS.out.alloc _)
      have B5 := Aside0.mk (show Below W.heap.size W w5 by rw [← hw5]; exact below_alloc HB.out _)
      have F5 := Aside0.mk (show Fr wb w5 g gs by rw [← hw5]; exact (Fr.refl _ _ _).below (below_alloc (Below.refl _ _) _) (Nat.le_refl _))
      have WG := Aside0.mk (show W.heap.size ≤ ga by rw [← hga]; exact HB.out.size)
      have WY0 := Aside0.mk (show Way sh0 (List.replicate k false) wt from fun q hq => by obtain ⟨u, a, b, c⟩ := HW.out.2 q hq; exact ⟨u, a, b, .inr c⟩)
      have MS0 := Aside0.mk (meas_new BR0.out (by have := HLL.out; omega))
      clear hi hz0 hsz hby HO HB4 S4 HR HS
      go_wp2
      clear hmk hw5 hga
      obtain ⟨NN, hNN⟩ : ∃ N : Nat, N = 60 := ⟨_, rfl⟩
      have HNN := Aside0.mk hNN
      clear hNN
      go_loopg [16] NN (fun gg v16 w' => ∃ (r : Nat) (sh : Sh) (ins : List Bool) (U : Int), r ≤ 47 ∧ NN - r ≤ gg ∧ v16 = .int .i64 r ∧ Aside0 (Bak sh (400 + 4 * (r : Int))) ∧ Aside0 (okSh sh) ∧ Aside0 (sh.sc.length = k) ∧ Aside0 (Meas sh r U) ∧ Aside0 (Way sh ins wt) ∧ Aside0 (ins.length = k) ∧ Aside0 (Shp w' W.heap.size g gs sh) ∧ Aside0 (BlkB w' ga ins) ∧ Aside0 (Fr wb w' g gs) ∧ Aside0 (Below W.heap.size W w'))
      case atStart => exact ⟨0, sh0, List.replicate k false, 7, by omega, by have := HNN.out; omega, rfl, ⟨bak_mono BR0.out (by have := HLL.out; omega)⟩, OR0, LN0, MS0, WY0, ⟨List.length_replicate⟩, S5, A5, F5, B5⟩
      case round =>
        obtain ⟨r, sh, ins, U, hr47, hgg, rfl, HBk, HOk, HLn, HMe, HWy, HIl, HS, HA, HF, HB⟩ := hrel
        have hr60 : ((r : Int) < 60) = True := eq_true (by omega)
        have hr60b : decide ((r : Int) < 60) = true := decide_eq_true (by omega)
        have hwr : wrap64 ((r : Int) + 1) = (r : Int) + 1 := wrap_lt60 (by omega)
        have HR47 := Aside0.mk hr47
        obtain ⟨o, ho1, ho2⟩ : ∃ o : Nat, (r < y.length → rd y r = o ∧ o < 256) ∧ (¬ r < y.length → o = 0) := by
          by_cases q : r < y.length
          · exact ⟨(rd y r).toNat, fun _ => by have := HYV.out _ (rd_in y r q); omega, fun q2 => absurd q q2⟩
          · exact ⟨0, fun q2 => absurd q2 q, fun _ => rfl⟩
        have HO1 := Aside0.mk (And.intro ho1 ho2)
        clear ho1 ho2 hr47
        go_wp2
        go_loopg [17, 18, 19] k (fun gg v17 v18 v19 w' => ∃ (i : Nat) (sh' : Sh) (ins' : List Bool) (busy changed : Bool), i ≤ k ∧ k - i ≤ gg ∧ v19 = .int .i64 i ∧ v17 = .bool busy ∧ v18 = .bool changed ∧ Aside0 (Bak sh' (400 + 4 * (r : Int) + i)) ∧ Aside0 (okSh sh') ∧ Aside0 (sh'.sc.length = k) ∧ Aside0 (PInv sh U sh' o i busy changed) ∧ Aside0 (Way sh' ins' wt) ∧ Aside0 (ins'.length = k) ∧ Aside0 (Shp w' W.heap.size g gs sh') ∧ Aside0 (BlkB w' ga ins') ∧ Aside0 (Fr wb w' g gs) ∧ Aside0 (Below W.heap.size W w'))
        case atStart => exact ⟨0, sh, ins, false, false, Nat.zero_le _, by omega, rfl, rfl, rfl, ⟨bak_mono HBk.out (by omega)⟩, HOk, HLn, ⟨pinv_new sh U o HMe.out.2.1⟩, HWy, HIl, HS, HA, HF, HB⟩
        case round =>
          obtain ⟨i, sh', ins', busy, changed, hi, hgg2, rfl, rfl, rfl, HBk', HOk', HLn', HPI, HWy', HIl', HS', HA', HF', HB'⟩ := hrel
          by_cases hik : i < k
          · have hka : ((i : Int) < (k : Int)) = True := eq_true (by omega)
            have hkb : decide (i < k) = true := decide_eq_true hik
            have hkc : decide ((i : Int) < (k : Int)) = true := decide_eq_true (by omega)
            have HIK := Aside0.mk (show i < k ∧ i < 4 by have := HK.out; omega)
            have hwi : wrap64 ((i : Int) + 1) = (i : Int) + 1 := wrap_lt HIK.out.2
            clear hik hi
            obtain ⟨bq, hbq⟩ : ∃ bq : Bool, decide (r < y.length) = bq := ⟨_, rfl⟩
            have hbq2 : decide ((r : Int) < (y.length : Int)) = bq := by rw [← hbq]; simp
            have HBQ := Aside0.mk hbq
            go_upto_if 80 with (fail)
            clear hbq hbq2
            go_cut [20] (fun s20 wx => s20 = .int .i64 (((i + o) % k : Nat) : Int) ∧ wr = wx)
            case first =>
              cases bq with
              | true =>
                have hry : r < y.length := of_decide_eq_true HBQ.out
                have hra : ((r : Int) < (y.length : Int)) = True := eq_true (by omega)
                have hrb : decide (r < y.length) = true := decide_eq_true hry
                have hrd : (r < y.length) = True := eq_true hry
                have hrc : decide ((r : Int) < (y.length : Int)) = true := decide_eq_true (by omega)
                obtain ⟨ad, e1, hx⟩ := Kd.at_int (Kd.C_below HY.out HB'.out) r (by omega) (by omega)
                cases e1
                obtain ⟨q1, q2⟩ := HO1.out.1 hry
                rw [Int.toNat_natCast, q1] at hx
                have ho0 : (0 : Int) ≤ (o : Int) := by omega
                have ho3 : (o : Int) < 256 := by omega
                have hi4 : (i : Int) < 4 := by have := HIK.out; omega
                have hk0 : (0 : Int) < (k : Int) := by have := HK.out; omega
                have hkn : ¬ (k = 0) := by have := HK.out; omega
                have hmod : ((i : Int) + (o : Int)) % (k : Int) = (((i + o) % k : Nat) : Int) := by push_cast; rfl
                clear hry q1 q2
                go_wp2
                go_meet
                exact ⟨rfl, rfl⟩
              | false =>
                have hry : ¬ r < y.length := of_decide_eq_false HBQ.out
                have hra : ((r : Int) < (y.length : Int)) = False := eq_false (by omega)
                have hrb : decide (r < y.length) = false := decide_eq_false hry
                have hrd : (r < y.length) = False := eq_false hry
                have hrc : decide ((r : Int) < (y.length : Int)) = false := decide_eq_false (by omega)
                have ho0 := HO1.out.2 hry
                have hmod := Aside0.mk (show (i + o) % k = i by rw [ho0, Nat.add_zero, Nat.mod_eq_of_lt HIK.out.1])
                clear hry ho0
                go_wp2
                go_meet
                exact ⟨by rw [hmod.out], rfl⟩
            case rest =>
              obtain ⟨rfl, rfl⟩ := hcut
              obtain ⟨v, hv⟩ : ∃ v, (i + o) % k = v := ⟨_, rfl⟩
              have HV := Aside0.mk (show v < k by rw [← hv]; exact Nat.mod_lt _ (by have := HK.out; omega))
              have HVE := Aside0.mk (show v = (i + o) % sh'.sc.length by rw [HLn'.out]; exact hv.symm)
              rw [hv]
              clear hv
              have HVS := Aside0.mk (show v < sh'.sc.length by rw [HLn'.out]; exact HV.out)
              have ST := Aside0.mk (Stage_calls wr W.heap.size g gs sh' HS'.out v)
              rw [stOf_nat HVS.out] at ST
              have HT := Aside0.mk (show 400 + 4 * (r : Int) + i < 1000000 by have := HR47.out; have := HIK.out; omega)
              by_cases hid : (scAt sh' v).st.isIdle = true
              · have hn0 := (num_idle _).1 hid
                rw [hn0] at ST
                have HPN := Aside0.mk (pinv_skip HPI.out HVE.out hid)
                clear hid hn0
                go_wp2_with (fail)
                with_reducible refine ST.out.mono ?_
                rintro e w6 ⟨rfl, hb6⟩
                have S6 := Aside0.mk (HS'.out.below hb6)
                have A6 := Aside0.mk (HA'.out.below hb6)
                have ZG := Aside0.mk (show wb.heap.size ≤ wr.heap.size by have := HA'.out.lt; have := HGA.out; omega)
                have F6 := Aside0.mk (HF'.out.below hb6 ZG.out)
                have B6 := Aside0.mk (HB'.out.trans (hb6.mono HB'.out.size))
                clear hb6
                go_wp2
                go_roundg (k - (i + 1))
                case measure => have := HIK.out; omega
                case rel => exact ⟨i + 1, sh', ins', busy, changed, HIK.out.1, Nat.le_refl _, (by first | exact int_succ i | exact int_wsucc hwi), rfl, rfl, ⟨bak_mono HBk'.out (by push_cast; omega)⟩, HOk', HLn', HPN, HWy', HIl', S6, A6, F6, B6⟩
              · have hn0 : (scAt sh' v).st.num ≠ 0 := fun h => hid ((num_idle _).2 h)
                have hnb : ((scAt sh' v).st.num == 0) = false := beq_eq_false_iff_ne.2 hn0
                have HRS := Aside0.mk (stepR_busy hid)
                have HADV := Aside0.mk (want_busy HVS.out hid).2.2
                have HPN := Aside0.mk (pinv_step HBk'.out HT.out HPI.out HVE.out HVS.out hid)
                have HBN := Aside0.mk (bak_adv HBk'.out HT.out v HVS.out)
                have HON := Aside0.mk (okSh_adv HOk'.out v HVS.out)
                rw [HADV.out] at HBN HON
                have HWN := Aside0.mk (way_step HBk'.out HT.out HWy'.out v HVS.out hid (by rw [HIl'.out]; exact HV.out))
                have HLN := Aside0.mk ((stepS_len sh' v).trans HLn'.out)
                have HVN := Aside0.mk (show v < (stepS sh' v).sc.length by rw [HLN.out]; exact HV.out)
                generalize (scAt sh' v).st.num = nn at *
                clear hid hn0
                go_wp2_with (fail)
                with_reducible refine ST.out.mono ?_
                rintro e w6 ⟨rfl, hb6⟩
                have S6 := Aside0.mk (HS'.out.below hb6)
                have A6 := Aside0.mk (HA'.out.below hb6)
                have ZG := Aside0.mk (show wb.heap.size ≤ wr.heap.size by have := HA'.out.lt; have := HGA.out; omega)
                have F6 := Aside0.mk (HF'.out.below hb6 ZG.out)
                have B6 := Aside0.mk (HB'.out.trans (hb6.mono HB'.out.size))
                clear hb6
                go_wp2_with (fail)
                with_reducible refine (Step_calls w6 W.heap.size g gs sh' S6.out v HVS.out (okSh_at HOk'.out v HVS.out) B6.out.size).mono ?_
                rintro e w7 ⟨rfl, hs, hm⟩
                have S7 := Aside0.mk hs
                have A7 := Aside0.mk (A6.out.moved S6.out hm)
                have Z6 := Aside0.mk (show wb.heap.size ≤ w6.heap.size by have := A6.out.lt; have := HGA.out; omega)
                have F7 := Aside0.mk (F6.out.moved hm Z6.out)
                have B7 := Aside0.mk (hm.bel W.heap.size W B6.out (Nat.le_refl _))
                clear hs hm
                rw [HRS.out]
                have y1 := A7.out.cell v (by rw [HIl'.out]; exact HV.out)
                have y2 := A7.out.fz v
                have hvk : ((v : Int) < (k : Int)) = True := eq_true (by have := HV.out; omega)
                have hvk2 : decide (v < k) = true := decide_eq_true HV.out
                have ST2 := Aside0.mk (Stage_calls w7 W.heap.size g gs (stepS sh' v) S7.out v)
                rw [stOf_nat HVN.out] at ST2
                generalize (scAt (stepS sh' v) v).st.num = nw at *
                generalize stepC sh' v = sc at *
                cases hbv : rdb ins' v with
                | true =>
                  rw [hbv] at y1 HWN
                  have A8 := Aside0.mk (A7.out.set v true)
                  have S8 := Aside0.mk (S7.out.setB A7.out v (.bool true))
                  have F8 := Aside0.mk (F7.out.set (Nat.le_of_eq HGA.out) v (.bool true))
                  have B8 := Aside0.mk (B7.out.setCell (p := ⟨ga, v, none⟩) WG.out (.bool true))
                  cases changed
                  all_goals
                    go_wp2
                    go_roundg (k - (i + 1))
                    case measure => have := HIK.out; omega
                    case rel => exact ⟨i + 1, stepS sh' v, ins'.set v true, true, _, HIK.out.1, Nat.le_refl _, (by first | exact int_succ i | exact int_wsucc hwi), rfl, rfl, ⟨bak_mono HBN.out (by push_cast; omega)⟩, HON, HLN, HPN, HWN, ⟨List.length_set.trans HIl'.out⟩, S8, A8, F8, B8⟩
                | false =>
                  rw [hbv] at y1 HWN
                  cases changed
                  all_goals
                    go_wp2_with (fail)
                    with_reducible refine ST2.out.mono ?_
                    rintro e w8 ⟨rfl, hb8⟩
                    have S8 := Aside0.mk (S7.out.below hb8)
                    have A8 := Aside0.mk (A7.out.below hb8)
                    have Z7 := Aside0.mk (show wb.heap.size ≤ w7.heap.size by have := A7.out.lt; have := HGA.out; omega)
                    have F8 := Aside0.mk (F7.out.below hb8 Z7.out)
                    have B8 := Aside0.mk (B7.out.trans (hb8.mono B7.out.size))
                    have A9 := Aside0.mk (A8.out.set v (nw == 7))
                    have S9 := Aside0.mk (S8.out.setB A8.out v (.bool (nw == 7)))
                    have F9 := Aside0.mk (F8.out.set (Nat.le_of_eq HGA.out) v (.bool (nw == 7)))
                    have B9 := Aside0.mk (B8.out.setCell (p := ⟨ga, v, none⟩) WG.out (.bool (nw == 7)))
                    have y3 := A8.out.cell v (by rw [HIl'.out]; exact HV.out)
                    have y4 := A8.out.fz v
                    clear hb8
                    go_wp2
                    go_roundg (k - (i + 1))
                    case measure => have := HIK.out; omega
                    case rel => exact ⟨i + 1, stepS sh' v, ins'.set v (nw == 7), true, _, HIK.out.1, Nat.le_refl _, (by first | exact int_succ i | exact int_wsucc hwi), rfl, rfl, ⟨bak_mono HBN.out (by push_cast; omega)⟩, HON, HLN, HPN, HWN, ⟨List.length_set.trans HIl'.out⟩, S9, A9, F9, B9⟩
          · have hka : ((i : Int) < (k : Int)) = False := eq_false (by omega)
            have hkb : decide (i < k) = false := decide_eq_false hik
            have hkc : decide ((i : Int) < (k : Int)) = false := decide_eq_false (by omega)
            have HIE := Aside0.mk (show i = sh'.sc.length by rw [HLn'.out]; omega)
            rw [HIE.out] at HPI
            have HI4 := Aside0.mk (show (i : Int) ≤ 4 by have := HK.out; omega)
            clear hik hi hgg2
            cases busy with
            | true =>
              have hch := pinv_busy HBk.out HPI.out
              subst hch
              obtain ⟨U', hU'⟩ := meas_next HMe.out HPI.out
              have HMN := Aside0.mk hU'
              have HR48 := Aside0.mk (show r + 1 ≤ 47 by have := hU'.1; have := hU'.2.2; have := cSum_pos HBk'.out (by have := HR47.out; have := HI4.out; omega); push_cast at *; omega)
              clear hU'
              go_wp2
              go_roundg (NN - (r + 1))
              case measure => have := HR48.out; have := HNN.out; omega
              case rel => exact ⟨r + 1, sh', ins', U', HR48.out, Nat.le_refl _, (by first | exact int_succ r | exact int_wsucc hwr), ⟨bak_mono HBk'.out (by have := HI4.out; push_cast; omega)⟩, HOk', HLn', HMN, HWy', HIl', HS', HA', HF', HB'⟩
            | false =>
              have HID := Aside0.mk (pinv_idle HPI.out)
              go_wp2
              go_loopg [23] wt.length (fun gg v23 w' => ∃ j : Nat, j ≤ wt.length ∧ wt.length - j ≤ gg ∧ v23 = .int .i64 j ∧ wr = w')
              case atStart => exact ⟨0, Nat.zero_le _, by omega, rfl, rfl⟩
              case round =>
                obtain ⟨j, hj, hgg3, rfl, hwr'⟩ := hrel
                subst hwr'
                by_cases hjl : j < wt.length
                · have hja : ((j : Int) < (wt.length : Int)) = True := eq_true (by omega)
                  have hjb : decide (j < wt.length) = true := decide_eq_true hjl
                  have hjc : decide ((j : Int) < (wt.length : Int)) = true := decide_eq_true (by omega)
                  have HJL := Aside0.mk hjl
                  have hwj : wrap64 ((j : Int) + 1) = (j : Int) + 1 := wrap_lt60 (by have := HWL.out; omega)
                  obtain ⟨ad, e1, hx⟩ := Kd.at_int (HCW.out _ HF'.out) j (by omega) (by omega)
                  cases e1
                  obtain ⟨u, hu, hul, hw⟩ := HWy'.out _ (rd_in wt j hjl)
                  rw [Int.toNat_natCast, hu] at hx
                  have y1 := HA'.out.cell u (by rw [HIl'.out, ← HLn'.out]; exact hul)
                  have hins : rdb ins' u = true := by
                    rcases hw with h | h
                    · exact h
                    · have := (num_idle _).1 (HID.out u hul); omega
                  rw [hins] at y1
                  have huk : ((u : Int) < (k : Int)) = True := eq_true (by rw [HLn'.out] at hul; omega)
                  have huk2 : decide (u < k) = true := decide_eq_true (by rw [HLn'.out] at hul; exact hul)
                  clear hjl hj hu hul hw hins
                  go_wp2
                  go_roundg (wt.length - (j + 1))
                  case measure => have := HJL.out; omega
                  case rel => exact ⟨j + 1, HJL.out, Nat.le_refl _, (by first | exact int_succ j | exact int_wsucc hwj), rfl⟩
                · have hja : ((j : Int) < (wt.length : Int)) = False := eq_false (by omega)
                  have hjb : decide (j < wt.length) = false := decide_eq_false hjl
                  have hjc : decide ((j : Int) < (wt.length : Int)) = false := decide_eq_false (by omega)
                  clear hjl hj hgg3
                  go_wp2
                  go_loopg [24] k (fun gg v24 w' => ∃ j : Nat, j ≤ k ∧ k - j ≤ gg ∧ v24 = .int .i64 j ∧ Aside0 (Shp w' W.heap.size g gs sh') ∧ Aside0 (Below W.heap.size W w'))
                  case atStart => exact ⟨0, Nat.zero_le _, by omega, rfl, HS', HB'⟩
                  case round =>
                    obtain ⟨q, hq, hgg4, rfl, HS9, HB9⟩ := hrel
                    by_cases hqk : q < k
                    · have hja : ((q : Int) < (k : Int)) = True := eq_true (by omega)
                      have hjb : decide (q < k) = true := decide_eq_true hqk
                      have hjc : decide ((q : Int) < (k : Int)) = true := decide_eq_true (by omega)
                      have HQK := Aside0.mk (show q < k ∧ q < 4 by have := HK.out; omega)
                      have hwj : wrap64 ((q : Int) + 1) = (q : Int) + 1 := wrap_lt HQK.out.2
                      have HQS := Aside0.mk (show q < sh'.sc.length by rw [HLn'.out]; exact hqk)
                      clear hqk hq
                      go_wp2_with (fail)
                      refine (Stage_calls _ W.heap.size g gs sh' HS9.out q).mono ?_
                      rintro e w9 ⟨rfl, hb9⟩
                      rw [stOf_nat HQS.out, (num_idle _).1 (HID.out q HQS.out)]
                      have S10 := Aside0.mk (HS9.out.below hb9)
                      have B10 := Aside0.mk (HB9.out.trans (hb9.mono HB9.out.size))
                      clear hb9
                      go_wp2
                      go_roundg (k - (q + 1))
                      case measure => have := HQK.out; omega
                      case rel => exact ⟨q + 1, HQK.out.1, Nat.le_refl _, (by first | exact int_succ q | exact int_wsucc hwj), S10, B10⟩
                    · have hja : ((q : Int) < (k : Int)) = False := eq_false (by omega)
                      have hjb : decide (q < k) = false := decide_eq_false hqk
                      have hjc : decide ((q : Int) < (k : Int)) = false := decide_eq_false (by omega)
                      clear hqk hq hgg4
                      go_wp2
                      go_ret
                      exact ⟨rfl, HB9.out⟩
theorem Progress_row (W : World) (n : Int) (hn : (Lit.int .u8 n).wf = true) (A : Option Addr) (c : Nat) (x : List Int) (hx : Kd.C (Kd.int .u8) W A x.length x) (hc : x.length ≤ c) (hg : x.length ≤ maxLen ∧ ∀ y ∈ x, (Lit.int .u8 y).wf = true)
    (A' : Option Addr) (c' : Nat) (y : List Int) (hy : Kd.C (Kd.int .u8) W A' y.length y) (hc' : y.length ≤ c') (hg' : y.length ≤ maxLen ∧ ∀ z ∈ y, (Lit.int .u8 z).wf = true) :
    Calls Try.prog 5 #[.int .u8 n, .slice A x.length c, .slice A' y.length c'] W fun e w' => e = .returned (.bool true) ∧ Below W.heap.size W w' := by
  obtain ⟨h0, h1⟩ := u8_of hn
  exact Progress_calls W n (n % 4 + 1).toNat h0 h1 (by omega) A c x hx (u8s_of hg) A' c' y hy (u8s_of hg')
end Go.Proofs.Ytjjnglngldfglaa.P
