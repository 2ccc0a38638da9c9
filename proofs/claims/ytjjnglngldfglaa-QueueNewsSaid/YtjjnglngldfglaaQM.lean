/- slices.Repeat at scouts, for one idle scout and at most 4 copies: the walk. -/
import Derived.Test.YtjjnglngldfglaaQL
namespace Go.Proofs.Ytjjnglngldfglaa.P
set_option linter.unusedVariables false
open Go Go.RowKit Go.Proofs.YtjjnglngldfglaaW.PrintWords Go.Proofs.YtjjnglngldfglaaW.PrintLast Go.Proofs.YtjjnglngldfglaaW.PrintMore

theorem alloc_at (w : World) (o : Obj) : (w.alloc o).heap[w.heap.size]? = some o := by
  show (w.heap.push o)[w.heap.size]? = some o
  exact Array.getElem?_push_size
theorem scs_sub (m c : Nat) (h : m ≤ c) (j : Nat) (u : Value) (hj : (scs m)[j]? = some u) : (sr c m)[j]? = some u := by
  unfold sr
  rw [List.getElem?_append_left (List.getElem?_eq_some_iff.1 hj).1]; exact hj
set_option maxRecDepth 100000 in
set_option maxHeartbeats 400000 in
theorem Repeat_calls (c : Nat) (h1 : 1 ≤ c) (hc : c ≤ 4) (ga : Nat) (cap : Nat) (w : World) (hr : w.heap[ga]? = some (.cells (scs 1).toArray 76 (0, 0))) :
    Calls Try.prog 39 #[.slice (some ⟨ga, 0, none⟩) 1 cap, .int .i64 c] w fun e w' => ∃ g, e = .returned (.slice (some ⟨g, 0, none⟩) c c) ∧ w'.heap[g]? = some (.cells (scs c).toArray 76 (0, 0)) ∧ w.heap.size ≤ g ∧ g < w'.heap.size ∧ Below w.heap.size w w' := by
  have hmul := mul_small c (List.mem_range.2 (by omega))
  have HM := Aside0.mk (fun W => bits_Mul.calls 1 (c : Int) 0 (c : Int) W hmul)
  have HX := Aside0.mk hr
  have HXl := Aside0.mk (Array.getElem?_eq_some_iff.1 hr).1
  have HC := Aside0.mk hc
  have H1 := Aside0.mk h1
  have k0 : decide ((c : Int) < 0) = false := decide_eq_false (by omega)
  have k1 : decide (9223372036854775807 < (c : Int)) = false := decide_eq_false (by omega)
  have kc : IntKind.u64.wrap (c : Int) = c := by unfold IntKind.wrap; simp [IntKind.signed, IntKind.bits]; omega
  have ki : IntKind.i64.wrap (c : Int) = c := by rw [IntKind.wrap_i64]; omega
  obtain ⟨i0, hi, hz0, hsz, hby⟩ := info_parts info76
  clear hr hmul hc h1
  go_enter Try.func39, Try.ntmps39
  go_wp2_with (fail)
  refine (HM.out _).mono ?_
  rintro e w1 ⟨rfl, hd1⟩
  have HB1 := Aside0.mk hd1.below
  have hx1 := (hd1.below.block ga HXl.out).trans HX.out
  have hmk := fun W : World => run_make (P := Try.prog) (w := W) 65 76 i0 (.agg #[.bool false, .int .i64 0, .nilIface]) Try.underlying65 hi hz0 .i64 .i64 (c : Int) (c : Int) (by omega) (by omega) (by have := HC.out; rw [hby]; omega) (by have := HC.out; omega)
  simp only [Int.toNat_natCast, hsz] at hmk
  clear hd1 HM
  obtain ⟨w2, hw2⟩ : ∃ w2, w1.alloc (.cells (madeCells #[.bool false, .int .i64 0, .nilIface] (c * 3)) 76) = w2 := ⟨_, rfl⟩
  obtain ⟨g, hg⟩ : ∃ g, w1.heap.size = g := ⟨_, rfl⟩
  have HG := Aside0.mk hg
  have hgw : w2.heap[g]? = some (.cells (sr c 0).toArray 76 (0, 0)) := by rw [← hw2, ← hg, sr_made c HC.out]; exact alloc_at _ _
  have HB2 := Aside0.mk (show Below w.heap.size w w2 by rw [← hw2]; exact below_alloc HB1.out _)
  have hx2 : w2.heap[ga]? = some (.cells (scs 1).toArray 76 (0, 0)) := by
    rw [← hw2]
    exact ((below_alloc (Below.refl w1.heap.size w1) _).block ga (Nat.lt_of_lt_of_le HXl.out HB1.out.size)).trans hx1
  have HGW := Aside0.mk hgw
  have HX2 := Aside0.mk hx2
  have HGB := Aside0.mk (show w.heap.size ≤ g by rw [← hg]; exact HB1.out.size)
  clear hx1 hx2 hgw HX
  have hsz1 : (Try.prog.info? 76).map (·.size) = some 3 := by rw [hi]; exact congrArg some hsz
  have HS1 := Aside0.mk hsz1
  have hsrc0 := Aside0.mk (show ∀ (j : Nat) (u : Value), (scs 1)[j]? = some u → w2.cell? ((⟨ga, 0, none⟩ : Addr).add j) = some u from fun j u hj => by
    have e : (⟨ga, 0, none⟩ : Addr).add j = ⟨ga, j, none⟩ := by cases j <;> simp [Addr.add]
    rw [e]
    have h0 := HX2.out
    simp only [World.cell?, h0]
    simp [hj])
  have hfit0 := Aside0.mk (show 0 + (scs 1).length ≤ (sr c 0).length by rw [scs_len, sr_len c 0 (by omega)]; have := H1.out; omega)
  clear hsz1 hsz hi
  go_wp2_with (first | ((with_reducible refine gate_builtin (b := .copy) (xs := #[.tmp 31, .tmp 32]) rfl ?_); refine wpList_copy_wide rfl (.tmp 31) (.tmp 32) 65 65 rfl 76 Try.underlying65 3 1 HS1.out g 0 c c ⟨ga, 0, none⟩ 1 cap rfl rfl (sr c 0) 76 HGW.out (scs 1) ?l1 ?l2 hsrc0.out hfit0.out (scs_one 1) w.heap.size w HB2.out HGB.out ?_; (case l1 => have := H1.out; simp [Nat.min_def]; omega); (case l2 => rw [scs_len]); intro w3 hg3 hb3; have HG3 := Aside0.mk hg3; have HB3 := Aside0.mk hb3; clear hg3 hb3))
  clear hmk hz0 hby
  go_loopg [8] c (fun gg v8 w' => ∃ m : Nat, m ≤ c ∧ 0 < m ∧ c - m ≤ gg ∧ v8 = .int .i64 m ∧ Aside0 (w'.heap[g]? = some (.cells (sr c m).toArray 76 (0, 0))) ∧ Aside0 (Below w.heap.size w w'))
  case atStart => exact ⟨1, by have := H1.out; omega, by omega, by omega, by first | rfl | simp, ⟨by have h := HG3.out; rw [show sr c 1 = splice (sr c 0) (0 * 3) (scs 1) from by rw [sr_splice c 0 1 (by have := H1.out; omega)]]; exact h⟩, HB3⟩
  case round =>
    obtain ⟨m, hm, hm0, hgg, rfl, HGm, HBm⟩ := hrel
    by_cases hlt : m < c
    · have hltb : decide ((m : Int) < (c : Int)) = true := decide_eq_true (by omega)
      have hltc : decide (m < c) = true := decide_eq_true hlt
      have h1 : ¬ (c = m) := by omega
      have h2 : c ≠ m := by omega
      have HLT := Aside0.mk hlt
      have HM0 := Aside0.mk hm0
      have hlen1 := Aside0.mk (show (scs (min m (c - m))).length = Nat.min m (c - m) * 3 by rw [scs_len, Nat.mul_comm])
      have hfit1 := Aside0.mk (show m * 3 + (scs (min m (c - m))).length ≤ (sr c m).length by rw [scs_len, sr_len c m (by omega)]; omega)
      have hsrc1 := Aside0.mk (show ∀ (j : Nat) (u : Value), (scs (min m (c - m)))[j]? = some u → wr.drew.cell? ((⟨g, 0, none⟩ : Addr).add j) = some u from fun j u hj => by
        have e : (⟨g, 0, none⟩ : Addr).add j = ⟨g, j, none⟩ := by cases j <;> simp [Addr.add]
        rw [e]
        have hg0 : wr.drew.heap[g]? = some (.cells (sr c m).toArray 76 (0, 0)) := HGm.out
        have hq := scs_sub m c hm j u (scs_at _ j u hj m (by omega))
        simp only [World.cell?, hg0]
        simp [hq])
      go_wp2_with (fail)
      go_region_law (refine step_copy_wide rfl (.tmp 41) (.tmp 44) 65 65 rfl 76 Try.underlying65 3 (Nat.min m (c - m)) HS1.out g (m * 3) (c - m) (c - m) ⟨g, 0, none⟩ m c (by simp [Act.eval, Act.put]) (by simp [Act.eval, Act.put]) (sr c m) 76 HGm.out (scs (min m (c - m))) rfl hlen1.out hsrc1.out hfit1.out (scs_one _) w.heap.size w (below_drew1 HBm.out) HGB.out ?_; intro w4 hg4 hb4)
      all_goals
        rw [sr_splice c m (min m (c - m)) (by omega)] at hg4
        have HG4 := Aside0.mk hg4
        have HB4 := Aside0.mk hb4
        clear hg4 hb4
        have hwm : IntKind.i64.wrap ((m : Int) + ((min m (c - m) : Nat) : Int)) = ((m + min m (c - m) : Nat) : Int) := by have := HC.out; have := HLT.out; rw [IntKind.wrap_i64]; omega
        go_wp2
        go_roundg (c - (m + min m (c - m)))
        case measure => have := HM0.out; have := HLT.out; omega
        case rel => exact ⟨m + min m (c - m), by omega, by have := HM0.out; omega, Nat.le_refl _, by (first | rfl | (simp; done) | go_num), HG4, HB4⟩
    · have hltb : decide ((m : Int) < (c : Int)) = false := decide_eq_false (by omega)
      have hltc : decide (m < c) = false := decide_eq_false hlt
      obtain rfl : m = c := by omega
      have HL := Aside0.mk hlt
      clear hlt hm hm0 hgg
      go_wp2
      go_ret
      refine ⟨g, rfl, ?_, HGB.out, (Array.getElem?_eq_some_iff.1 HGm.out).1, HBm.out⟩
      rw [HGm.out]
      unfold sr zcs
      simp
end Go.Proofs.Ytjjnglngldfglaa.P
