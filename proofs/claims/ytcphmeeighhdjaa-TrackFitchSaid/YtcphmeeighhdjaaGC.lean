/- The contract of slices.Repeat at []int, for a row of one number and at most 8 copies. -/
import Derived.Test.YtcphmeeighhdjaaGB
import Derived.Test.YtcphmeeighhdjaaPF83
import Derived.Laws.CopyOwn
import Derived.Deep.RegionLaw
namespace Go.Proofs.Ytcphmeeighhdjaa.P
set_option linter.unusedVariables false
open Go Go.RowKit Go.Proofs.YtcphmeeighhdjaaW.PrintWords Go.Proofs.YtcphmeeighhdjaaW.PrintLast Go.Proofs.YtcphmeeighhdjaaW.PrintMore

theorem mul_small : ∀ c ∈ List.range 9, bits_Mul.f 1 ((c : Nat) : Int) = some ((0 : Int), ((c : Nat) : Int)) := by decide +kernel
/-- The new row when m numbers are copied. -/
def rcells (v : Int) (c m : Nat) : List Value := List.replicate m (.int .i64 v) ++ List.replicate (c - m) (.int .i64 0)
theorem rcells_len (v : Int) (c m : Nat) (h : m ≤ c) : (rcells v c m).length = c := by unfold rcells; simp; omega
theorem rcells_splice (v : Int) (c m k : Nat) (h : m + k ≤ c) : splice (rcells v c m) m (List.replicate k (.int .i64 v)) = rcells v c (m + k) := by
  unfold splice rcells
  rw [List.take_append_of_le_length (by simp), List.take_of_length_le (by simp), List.length_replicate, List.drop_append, List.length_replicate, List.drop_of_length_le (by simp), List.nil_append, List.drop_replicate, ← List.append_assoc, List.replicate_append_replicate]
  congr 2; omega
theorem alloc_at (w : World) (o : Obj) : (w.alloc o).heap[w.heap.size]? = some o := by
  show (w.heap.push o)[w.heap.size]? = some o
  exact Array.getElem?_push_size
set_option maxRecDepth 100000 in
set_option maxHeartbeats 400000 in
theorem repeat_calls (v : Int) (c : Nat) (hc : c ≤ 8) (A : Option Addr) (cap : Nat) (w : World) (hr : Kd.C (Kd.int .i64) w A 1 [v]) :
    Calls Try.prog 73 #[.slice A 1 cap, .int .i64 c] w fun e w' => ∃ g, e = .returned (.slice (some ⟨g, 0, none⟩) c c) ∧ Kd.R (Kd.int .i64) 3 w' w.heap.size (fun _ => True) (.slice (some ⟨g, 0, none⟩) c c) (List.replicate c v) ∧ Below w.heap.size w w' ∧ w'.heap[g]? = some (.cells ((List.replicate c v).map (Value.int .i64)).toArray 3 (0, 0)) ∧ w.heap.size ≤ g := by
  have hmul := mul_small c (List.mem_range.2 (by omega))
  have HM := Aside0.mk (fun W => bits_Mul.calls 1 (c : Int) 0 (c : Int) W hmul)
  obtain ⟨ad, e1, hx⟩ := Kd.at_int hr 0 (by omega) (by omega)
  cases e1
  have HX := Aside0.mk hx
  have HC := Aside0.mk hc
  have k0 : decide ((c : Int) < 0) = false := decide_eq_false (by omega)
  have k1 : decide (9223372036854775807 < (c : Int)) = false := decide_eq_false (by omega)
  have kc : IntKind.u64.wrap (c : Int) = c := by unfold IntKind.wrap; simp [IntKind.signed, IntKind.bits]; omega
  have ki : IntKind.i64.wrap (c : Int) = c := by rw [IntKind.wrap_i64]; omega
  obtain ⟨i0, hi, hz0, hsz, hby⟩ := info_parts info3
  clear hr hmul hx hc
  go_enter Try.func73, Try.ntmps73
  go_wp2_with (fail)
  refine (HM.out _).mono ?_
  rintro e w1 ⟨rfl, hd1⟩
  have HB1 := Aside0.mk hd1.below
  have hx1 := (hd1.below.cell (World.block_lt_of_cell? _ _ HX.out)).trans HX.out
  have hmk := fun W : World => run_make (P := Try.prog) (w := W) 25 3 i0 (.int .i64 0) Try.underlying25 hi hz0 .i64 .i64 (c : Int) (c : Int) (by omega) (by omega) (by have := HC.out; rw [hby]; omega) (by have := HC.out; omega)
  simp only [Int.toNat_natCast, hsz, Nat.mul_one] at hmk
  clear hd1 HM
  obtain ⟨w2, hw2⟩ : ∃ w2, w1.alloc (.cells (madeCells #[.int .i64 0] c) 3) = w2 := ⟨_, rfl⟩
  obtain ⟨g, hg⟩ : ∃ g, w1.heap.size = g := ⟨_, rfl⟩
  have HG := Aside0.mk hg
  have hmade : madeCells #[.int .i64 0] c = (rcells v c 0).toArray := by
    apply Array.ext'
    unfold madeCells rcells
    simp
    apply List.ext_getElem
    · simp
    · intro i h1 h2; simp [Nat.mod_one]
  have hgw : w2.heap[g]? = some (.cells (rcells v c 0).toArray 3 (0, 0)) := by rw [← hw2, ← hg, hmade]; exact alloc_at _ _
  have HB2 := Aside0.mk (show Below w.heap.size w w2 by rw [← hw2]; exact below_alloc HB1.out _)
  have hx2 : w2.cell? (ad.add 0) = some (.int .i64 v) := by
    rw [← hw2]
    exact ((below_alloc (Below.refl w1.heap.size w1) _).cell (World.block_lt_of_cell? _ _ hx1)).trans hx1
  have HGW := Aside0.mk hgw
  have HX2 := Aside0.mk hx2
  have HGB := Aside0.mk (show w.heap.size ≤ g by rw [← hg]; exact HB1.out.size)
  clear hx1 hx2 hgw hmade HX
  have hsrc0 := Aside0.mk (show ∀ (j : Nat) (u : Value), (List.replicate (min 1 c) (Value.int .i64 v))[j]? = some u → w2.cell? (ad.add j) = some u from fun j u hj => by
    have hj2 := (List.getElem?_eq_some_iff.1 hj).1
    rw [List.length_replicate] at hj2
    have hu : Value.int .i64 v = u := by rw [List.getElem?_replicate, if_pos hj2] at hj; exact Option.some.inj hj
    obtain rfl : j = 0 := by omega
    rw [← hu]; exact HX2.out)
  have hfit0 := Aside0.mk (show 0 + (List.replicate (min 1 c) (Value.int .i64 v)).length ≤ (rcells v c 0).length by rw [List.length_replicate, rcells_len v c 0 (by omega)]; omega)
  go_wp2_with (first | ((with_reducible refine gate_builtin (b := .copy) (xs := #[.tmp 31, .tmp 32]) rfl ?_); refine wpList_copy_splice rfl (.tmp 31) (.tmp 32) 25 25 rfl 3 Try.underlying25 (by rw [hi]; simp [hsz]) _ _ _ _ _ _ rfl rfl g 0 (rcells v c 0) 3 HGW.out (List.replicate (min 1 c) (.int .i64 v)) ?l1 ?l2 ?l3 ?l4 w.heap.size w HB2.out HGB.out ?_; (case l1 => simp [Nat.min_def]); (case l2 => exact fun _ => ⟨rfl, ad, rfl, hsrc0.out⟩); (case l3 => exact hfit0.out); (case l4 => intro u hu; rw [List.eq_of_mem_replicate hu]; rfl); intro w3 hg3 hb3; have HG3 := Aside0.mk hg3; have HB3 := Aside0.mk hb3; clear hg3 hb3))
  have HIN := Aside0.mk (And.intro hi hsz)
  clear hmk hz0 hby
  go_loopg [8] c (fun gg v8 w' => ∃ m : Nat, m ≤ c ∧ (0 < c → 0 < m) ∧ c - m ≤ gg ∧ v8 = .int .i64 m ∧ Aside0 (w'.heap[g]? = some (.cells (rcells v c m).toArray 3 (0, 0))) ∧ Aside0 (Below w.heap.size w w'))
  case atStart => exact ⟨min 1 c, by omega, by omega, by omega, by first | rfl | simp, ⟨by have h := HG3.out; rw [show rcells v c (min 1 c) = splice (rcells v c 0) 0 (List.replicate (min 1 c) (.int .i64 v)) from by rw [rcells_splice v c 0 (min 1 c) (by omega), Nat.zero_add]]; exact h⟩, HB3⟩
  case round =>
    obtain ⟨m, hm, hm0, hgg, rfl, HGm, HBm⟩ := hrel
    by_cases hlt : m < c
    · have hltb : decide ((m : Int) < (c : Int)) = true := decide_eq_true (by omega)
      have hltc : decide (m < c) = true := decide_eq_true hlt
      have h1 : ¬ (c = m) := by omega
      have h2 : c ≠ m := by omega
      have HLT := Aside0.mk hlt
      have HM0 := Aside0.mk (hm0 (by omega))
      have hsz1 : (Try.prog.info? 3).map (·.size) = some 1 := by rw [HIN.out.1]; exact congrArg some HIN.out.2
      have hlen1 := Aside0.mk (show (List.replicate (min m (c - m)) (Value.int .i64 v)).length = Nat.min m (c - m) by rw [List.length_replicate])
      have hone := Aside0.mk (show ∀ u ∈ List.replicate (min m (c - m)) (Value.int .i64 v), u.oneCell' = true from fun u hu => by rw [List.eq_of_mem_replicate hu]; rfl)
      have hfit1 := Aside0.mk (show m + (List.replicate (min m (c - m)) (Value.int .i64 v)).length ≤ (rcells v c m).length by rw [List.length_replicate, rcells_len v c m (by omega)]; omega)
      have hsrc1 := Aside0.mk (show ∀ (j : Nat) (u : Value), (List.replicate (min m (c - m)) (Value.int .i64 v))[j]? = some u → wr.drew.cell? ((⟨g, 0, none⟩ : Addr).add j) = some u from fun j u hj => by
        have hj2 := (List.getElem?_eq_some_iff.1 hj).1
        rw [List.length_replicate] at hj2
        have hu : Value.int .i64 v = u := by rw [List.getElem?_replicate, if_pos hj2] at hj; exact Option.some.inj hj
        rw [← hu]
        have e : (⟨g, 0, none⟩ : Addr).add j = ⟨g, j, none⟩ := by cases j <;> simp [Addr.add]
        rw [e]
        have hg0 : wr.drew.heap[g]? = some (.cells (rcells v c m).toArray 3 (0, 0)) := HGm.out
        have hjm : j < m := by omega
        simp only [World.cell?, hg0]
        unfold rcells
        simp [List.getElem?_append_left, hjm])
      go_wp2_with (fail)
      go_region_law (refine step_copy_splice rfl (.tmp 41) (.tmp 44) 25 25 rfl 3 Try.underlying25 hsz1 (some ⟨g, m, none⟩) (some ⟨g, 0, none⟩) (c - m) (c - m) m c (by simp [Act.eval, Act.put]) (by simp [Act.eval, Act.put]) g m (rcells v c m) 3 HGm.out (List.replicate (min m (c - m)) (.int .i64 v)) hlen1.out (fun _ => ⟨rfl, _, rfl, hsrc1.out⟩) hfit1.out hone.out w.heap.size w (below_drew1 HBm.out) HGB.out ?_; intro w4 hg4 hb4)
      all_goals
        rw [rcells_splice v c m (min m (c - m)) (by omega)] at hg4
        have HG4 := Aside0.mk hg4
        have HB4 := Aside0.mk hb4
        clear hg4 hb4
        have hwm : IntKind.i64.wrap ((m : Int) + ((min m (c - m) : Nat) : Int)) = ((m + min m (c - m) : Nat) : Int) := by have := HC.out; have := HLT.out; rw [IntKind.wrap_i64]; omega
        go_wp2
        go_roundg (c - (m + min m (c - m)))
        case measure => have := HM0.out; have := HLT.out; omega
        case rel => exact ⟨m + min m (c - m), by omega, fun _ => by have := HM0.out; omega, Nat.le_refl _, by (first | rfl | (simp; done) | go_num), HG4, HB4⟩
    · have hltb : decide ((m : Int) < (c : Int)) = false := decide_eq_false (by omega)
      have hltc : decide (m < c) = false := decide_eq_false hlt
      obtain rfl : m = c := by omega
      have HL := Aside0.mk hlt
      clear hlt hm hm0 hgg
      go_wp2
      go_ret
      refine ⟨g, rfl, ?_, HBm.out, by rw [HGm.out]; unfold rcells; simp, HGB.out⟩
      refine Kd.R_of_own ⟨by simp [encs], .inr ⟨g, m, (rcells v m m).toArray, by simp, HGB.out, HGm.out, by simp, by have := HC.out; unfold maxLen; omega, by simp [rcells], ?_⟩⟩ (fun _ _ => trivial)
      simp [rcells, encs]

end Go.Proofs.Ytcphmeeighhdjaa.P
