/- New and Inside. -/
import Derived.Test.YtjjnglngldfglaaQM
import Derived.Test.YtjjnglngldfglaaPF23
namespace Go.Proofs.Ytjjnglngldfglaa.P
set_option linter.unusedVariables false
open Go Go.RowKit Go.Proofs.YtjjnglngldfglaaW.PrintWords Go.Proofs.YtjjnglngldfglaaW.PrintLast Go.Proofs.YtjjnglngldfglaaW.PrintMore

/-- A new shop. -/
def newSh (n : Nat) (c : Bool) : Sh := ⟨List.replicate n sc0, c, 0, n⟩
theorem New_err (n : Int) (c : Bool) (w : World) (h : n < 1 ∨ 4 < n) : Calls Try.prog 21 #[.int .i64 n, .bool c] w fun e w' => e = .returned (.tuple #[.pointer none, .int .i64 1]) ∧ w = w' := by
  by_cases k1 : n < 1
  · have k1b : decide (n < 1) = true := decide_eq_true k1
    clear h k1
    go_enter Try.func21, Try.ntmps21
    go_wp2
    go_ret2
    exact ⟨rfl, rfl⟩
  · have k1b : decide (n < 1) = false := decide_eq_false k1
    have k2b : decide (4 < n) = true := decide_eq_true (by omega)
    clear h k1
    go_enter Try.func21, Try.ntmps21
    go_wp2
    go_ret2
    exact ⟨rfl, rfl⟩
set_option maxRecDepth 100000 in
set_option maxHeartbeats 400000 in
theorem New_calls (n : Nat) (c : Bool) (w : World) (h1 : 1 ≤ n) (h4 : n ≤ 4) : Calls Try.prog 21 #[.int .i64 n, .bool c] w fun e w' => ∃ g gs, e = .returned (.tuple #[.pointer (some ⟨g, 0, none⟩), .int .i64 0]) ∧ Shp w' w.heap.size g gs (newSh n c) ∧ Below w.heap.size w w' := by
  have k1b : decide ((n : Int) < 1) = false := decide_eq_false (by omega)
  have k1c : decide (n < 1) = false := decide_eq_false (by omega)
  have k2b : decide (4 < (n : Int)) = false := decide_eq_false (by omega)
  have k2c : decide (4 < n) = false := decide_eq_false (by omega)
  have H1 := Aside0.mk h1
  have H4 := Aside0.mk h4
  clear h1 h4
  have HR := Aside0.mk (Repeat_calls n H1.out H4.out w.heap.size 1 (w.alloc (.cells (scs 1).toArray 76)) (alloc_at _ _))
  go_enter Try.func21, Try.ntmps21
  go_wp2_with (fail)
  refine HR.out.mono ?_
  rintro e w3 ⟨gs, rfl, hgs, hle, hlt, hb⟩
  have HGS := Aside0.mk hgs
  have HB := Aside0.mk (Below.trans (below_alloc (Below.refl w.heap.size w) (.cells (scs 1).toArray 76)) (hb.mono (by simp)))
  have HLE := Aside0.mk hle
  have HLT := Aside0.mk hlt
  clear hgs hle hlt hb
  go_wp2
  go_ret2
  refine ⟨w3.heap.size, gs, rfl, ⟨by simp only [newSh, List.length_replicate]; exact alloc_at _ _, ⟨[], ?_⟩, HB.out.size, ?_, by have := H1.out; simp only [newSh, List.length_replicate]; omega, by have := H4.out; simp only [newSh, List.length_replicate]; omega⟩, ?_⟩
  · rw [List.append_nil]
    exact (Array.getElem?_push_lt HLT.out).trans ((Array.getElem?_eq_getElem HLT.out).symm.trans HGS.out)
  · have := HLE.out; simp at this; omega
  · exact below_alloc HB.out _

/-- The scouts inside, among the first m. -/
def insTo (sh : Sh) : Nat → List Int
  | 0 => []
  | m + 1 => if (scAt sh m).st.isInside = true then insTo sh m ++ [(m : Int)] else insTo sh m
def insL (sh : Sh) : List Int := insTo sh sh.sc.length
theorem insTo_len (sh : Sh) (m : Nat) : (insTo sh m).length ≤ m := by
  induction m with
  | zero => exact Nat.le_refl 0
  | succ m ih => unfold insTo; split <;> (try simp) <;> omega
theorem St.isIface (s : St) : ∃ u y, s.val = .iface u y := by cases s <;> exact ⟨_, _, rfl⟩
set_option maxRecDepth 100000 in
set_option maxHeartbeats 400000 in
theorem Inside_calls (W : World) (b g gs : Nat) (sh : Sh) (h : Shp W b g gs sh) : Calls Try.prog 16 #[.pointer (some ⟨g, 0, none⟩)] W fun e w' => ∃ v, e = .returned v ∧ Kd.R (Kd.int .i64) 3 w' W.heap.size (fun _ => True) v (insL sh) ∧ Below W.heap.size W w' := by
  have hc := Aside0.mk (made_calls W b g gs sh h)
  have H0 := Aside0.mk h
  have c0 := h.c0
  have f4 := Aside0.mk h.few
  clear h
  go_enter Try.func16, Try.ntmps16
  go_wp2_with (fail)
  refine hc.out.mono ?_
  rintro e w' ⟨rfl, rfl⟩
  go_wp2
  go_loopg [3, 14] sh.sc.length (fun gg v3 v14 w' => ∃ m : Nat, m ≤ sh.sc.length ∧ sh.sc.length - m ≤ gg ∧ v14 = .int .i64 m ∧ Aside0 (Kd.R (Kd.int .i64) 3 w' W.heap.size (fun _ => True) v3 (insTo sh m)) ∧ Aside0 (Below W.heap.size W w'))
  case atStart => exact ⟨0, Nat.zero_le _, by omega, rfl, ⟨Kd.R_nil _ _ _ _ _⟩, ⟨Below.refl _ _⟩⟩
  case round =>
    obtain ⟨m, hm, hgg, rfl, HN, HB⟩ := hrel
    by_cases hlt : m < sh.sc.length
    · have hltb : decide ((m : Int) < (sh.sc.length : Int)) = true := decide_eq_true (by omega)
      have hltc : decide (m < sh.sc.length) = true := decide_eq_true hlt
      have hltz : ((m : Int) < (sh.sc.length : Int)) = True := eq_true (by omega)
      have HSr := Aside0.mk (H0.out.below HB.out)
      obtain ⟨x0, x1, x2⟩ := HSr.out.at_ m hlt
      have hq := fun W : World => eql_inside W (scAt sh m).st
      have hq2 := fun (x y : Operand) (W : World) => guard_at .eql x y W (scAt sh m).st 78 (.agg #[])
      have HT := Aside0.mk (show insTo sh (m + 1) = if (scAt sh m).st.isInside = true then insTo sh m ++ [(m : Int)] else insTo sh m from rfl)
      have hll := Aside0.mk (insTo_len sh m)
      have HLT := Aside0.mk hlt
      have hw1 : wrap64 ((m : Int) + 1) = (m : Int) + 1 := wrap_few m (by omega) (by have := f4.out; omega)
      obtain ⟨su, sy, hsv⟩ := (scAt sh m).st.isIface
      rw [hsv] at x2
      simp only [hsv] at hq hq2
      clear hsv
      generalize (scAt sh m).no = nv at *
      generalize (scAt sh m).ch = cv at *
      by_cases d : (scAt sh m).st.isInside = true
      · rw [d] at hq
        rw [if_pos d] at HT
        clear d
        go_wp2_with (first | ((with_reducible refine gate_builtin (b := .append) (xs := #[.tmp 24, .tmp 26]) rfl ?_); at_builtin; refine Kd.R_append (Kd.int .i64) (w0 := W) W.heap.size rfl (.tmp 24) (.tmp 26) 24 3 (.int .i64 0) 8 rfl Try.underlying24 info3 rfl (by decide) (by omega) u3 (insTo sh m) (m : Int) [.int .i64 m] (fun _ => True) (fun _ => False) rfl (by simp [Act.eval]) ?aP (fun _ hk => hk.elim) ?aF ?aO ?aB ?aS ?aL ?_; (case aP => exact rfl); (case aB => exact (by repeat (first | exact HB.out | apply below_alloc))); (case aF => exact (fun _ _ => trivial)); (case aO => exact (by (with_reducible repeat (first | apply Kd.R_alloc | apply Kd.R_drewN | apply Kd.R_drew)); exact HN.out)); (case aS => exact (below_size (by repeat (first | exact HB.out | apply below_alloc)))); (case aL => have := hll.out; have := HLT.out; have := f4.out; omega); intro v115 w10 ho hb hg hat; have HO := Aside0.mk ho; have HB2 := Aside0.mk hb; clear ho hb hg hat))
        go_roundg (sh.sc.length - (m + 1))
        case measure => have := HLT.out; omega
        case rel => exact ⟨m + 1, by have := HLT.out; omega, Nat.le_refl _, by go_num, ⟨by rw [HT.out]; exact HO.out⟩, HB2⟩
      · rw [Bool.eq_false_iff.2 d] at hq
        rw [if_neg d] at HT
        clear d
        go_wp2
        go_roundg (sh.sc.length - (m + 1))
        case measure => have := HLT.out; omega
        case rel => exact ⟨m + 1, by have := HLT.out; omega, Nat.le_refl _, by go_num, ⟨by rw [HT.out]; exact (by (with_reducible repeat (first | apply Kd.R_alloc | apply Kd.R_drewN | apply Kd.R_drew)); exact HN.out)⟩, ⟨by repeat (first | exact HB.out | apply below_alloc)⟩⟩
    · have hltb : decide ((m : Int) < (sh.sc.length : Int)) = false := decide_eq_false (by omega)
      have hltc : decide (m < sh.sc.length) = false := decide_eq_false hlt
      have HM := Aside0.mk (show m = sh.sc.length by omega)
      clear hlt hm hgg
      go_wp2
      go_ret
      refine ⟨_, rfl, ?_, HB.out⟩
      have := HN.out
      rw [HM.out] at this
      exact this
end Go.Proofs.Ytjjnglngldfglaa.P
