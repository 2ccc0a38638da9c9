/- The contracts of slices.Clone (of numbers, of pairs) and of slices.DeleteFunc at numbers that the caller has cloned. -/
import Derived.Test.YtcphmeeighhdjaaGA
import Derived.Test.YtcphmeeighhdjaaGE
import Derived.Lib.Hide
import Derived.Lib.SliceRun
import Derived.WalkSpells
import Derived.Outline
namespace Go.Proofs.Ytcphmeeighhdjaa.P
set_option linter.unusedVariables false
open Go Go.RowKit Go.Proofs.YtcphmeeighhdjaaW.PrintWords Go.Proofs.YtcphmeeighhdjaaW.PrintLast Go.Proofs.YtcphmeeighhdjaaW.PrintMore

set_option maxRecDepth 100000 in
set_option maxHeartbeats 2000000 in
theorem clone_int (A : Option Addr) (c : Nat) (ls : List Int) (w : World) (hr : Kd.C (Kd.int .i64) w A ls.length ls) (hl : ls.length ≤ 1000000) :
    Calls Try.prog 77 #[.slice A ls.length c] w fun e w' => ∃ v, e = .returned v ∧ Kd.R (Kd.int .i64) 3 w' w.heap.size (fun k => w.heap.size ≤ k) v ls ∧ Below w.heap.size w w' := by
  have HR := Aside0.mk hr
  clear hr
  cases A with
  | none =>
    have hnil := fun W : World => Lib.run_eql_slice_nil (P := Try.prog) W 25 3 none ls.length c 0 0 Try.underlying25
    have h0 := Aside0.mk (show ls = [] by
      have := HR.out.2.2
      cases ls with
      | nil => rfl
      | cons x xs => obtain ⟨ad, h, _⟩ := this (by simp); cases h)
    go_enter Try.func77, Try.ntmps77
    go_wp2
    go_ret
    exact ⟨_, rfl, by rw [h0.out]; exact Kd.R_nil _ _ _ _ _, Below.refl _ _⟩
  | some ad =>
    have hnil := fun W : World => Lib.run_eql_slice_nil (P := Try.prog) W 25 3 (some ad) ls.length c 0 0 Try.underlying25
    go_enter Try.func77, Try.ntmps77
    go_wp2_with (first
      | ((with_reducible refine gate_dst (N := 5) rfl ?_); refine Kd.R_lit (Kd.int .i64) w.heap.size 3 ?hg (N := 5) ?hd (xs := ([] : List Int)) (inner := []) (ok := fun k => w.heap.size ≤ k) (okp := fun _ => False) ?hr ?hp (fun _ hk => hk.elim) (Nat.le_refl _) (Below.refl _ _) (Nat.le_refl _) (by simp) ?_; (case hd => rfl); (case hg => rfl); (case hr => first | (go_simp; done) | (go_simp; rfl)); (case hp => exact Reps.none _ _); intro v1 w1 ho hb hg hat; have HO := Aside0.mk ho; have HB := Aside0.mk hb; clear ho hb hg hat)
      | ((with_reducible refine gate_builtin (b := .append) (xs := #[.tmp 5, .tmp 6]) rfl ?_); at_builtin; refine Kd.R_append_rows (Kd.int .i64) (w0 := w) w.heap.size rfl (.tmp 5) (.tmp 6) 25 3 (.int .i64 0) 8 rfl Try.underlying25 info3 rfl (by decide) (by omega) v1 [] ls _ _ _ (fun k => w.heap.size ≤ k) (fun _ => False) rfl rfl ?aO ?aR (fun _ _ h => h) (fun _ hk => hk.elim) ?aF ?aB ?aS ?aL ?_; (case aO => exact HO.out); (case aR => exact Kd.C_below HR.out HB.out); (case aF => exact fun k hk => Nat.le_trans HB.out.size hk); (case aB => exact HB.out); (case aS => exact HB.out.size); (case aL => simp; omega); intro v2 w2 ho hb hg hat))
    go_ret
    exact ⟨_, rfl, ho, hb⟩

set_option maxRecDepth 100000 in
set_option maxHeartbeats 2000000 in
theorem clone_pairs (A : Option Addr) (c : Nat) (ls : List S67) (w : World) (hr : Kd.C k67 w A ls.length ls) (hl : ls.length ≤ 1000000) :
    Calls Try.prog 79 #[.slice A ls.length c] w fun e w' => ∃ v, e = .returned v ∧ Kd.R k67 67 w' w.heap.size (fun k => w.heap.size ≤ k) v ls ∧ Below w.heap.size w w' := by
  have HR := Aside0.mk hr
  clear hr
  cases A with
  | none =>
    have hnil := fun W : World => Lib.run_eql_slice_nil (P := Try.prog) W 22 67 none ls.length c 0 0 Try.underlying22
    have h0 := Aside0.mk (show ls = [] by
      have := HR.out.2.2
      cases ls with
      | nil => rfl
      | cons x xs => obtain ⟨ad, h, _⟩ := this (by simp); cases h)
    go_enter Try.func79, Try.ntmps79
    go_wp2
    go_ret
    exact ⟨_, rfl, by rw [h0.out]; exact Kd.R_nil _ _ _ _ _, Below.refl _ _⟩
  | some ad =>
    have hnil := fun W : World => Lib.run_eql_slice_nil (P := Try.prog) W 22 67 (some ad) ls.length c 0 0 Try.underlying22
    go_enter Try.func79, Try.ntmps79
    go_wp2_with (first
      | ((with_reducible refine gate_dst (N := 5) rfl ?_); refine Kd.R_lit k67 w.heap.size 67 ?hg (N := 5) ?hd (xs := ([] : List S67)) (inner := []) (ok := fun k => w.heap.size ≤ k) (okp := fun _ => False) ?hr ?hp (fun _ hk => hk.elim) (Nat.le_refl _) (Below.refl _ _) (Nat.le_refl _) (by simp) ?_; (case hd => rfl); (case hg => rfl); (case hr => first | (go_simp; done) | (go_simp; rfl)); (case hp => exact Reps.none _ _); intro v1 w1 ho hb hg hat; have HO := Aside0.mk ho; have HB := Aside0.mk hb; clear ho hb hg hat)
      | ((with_reducible refine gate_builtin (b := .append) (xs := #[.tmp 5, .tmp 6]) rfl ?_); at_builtin; refine Kd.R_append_rows k67 (w0 := w) w.heap.size rfl (.tmp 5) (.tmp 6) 22 67 (.agg #[(.int .i64 0), (.int .i64 0)]) 16 rfl Try.underlying22 info67 rfl (by decide) (by omega) v1 [] ls _ _ _ (fun k => w.heap.size ≤ k) (fun _ => False) rfl rfl ?aO ?aR (fun x cs (h : cs = [.int .i64 x.f0, .int .i64 x.f1]) => h ▸ k67_mkM _ _ _ x) (fun _ hk => hk.elim) ?aF ?aB ?aS ?aL ?_; (case aO => exact HO.out); (case aR => exact ReadsRow.imp_ (Kd.C_below HR.out HB.out) (Below.refl _ _) (fun p c h => k67_open h)); (case aF => exact fun k hk => Nat.le_trans HB.out.size hk); (case aB => exact HB.out); (case aS => exact HB.out.size); (case aL => simp; omega); intro v2 w2 ho hb hg hat))
    go_ret
    exact ⟨_, rfl, ho, hb⟩

theorem set_run {g : Nat} {e : TypeId} : ∀ (vs : List Value) (o : Nat) (w : World) (cur : Array Value), w.heap[g]? = some (.cells cur e (0, 0)) →
    ∃ cur' : Array Value, (w.setCells g o vs).heap[g]? = some (.cells cur' e (0, 0)) ∧ cur'.size = cur.size ∧ ∀ j, j < o → cur'[j]? = cur[j]?
  | [], o, w, cur, h => ⟨cur, h, rfl, fun _ _ => rfl⟩
  | v :: vs, o, w, cur, h => by
    obtain ⟨cur', h1, h2, h3⟩ := set_run vs (o + 1) _ _ (blk_set h o v)
    refine ⟨cur', h1, by rw [h2, Array.size_setIfInBounds], fun j hj => ?_⟩
    rw [h3 j (by omega), Array.getElem?_setIfInBounds_ne (by omega)]
theorem set_below {B g : Nat} (hg : B ≤ g) : ∀ (vs : List Value) (o : Nat) (w : World), Below B w (w.setCells g o vs)
  | [], o, w => Below.refl _ _
  | v :: vs, o, w => ((Below.refl B w).setCell (p := ⟨g, o, none⟩) hg v).trans (set_below hg vs (o + 1) _)

/-- A row of numbers of the call's own, as a block. -/
theorem int_row {W : World} {base b n cap : Nat} {ok : Nat → Prop} {xs : List Int} (h : Kd.R (Kd.int .i64) 3 W base ok (.slice (some ⟨b, 0, none⟩) n cap) xs) :
    ∃ cur : Array Value, W.heap[b]? = some (.cells cur 3 (0, 0)) ∧ base ≤ b ∧ n ≤ cap ∧ cap ≤ maxLen ∧ cur.size = cap ∧ xs.length = n ∧ (∀ j : Nat, j < n → cur[j]? = some (.int .i64 (rd xs j))) := by
  obtain ⟨_, inner, ⟨hlen, ho⟩, hr⟩ := h
  rcases ho with ⟨e, _⟩ | ⟨g, cap', cur, e, hg, hh, hc1, hc2, hc3, hc4⟩
  · cases e
  · injection e with e1 e2 e3
    injection e1 with e1
    injection e1 with e1
    subst e1; subst e3
    have hsz : (Kd.int .i64).sz = 1 := rfl
    rw [hsz] at hc3 hc4 hlen hr
    refine ⟨cur, hh, hg, by omega, hc2, by omega, e2.symm, fun j hj => ?_⟩
    have hj' : j < xs.length := by omega
    have h1 := hr.2 j _ (List.getElem?_eq_getElem hj')
    have h2 : (inner.drop (j * 1)).take 1 = [.int .i64 xs[j]] := h1
    have h3 := congrArg (fun l => l[0]?) h2
    rw [← hc4] at h3
    simp only [List.getElem?_take, List.getElem?_drop, Nat.mul_one, Nat.add_zero] at h3
    rw [if_pos (by omega), if_pos (by omega)] at h3
    rw [← Array.getElem?_toList, h3]
    simp [rd, hj']
theorem int_cut {W : World} {base b n cap i : Nat} {ok : Nat → Prop} {xs : List Int} (h : Kd.R (Kd.int .i64) 3 W base ok (.slice (some ⟨b, 0, none⟩) n cap) xs) (hi : i ≤ n) (vs : List Value) :
    Kd.R (Kd.int .i64) 3 (W.setCells b i vs) base ok (.slice (some ⟨b, 0, none⟩) i cap) (xs.take i) ∧ Below base W (W.setCells b i vs) := by
  obtain ⟨cur, hh, hb, hn, hm, hs, hl, hc⟩ := int_row h
  obtain ⟨cur', k1, k2, k3⟩ := set_run vs i W cur hh
  refine ⟨⟨fun k hk => h.1 k hk, cur'.toList.take i, ⟨?_, .inr ⟨b, cap, cur', ?_, hb, k1, ?_, hm, ?_, ?_⟩⟩, ?_, fun j p hj => ?_⟩, set_below hb vs i W⟩
  · have hsz : (Kd.int .i64).sz = 1 := rfl
    rw [hsz, List.length_take, Array.length_toList, List.length_take]; omega
  · rw [List.length_take, Nat.min_eq_left (by omega)]
  · rw [List.length_take]; omega
  · have hsz : (Kd.int .i64).sz = 1 := rfl
    rw [hsz]; omega
  · have hsz : (Kd.int .i64).sz = 1 := rfl
    rw [hsz, List.length_take, Nat.min_eq_left (by omega), Nat.mul_one]
  · have hsz : (Kd.int .i64).sz = 1 := rfl
    rw [hsz, List.length_take, Array.length_toList, List.length_take]; omega
  · have hsz : (Kd.int .i64).sz = 1 := rfl
    rw [hsz]
    show ((cur'.toList.take i).drop (j * 1)).take 1 = [.int .i64 p]
    rw [List.getElem?_take] at hj
    by_cases hji : j < i
    · rw [if_pos hji] at hj
      have h1 := hc j (by omega)
      rw [← k3 j hji, ← Array.getElem?_toList] at h1
      have h2 : j < cur'.toList.length := by rw [Array.length_toList]; omega
      rw [List.getElem?_eq_getElem h2] at h1
      have h3 : rd xs j = p := by
        unfold rd
        rw [Int.toNat_natCast, List.getD_eq_getElem?_getD, hj]; rfl
      rw [Nat.mul_one, List.drop_take, List.take_take, Nat.min_eq_left (by omega), List.drop_eq_getElem_cons h2, List.take_succ_cons, List.take_zero, Option.some.inj h1, h3]
    · rw [if_neg hji] at hj; cases hj

theorem firstIdx_neg {p : Int → Bool} {l : List Int} (h : firstIdx p l = -1) : l.filter (fun x => !p x) = l := by
  unfold firstIdx at h
  cases e : l.findIdx? p with
  | some i => rw [e] at h; simp at h
  | none =>
    rw [List.findIdx?_eq_none_iff] at e
    rw [List.filter_eq_self]
    intro x hx; simp [e x hx]
theorem firstIdx_pos {p : Int → Bool} {l : List Int} (h : firstIdx p l ≠ -1) : ∃ i : Nat, firstIdx p l = i ∧ i < l.length ∧ (l.take (i + 1)).filter (fun x => !p x) = l.take i := by
  unfold firstIdx at h ⊢
  cases e : l.findIdx? p with
  | none => rw [e] at h; exact absurd rfl h
  | some i =>
    obtain ⟨hi, hp, hn⟩ := List.findIdx?_eq_some_iff_getElem.1 e
    refine ⟨i, rfl, hi, ?_⟩
    rw [List.take_succ_eq_append_getElem hi, List.filter_append]
    simp only [List.filter_cons, hp, Bool.not_true, List.filter_nil]
    rw [if_neg (by simp), List.append_nil, List.filter_eq_self]
    intro x hx
    obtain ⟨j, hj, rfl⟩ := List.getElem_of_mem hx
    have := hn j (by rw [List.length_take] at hj; omega)
    simpa using this
theorem filti_snoc {p : Int → Bool} {l : List Int} {j : Nat} (hj : j < l.length) : (l.take (j + 1)).filter (fun x => !p x) = (l.take j).filter (fun x => !p x) ++ (if p l[j] then [] else [l[j]]) := by
  rw [List.take_succ_eq_append_getElem hj, List.filter_append]
  congr 1
  simp only [List.filter_cons, List.filter_nil]
  cases p l[j] <;> simp
theorem zero3 (w : World) : (zeroValue 3).run Try.prog w = .ok (.int .i64 0) w := by kernel_rfl

set_option maxRecDepth 100000 in
set_option maxHeartbeats 4000000 in
theorem delete_int (p : Int → Bool) (g : Nat) (lb : Array Value) (eg : ∀ args w, (callFunc g args).run Try.prog w = .ok (.enter g args) w) (v : Value) (ls : List Int) (w0 w : World) (base : Nat) (ok : Nat → Prop) (hs0 : w0.heap.size ≤ base) (hbs : base ≤ w.heap.size) (hb0 : Below w0.heap.size w0 w)
    (hN : Kd.R (Kd.int .i64) 3 w base ok v ls) (hp : ∀ W x, Below w0.heap.size w0 W → Calls Try.prog g (#[.int .i64 x] ++ lb) W fun e w' => e = .returned (.bool (p x)) ∧ Below W.heap.size W w') :
    Calls Try.prog 76 #[v, .func (.func g) #[] lb] w fun e w' => ∃ v', e = .returned v' ∧ Kd.R (Kd.int .i64) 3 w' base ok v' (ls.filter fun x => !p x) ∧ Below base w w' := by
  obtain ⟨A, c, rfl⟩ := Kd.R_slice hN
  have hC := (Kd.R_reads' hN).2.2
  have hidx := idxFunc.calls p g lb eg A c ls w hC (fun W x hW => (hp W x (hb0.trans (hW.mono hb0.size))).mono fun e w' h => ⟨h.1, hW.trans (h.2.mono hW.size)⟩)
  have HP := Aside0.mk hp
  have HN := Aside0.mk hN
  have HB0 := Aside0.mk hb0
  clear hp hN hC hb0
  by_cases hneg : firstIdx p ls = -1
  · have hf := Aside0.mk (firstIdx_neg hneg)
    rw [hneg] at hidx
    clear hneg
    go_enter Try.func76, Try.ntmps76
    go_wp2_with (go_at_call 81; refine hidx.mono ?_; rintro e w' ⟨rfl, hb'⟩)
    go_ret
    exact ⟨_, rfl, by rw [hf.out]; exact Kd.R_below HN.out hb', hb'.mono hbs⟩
  · obtain ⟨i0, hi0, hi1, hi2⟩ := firstIdx_pos hneg
    have hn0 : 0 < ls.length := by omega
    obtain ⟨b, rfl⟩ : ∃ b, A = some ⟨b, 0, none⟩ := by
      obtain ⟨_, inner, ⟨hlen, ho⟩, hr⟩ := HN.out
      rcases ho with ⟨e, h0⟩ | ⟨g, cap', cur, e, _⟩
      · omega
      · injection e with e1 _ _
        exact ⟨g, e1⟩
    rw [hi0] at hidx
    have hi2' := Aside0.mk hi2
    have hm : ((i0 : Int) == -1) = false := by rw [beq_eq_false_iff_ne]; omega
    have hmax : ls.length ≤ 9223372036854775807 := (Kd.R_reads' HN.out).2.2.2.1
    clear hneg hi0 hi2
    go_enter Try.func76, Try.ntmps76
    go_wp2_with (go_at_call 81; refine hidx.mono ?_; rintro e w1 ⟨rfl, hb1⟩; have HN1 := Aside0.mk (Kd.R_below HN.out hb1); have HB1 := Aside0.mk hb1; clear hb1)
    go_loopg [5, 6] ls.length (fun gg v5 v6 wr => ∃ (i j : Nat) (xs : List Int), i < j ∧ j ≤ ls.length ∧ ls.length - j ≤ gg ∧ v5 = .int .i64 i ∧ v6 = .int .i64 j ∧
      Aside0 (xs.take i = (ls.take j).filter (fun x => !p x) ∧ xs.drop j = ls.drop j ∧ xs.length = ls.length) ∧ Aside0 (Kd.R (Kd.int .i64) 3 wr base ok (.slice (some ⟨b, 0, none⟩) ls.length c) xs) ∧ Aside0 (Below base w wr))
    case atStart => exact ⟨i0, i0 + 1, ls, by omega, by omega, by omega, rfl, by go_num, ⟨hi2'.out.symm, rfl, rfl⟩, HN1, ⟨HB1.out.mono hbs⟩⟩
    case round =>
      obtain ⟨i, j, xs, hij, hj, hg, rfl, rfl, HX, HNr, HBr⟩ := hrel
      have hWr := Aside0.mk (HB0.out.trans (HBr.out.mono hs0))
      obtain ⟨cur, hblk, hbb, hcc, hcm, hcs, hxl, hcur⟩ := int_row HNr.out
      have HBLK := Aside0.mk hblk
      by_cases hlt : j < ls.length
      · have hltb : decide (j < ls.length) = true := decide_eq_true hlt
        have hxj : rd xs j = ls[j] := by
          have h1 := congrArg (fun l => l[0]?) HX.out.2.1
          simp only [List.getElem?_drop, Nat.add_zero, List.getElem?_eq_getElem hlt] at h1
          unfold rd
          rw [Int.toNat_natCast, List.getD_eq_getElem?_getD, h1]; rfl
        have hcj : wr.cell? ⟨b, j, none⟩ = some (.int .i64 ls[j]) := by
          have := hcur j hlt
          rw [hxj] at this
          exact (blk_cell hblk j).trans this
        have hcall := HP.out wr ls[j] hWr.out
        have hsn := filti_snoc (p := p) hlt
        have hci : wr.cell? ⟨b, i, none⟩ = some (.int .i64 (rd xs i)) := (blk_cell hblk i).trans (hcur i (by omega))
        have hfi : wr.frozen? ⟨b, i, none⟩ = false := blk_frozen hblk i
        have HXJ := Aside0.mk hxj
        have HSN := Aside0.mk hsn
        have HLT := Aside0.mk hlt
        clear hxj hsn hcur hblk hcm hcs hxl hcc
        generalize hy : ls[j] = y at *
        clear hy
        cases hq : p y with
        | true =>
          rw [hq] at hcall
          have HQ := Aside0.mk hq
          clear hq hci hfi
          go_wp2_with (go_at_fn g; refine hcall.mono ?_; rintro e w2 ⟨rfl, hb2⟩; have HB2 := Aside0.mk hb2; clear hb2)
          go_roundg (ls.length - (j + 1))
          case measure => have := HLT.out; omega
          case rel =>
            refine ⟨i, j + 1, xs, by omega, HLT.out, by omega, rfl, by go_num, ⟨?_, ?_, HX.out.2.2⟩, ⟨Kd.R_below HNr.out HB2.out⟩, ⟨HBr.out.trans (HB2.out.mono (Nat.le_trans hbs HBr.out.size))⟩⟩
            · rw [HSN.out, HQ.out, if_pos rfl, List.append_nil]; exact HX.out.1
            · have h1 := congrArg (List.drop 1) HX.out.2.1
              simpa [List.drop_drop, Nat.add_comm] using h1
        | false =>
          rw [hq] at hcall
          have HQ := Aside0.mk hq
          clear hq
          have hblt := World.block_lt_of_cell? wr _ hci
          have HCI := Aside0.mk hci
          have HFI := Aside0.mk hfi
          have HBL := Aside0.mk hblt
          clear hci hfi hblt
          go_wp2_with (go_at_fn g; refine hcall.mono ?_; rintro e w2 ⟨rfl, hb2⟩; have hci := (hb2.cell (p := ⟨b, i, none⟩) HBL.out).trans HCI.out; have hfi := (hb2.frozen (p := ⟨b, i, none⟩) HBL.out).trans HFI.out; have HB2 := Aside0.mk hb2; clear hb2)
          go_roundg (ls.length - (j + 1))
          case measure => have := HLT.out; omega
          case rel =>
            have hst := (Kd.R_putg (Kd.R_below HNr.out HB2.out) (i : Int) y).1
            rw [Int.toNat_natCast] at hst
            have hlx := HX.out.2.2
            refine ⟨i + 1, j + 1, xs.set i y, by omega, HLT.out, by omega, by go_num, by go_num, ⟨?_, ?_, by rw [List.length_set]; exact hlx⟩, ⟨hst⟩, ⟨(HBr.out.trans (HB2.out.mono (Nat.le_trans hbs HBr.out.size))).setCell (p := ⟨b, i, none⟩) hbb _⟩⟩
            · rw [HSN.out, HQ.out, if_neg (by simp), ← HX.out.1, List.take_succ_eq_append_getElem (by rw [List.length_set]; omega)]
              rw [List.getElem_set_self, List.take_set_of_le (by omega)]
            · rw [List.drop_set_of_lt (by omega)]
              have h1 := congrArg (List.drop 1) HX.out.2.1
              simpa [List.drop_drop, Nat.add_comm] using h1
      · have hltb : decide (j < ls.length) = false := decide_eq_false hlt
        have HJ := Aside0.mk (show j = ls.length by omega)
        have hi : i < ls.length := by omega
        obtain ⟨i3, hi3, _, hsz3, _⟩ := info_parts info3
        have hcut := cut_from (P := Try.prog) 25 3 .i64 Try.underlying25 hi3 1 hsz3 (some ⟨b, 0, none⟩) ls.length c (i : Int) (by omega) (by omega)
        have hcut2 := cut_to (P := Try.prog) 25 3 .i64 Try.underlying25 hi3 (some ⟨b, 0, none⟩) ls.length c (i : Int) (by omega) (by omega) hcc
        rw [Int.toNat_natCast, if_neg (by omega)] at hcut
        rw [Int.toNat_natCast] at hcut2
        have hcut' : ∀ W : World, (Instr.slice 25 (.slice (some ⟨b, 0, none⟩) ls.length c) (some (.int .i64 (i : Int))) none none).run Try.prog W = .ok (.slice (some ⟨b, i, none⟩) (ls.length - i) (c - i)) W := fun W => by
          rw [hcut W]
          congr 3
          simp [Addr.add]
          omega
        clear hcut
        have hcl : ∀ ty, (Builtin.clear_ #[25] ty #[.slice (some ⟨b, i, none⟩) (ls.length - i) (c - i)]).run Try.prog wr = .ok (.tuple #[]) (wr.setCells b i (List.replicate (ls.length - i) (.int .i64 0))) := fun ty =>
          Lib.run_clear_slice wr 25 3 ty (.int .i64 0) Try.underlying25 zero3 rfl rfl b i _ _ (by omega) (fun k hk => by rw [blk_cell HBLK.out, hcur (i + k) (by omega)]; rfl) (fun k hk => blk_frozen HBLK.out _)
        have hfin := int_cut HNr.out (show i ≤ ls.length by omega) (List.replicate (ls.length - i) (.int .i64 0))
        have HFIN := Aside0.mk hfin
        clear hfin hlt hi hcc hcur hcm hcs hxl hblk
        go_wp2_with (simp only [hcl])
        go_ret
        refine ⟨_, rfl, ?_, HBr.out.trans HFIN.out.2⟩
        have h1 := HX.out.1
        rw [HJ.out, List.take_length] at h1
        rw [← h1]
        exact HFIN.out.1

end Go.Proofs.Ytcphmeeighhdjaa.P
