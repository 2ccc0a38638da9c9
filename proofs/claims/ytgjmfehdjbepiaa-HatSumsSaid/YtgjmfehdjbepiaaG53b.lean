/- The contract of slices.DeleteFunc at rows of numbers that the caller has cloned. -/
import Derived.Test.YtgjmfehdjbepiaaG53a
import Derived.Outline
namespace Go.Proofs.Ytgjmfehdjbepiaa.P
set_option linter.unusedVariables false
open Go.RowKit Go.Proofs.YtgjmfehdjbepiaaW.PrintWords Go.Proofs.YtgjmfehdjbepiaaW.PrintLast Go.Proofs.YtgjmfehdjbepiaaW.PrintMore

theorem rr_cut {W : World} {base b n cap i : Nat} {ok : Nat → Prop} {xs : List (List Int)} (h : Kd.N rr 37 W base ok (.slice (some ⟨b, 0, none⟩) n cap) xs) (hi : i ≤ n) (z : Value) :
    Kd.N rr 37 (W.setCells b i (List.replicate (n - i) z)) base ok (.slice (some ⟨b, 0, none⟩) i cap) (xs.take i) ∧ Below base W (W.setCells b i (List.replicate (n - i) z)) := by
  have hn := (Kd.N_reads' h).1
  have hbase := Kd.N_base h b (by simp [Value.ownBlock])
  have hlt := Kd.N_lt h b (by simp [Value.ownBlock])
  obtain ⟨s1, s2, s3, s4⟩ := setCells_same b (List.replicate (n - i) z) i W
  have hfar : ∀ k, k ≠ b → (W.setCells b i (List.replicate (n - i) z)).heap[k]? = W.heap[k]? := fun k hk => setCells_far _ _ _ hk
  refine ⟨?_, ⟨s1, s2, s3, by rw [s4]; omega, fun j hj => hfar j (by omega)⟩⟩
  obtain ⟨h0, rows, hl, hR, hf⟩ := Kd.N_take h (by omega : i ≤ xs.length)
  refine ⟨h0, rows, hl, ?_, fun j x c hx hc => Kd.FK_step (hf j x c hx hc) (fun k hk _ => hfar k (fun e => hk.2 (by rw [e]; simp [Value.ownBlock])))⟩
  obtain ⟨r0, inner, ho, hr⟩ := hR
  refine ⟨r0, inner, ?_, hr.imp_ (fun p c hp => hp)⟩
  obtain ⟨hlen, ho⟩ := ho
  refine ⟨hlen, ?_⟩
  rcases ho with ⟨e, _⟩ | ⟨g, cap', cur, e, hg, hh, hc1, hc2, hc3, hc4⟩
  · cases e
  · injection e with e1 e2 e3
    injection e1 with e1
    injection e1 with e1
    subst e1; subst e3
    obtain ⟨_, rows0, hl0, hR0, _⟩ := h
    obtain ⟨_, inner0, ⟨_, ho0⟩, _⟩ := hR0
    rcases ho0 with ⟨e, _⟩ | ⟨g', cap'', cur0, e, _, hh0, hc10, _, hc30, _⟩
    · cases e
    · injection e with e1 e2 e3
      injection e1 with e1
      injection e1 with e1
      subst e1; subst e3
      rw [hh] at hh0
      injection hh0 with hh0
      injection hh0 with hh0
      subst hh0
      obtain ⟨cur', k1, k2, k3⟩ := setCells_row (List.replicate (n - i) z) i W cur hh (by
        rw [List.length_replicate, hc3]
        have : (Kd.raw rr.sz).sz = 1 := rfl
        rw [this]; omega)
      have hsz : (Kd.raw rr.sz).sz = 1 := rfl
      have hrl : rows.length = i := by rw [hl, List.length_take]; omega
      rw [hsz] at hc3 hc4 hlen ⊢
      rw [hrl, Nat.mul_one] at hc4
      rw [hrl, Nat.mul_one]
      rw [Nat.mul_one] at hc3
      refine .inr ⟨b, cap, cur', rfl, hg, k1, by omega, hc2, by rw [k2, hc3, Nat.mul_one], ?_⟩
      have hti : (cur.toList.take i).length = i := by rw [List.length_take, Array.length_toList, hc3]; omega
      rw [k3, ← hc4, List.append_assoc, List.take_append_of_le_length (by omega), List.take_take, Nat.min_self]

theorem rr_store {W : World} {base b n cap : Nat} {ok : Nat → Prop} {xs : List (List Int)} (h : Kd.N rr 37 W base ok (.slice (some ⟨b, 0, none⟩) n cap) xs) {i : Nat} (hi : i < n) {x : List Int} {A : Option Addr} {c : Nat} (hx : x.length ≤ c) (hF : Kd.F (Kd.int .i64) W (fun k => ok k ∧ k ≠ b) A x.length x) :
    Kd.N rr 37 (W.setCell ⟨b, i, none⟩ (.slice A x.length c)) base ok (.slice (some ⟨b, 0, none⟩) n cap) (xs.set i x) ∧ Below base W (W.setCell ⟨b, i, none⟩ (.slice A x.length c)) := by
  obtain ⟨c0, hcl, _, hcc, _⟩ := Kd.N_elem h ([] : List Int) (i : Int) (by omega) (by omega)
  have hl : c0.length = 1 := hcl
  have hM : Kd.FK rr W (fun k => ok k ∧ k ≠ b) x (c0.take 0 ++ [.slice A x.length c] ++ c0.drop (0 + 1)) := by
    rw [List.take_zero, List.nil_append, List.drop_of_length_le (by omega), List.append_nil]
    exact Kd.FK_slice_mk hx hF
  have h2 := (Kd.N_seg h (i : Int) (by omega) (by omega) hcl hcc (seg := [.slice A x.length c]) (j := 0) (by show 0 + 1 ≤ 1; omega) hM (fun _ hk => hk)).1
  have e : W.setCells b ((i : Int).toNat * rr.sz + 0) [.slice A x.length c] = W.setCell ⟨b, i, none⟩ (.slice A x.length c) := by
    show W.setCells b ((i : Int).toNat * 1 + 0) [.slice A x.length c] = _
    rw [Int.toNat_natCast, Nat.mul_one, Nat.add_zero]; rfl
  rw [e, Int.toNat_natCast] at h2
  exact ⟨h2, (Below.refl _ _).setCell (Kd.N_base h b (by simp [Value.ownBlock])) _⟩

theorem firstRow_neg {p : List Int → Bool} {l : List (List Int)} (h : firstRow p l = -1) : l.filter (fun x => !p x) = l := by
  unfold firstRow at h
  cases e : l.findIdx? p with
  | some i => rw [e] at h; simp at h
  | none =>
    rw [List.findIdx?_eq_none_iff] at e
    rw [List.filter_eq_self]
    intro x hx; simp [e x hx]
theorem firstRow_pos {p : List Int → Bool} {l : List (List Int)} (h : firstRow p l ≠ -1) : ∃ i : Nat, firstRow p l = i ∧ i < l.length ∧ (l.take (i + 1)).filter (fun x => !p x) = l.take i := by
  unfold firstRow at h ⊢
  cases e : l.findIdx? p with
  | none => rw [e] at h; exact absurd rfl h
  | some i =>
    obtain ⟨hi, hp, hn⟩ := List.findIdx?_eq_some_iff_getElem.1 e
    refine ⟨i, rfl, hi, ?_⟩
    rw [List.take_succ_eq_append_getElem hi, List.filter_append]
    simp only [List.filter_cons, hp, Bool.not_true, List.filter_nil]
    rw [if_neg (by simp), List.append_nil, List.filter_eq_self]
    intro x hx
    obtain ⟨j, hj, rfl⟩ := List.getElem_of_mem hx
    have := hn j (by rw [List.length_take] at hj; omega)
    simpa using this
theorem filt_snoc {p : List Int → Bool} {l : List (List Int)} {j : Nat} (hj : j < l.length) : (l.take (j + 1)).filter (fun x => !p x) = (l.take j).filter (fun x => !p x) ++ (if p l[j] then [] else [l[j]]) := by
  rw [List.take_succ_eq_append_getElem hj, List.filter_append]
  congr 1
  simp only [List.filter_cons, List.filter_nil]
  cases p l[j] <;> simp
theorem zero37 (w : World) : (zeroValue 37).run Try.prog w = .ok (.slice none 0 0) w := by kernel_rfl

set_option maxRecDepth 100000 in
set_option maxHeartbeats 4000000 in
theorem deleteRows (p : List Int → Bool) (g : Nat) (lb : Array Value) (eg : ∀ args w, (callFunc g args).run Try.prog w = .ok (.enter g args) w) (v : Value) (ls : List (List Int)) (w0 w : World) (base : Nat) (ok : Nat → Prop) (hs0 : w0.heap.size ≤ base) (hbs : base ≤ w.heap.size) (hb0 : Below w0.heap.size w0 w)
    (hN : Kd.N rr 37 w base ok v ls) (hp : RowPred g lb p ls w0) :
    Calls Try.prog 76 #[v, .func (.func g) #[] lb] w fun e w' => ∃ v', e = .returned v' ∧ Kd.N rr 37 w' base ok v' (ls.filter fun x => !p x) ∧ Below base w w' := by
  obtain ⟨A, c, rfl⟩ := Kd.N_slice hN
  have hC := (Kd.N_reads' hN).2.2
  have hidx := idxRow p g lb eg A c ls w0 w hb0 hC hp
  have HP := Aside0.mk hp
  have HN := Aside0.mk hN
  have HB0 := Aside0.mk hb0
  clear hp hN hC hb0
  by_cases hneg : firstRow p ls = -1
  · have hf := Aside0.mk (firstRow_neg hneg)
    rw [hneg] at hidx
    clear hneg
    go_enter Try.func76, Try.ntmps76
    go_wp2_with (go_at_call 84; refine hidx.mono ?_; rintro e w' ⟨rfl, hb'⟩)
    go_ret
    exact ⟨_, rfl, by rw [hf.out]; exact Kd.N_below HN.out hb', hb'.mono hbs⟩
  · obtain ⟨i0, hi0, hi1, hi2⟩ := firstRow_pos hneg
    have hn0 : 0 < ls.length := by omega
    obtain ⟨b, cap, e, hbb, hbw, _⟩ := Kd.N_form HN.out hn0
    injection e with e1 e2 e3
    subst e1; subst e3
    rw [hi0] at hidx
    have hi2' := Aside0.mk hi2
    have hm : ((i0 : Int) == -1) = false := by rw [beq_eq_false_iff_ne]; omega
    have hmax : ls.length ≤ 9223372036854775807 := (Kd.N_reads' HN.out).2.2.2.1
    clear hneg hi0 hi2
    go_enter Try.func76, Try.ntmps76
    go_wp2_with (go_at_call 84; refine hidx.mono ?_; rintro e w1 ⟨rfl, hb1⟩; have HN1 := Aside0.mk (Kd.N_below HN.out hb1); have HB1 := Aside0.mk hb1; clear hb1)
    go_loopg [5, 6] ls.length (fun gg v5 v6 wr => ∃ (i j : Nat) (xs : List (List Int)), i < j ∧ j ≤ ls.length ∧ ls.length - j ≤ gg ∧ v5 = .int .i64 i ∧ v6 = .int .i64 j ∧
      Aside0 (xs.take i = (ls.take j).filter (fun x => !p x) ∧ xs.drop j = ls.drop j ∧ xs.length = ls.length) ∧ Aside0 (Kd.N rr 37 wr base ok (.slice (some ⟨b, 0, none⟩) ls.length c) xs) ∧ Aside0 (Below base w wr))
    case atStart => exact ⟨i0, i0 + 1, ls, by omega, by omega, by omega, rfl, by go_num, ⟨hi2'.out.symm, rfl, rfl⟩, HN1, ⟨HB1.out.mono hbs⟩⟩
    case round =>
      obtain ⟨i, j, xs, hij, hj, hg, rfl, rfl, HX, HNr, HBr⟩ := hrel
      have hWr := Aside0.mk (HB0.out.trans (HBr.out.mono hs0))
      by_cases hlt : j < ls.length
      · have hltb : decide (j < ls.length) = true := decide_eq_true hlt
        have hxj : xs.getD j [] = ls[j] := by
          have h1 := congrArg (fun l => l[0]?) HX.out.2.1
          simp only [List.getElem?_drop, Nat.add_zero, List.getElem?_eq_getElem hlt] at h1
          rw [List.getD_eq_getElem?_getD, h1]; rfl
        obtain ⟨cj, hcl, hK, hcc, hfr⟩ := Kd.N_elem HNr.out ([] : List Int) (j : Int) (by omega) (by omega)
        rw [Int.toNat_natCast, hxj] at hK
        obtain ⟨A1, c1, rfl, hl1, hF1⟩ := Kd.FK_slice_open hK
        have hcj : wr.cell? ⟨b, j, none⟩ = some (.slice A1 ls[j].length c1) := by
          have := hcc 0 _ rfl
          rw [Int.toNat_natCast] at this
          have e : j * rr.sz + 0 = j := by show j * 1 + 0 = j; omega
          rwa [e] at this
        have hcall := HP.out wr ls[j] A1 c1 (List.getElem_mem hlt) hWr.out (Kd.F_now hF1) hl1
        have hsn := filt_snoc (p := p) hlt
        obtain ⟨ci, hcli, _, hcci, hfri⟩ := Kd.N_elem HNr.out ([] : List Int) (i : Int) (by omega) (by omega)
        obtain ⟨u, rfl⟩ : ∃ u, ci = [u] := by
          have h1 : ci.length = 1 := hcli
          match ci, h1 with
          | [u], _ => exact ⟨u, rfl⟩
        have hci : wr.cell? ⟨b, i, none⟩ = some u := by
          have := hcci 0 _ rfl
          rw [Int.toNat_natCast] at this
          have e : i * rr.sz + 0 = i := by show i * 1 + 0 = i; omega
          rwa [e] at this
        have hfi : wr.frozen? ⟨b, i, none⟩ = false := by
          have := hfri 0
          rw [Int.toNat_natCast] at this
          have e : i * rr.sz + 0 = i := by show i * 1 + 0 = i; omega
          rwa [e] at this
        clear hcc hfr hcl hcli hcci hfri hK
        have HXJ := Aside0.mk hxj
        have HSN := Aside0.mk hsn
        have HF := Aside0.mk hF1
        have HL1 := Aside0.mk hl1
        have HLT := Aside0.mk hlt
        clear hxj hsn hF1 hl1
        generalize hy : ls[j] = y at *
        clear hy
        cases hq : p y with
        | true =>
          rw [hq] at hcall
          have HQ := Aside0.mk hq
          clear hq
          go_wp2_with (go_at_fn g; refine hcall.mono ?_; rintro e w2 ⟨rfl, hb2⟩; have HB2 := Aside0.mk hb2; clear hb2)
          go_roundg (ls.length - (j + 1))
          case measure => have := HLT.out; omega
          case rel =>
            refine ⟨i, j + 1, xs, by omega, HLT.out, by omega, rfl, by go_num, ⟨?_, ?_, HX.out.2.2⟩, ⟨Kd.N_below HNr.out HB2.out⟩, ⟨HBr.out.trans (HB2.out.mono (Nat.le_trans hbs HBr.out.size))⟩⟩
            · rw [HSN.out, HQ.out, if_pos rfl, List.append_nil]; exact HX.out.1
            · have h1 := congrArg (List.drop 1) HX.out.2.1
              simpa [List.drop_drop, Nat.add_comm] using h1
        | false =>
          rw [hq] at hcall
          have HQ := Aside0.mk hq
          clear hq
          have hblt := World.block_lt_of_cell? wr _ hci
          have HCI := Aside0.mk hci
          have HFI := Aside0.mk hfi
          have HBL := Aside0.mk hblt
          clear hci hfi hblt
          go_wp2_with (go_at_fn g; refine hcall.mono ?_; rintro e w2 ⟨rfl, hb2⟩; have hci := (hb2.cell (p := ⟨b, i, none⟩) HBL.out).trans HCI.out; have hfi := (hb2.frozen (p := ⟨b, i, none⟩) HBL.out).trans HFI.out; have HB2 := Aside0.mk hb2; clear hb2)
          go_roundg (ls.length - (j + 1))
          case measure => have := HLT.out; omega
          case rel =>
            have hst := rr_store (Kd.N_below HNr.out HB2.out) (show i < ls.length by omega) HL1.out (Kd.F_below HF.out HB2.out)
            have hlx := HX.out.2.2
            refine ⟨i + 1, j + 1, xs.set i y, by omega, HLT.out, by omega, by go_num, by go_num, ⟨?_, ?_, by rw [List.length_set]; exact hlx⟩, ⟨hst.1⟩, ⟨(HBr.out.trans (HB2.out.mono (Nat.le_trans hbs HBr.out.size))).trans hst.2⟩⟩
            · rw [HSN.out, HQ.out, if_neg (by simp), ← HX.out.1, List.take_succ_eq_append_getElem (by rw [List.length_set]; omega)]
              rw [List.getElem_set_self, List.take_set_of_le (by omega)]
            · rw [List.drop_set_of_lt (by omega)]
              have h1 := congrArg (List.drop 1) HX.out.2.1
              simpa [List.drop_drop, Nat.add_comm] using h1
      · have hltb : decide (j < ls.length) = false := decide_eq_false hlt
        have HJ := Aside0.mk (show j = ls.length by omega)
        have hi : i < ls.length := by omega
        have hnc := (Kd.N_reads' HNr.out).2.1
        obtain ⟨i37, hi37, _, hsz37, _⟩ := info_parts info37
        have hcut := cut_from (P := Try.prog) 27 37 .i64 Try.underlying27 hi37 1 hsz37 (some ⟨b, 0, none⟩) ls.length c (i : Int) (by omega) (by omega)
        have hcut2 := cut_to (P := Try.prog) 27 37 .i64 Try.underlying27 hi37 (some ⟨b, 0, none⟩) ls.length c (i : Int) (by omega) (by omega) hnc
        rw [Int.toNat_natCast, if_neg (by omega)] at hcut
        rw [Int.toNat_natCast] at hcut2
        have hcut' : ∀ W : World, (Instr.slice 27 (.slice (some ⟨b, 0, none⟩) ls.length c) (some (.int .i64 (i : Int))) none none).run Try.prog W = .ok (.slice (some ⟨b, i, none⟩) (ls.length - i) (c - i)) W := fun W => by
          rw [hcut W]
          congr 3
          simp [Addr.add]
          omega
        clear hcut
        have hcl : ∀ ty, (Builtin.clear_ #[27] ty #[.slice (some ⟨b, i, none⟩) (ls.length - i) (c - i)]).run Try.prog wr = .ok (.tuple #[]) (wr.setCells b i (List.replicate (ls.length - i) (.slice none 0 0))) := fun ty =>
          Lib.run_clear_slice wr 27 37 ty (.slice none 0 0) Try.underlying27 zero37 rfl rfl b i _ _ (by omega) (fun k hk => by
            obtain ⟨ck, hclk, _, hcck, _⟩ := Kd.N_elem HNr.out ([] : List Int) ((i + k : Nat) : Int) (by omega) (by omega)
            have h1 : ck.length = 1 := hclk
            match ck, h1 with
            | [u], _ =>
              have := hcck 0 u rfl
              rw [Int.toNat_natCast] at this
              have e : (i + k) * rr.sz + 0 = i + k := by show (i + k) * 1 + 0 = i + k; omega
              rw [e] at this
              rw [this]; rfl) (fun k hk => by
            obtain ⟨_, _, _, _, hfr⟩ := Kd.N_elem HNr.out ([] : List Int) ((i + k : Nat) : Int) (by omega) (by omega)
            have := hfr 0
            rw [Int.toNat_natCast] at this
            have e : (i + k) * rr.sz + 0 = i + k := by show (i + k) * 1 + 0 = i + k; omega
            rwa [e] at this)
        have hfin := rr_cut HNr.out (show i ≤ ls.length by omega) (.slice none 0 0)
        have HFIN := Aside0.mk hfin
        clear hfin hlt hi hnc
        go_wp2_with (simp only [hcl])
        go_ret
        refine ⟨_, rfl, ?_, HBr.out.trans HFIN.out.2⟩
        have h1 := HX.out.1
        rw [HJ.out, List.take_length] at h1
        rw [← h1]
        exact HFIN.out.1

end Go.Proofs.Ytgjmfehdjbepiaa.P
