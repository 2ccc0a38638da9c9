/- wogglelaw10.made: a shop and a schedule. -/
import Derived.Test.YtjjnglngldfglaaQS
namespace Go.Proofs.Ytjjnglngldfglaa.P
set_option linter.unusedVariables false
open Go Go.RowKit Go.Proofs.YtjjnglngldfglaaW.PrintWords Go.Proofs.YtjjnglngldfglaaW.PrintLast Go.Proofs.YtjjnglngldfglaaW.PrintMore

def mkL (k : Nat) (x : List Int) : List Int := (x.take 400).map (fun v => v % (k : Int))
def mkTo (k : Nat) (x : List Int) (m : Nat) : List Int := (x.take m).map (fun v => v % (k : Int))
theorem mkTo_len (k : Nat) (x : List Int) (m : Nat) : (mkTo k x m).length ≤ m := by unfold mkTo; rw [List.length_map]; exact List.length_take_le _ _
theorem mkTo_snoc (k : Nat) (x : List Int) (m : Nat) (h : m < x.length) : mkTo k x (m + 1) = mkTo k x m ++ [rd x m % (k : Int)] := by
  unfold mkTo
  rw [take_snocI x m h, List.map_append]; rfl
theorem Shp.grown {W W1 : World} {b g gs : Nat} {sh : Sh} {row : Option Nat} (h : Shp W b g gs sh) (hg : W.grownBy W1 row) (h1 : some g ≠ row) (h2 : some gs ≠ row) : Shp W1 b g gs sh :=
  ⟨(hg.block g h.lt h1).trans h.hg, (by obtain ⟨r, h0⟩ := h.hs; exact ⟨r, (hg.block gs h.lts h2).trans h0⟩), h.bg, h.bs, h.pos, h.few⟩
theorem Shp.row {W : World} {b g gs base : Nat} {sh : Sh} {ok : Nat → Prop} {v : Value} {xs : List Int} (h : Shp W b g gs sh) (hr : Kd.R (Kd.int .i64) 3 W base ok v xs) : some g ≠ v.ownBlock ∧ some gs ≠ v.ownBlock := by
  obtain ⟨r, h0⟩ := h.hs
  exact ⟨Kd.R_ne hr h.hg (by decide), Kd.R_ne hr h0 (by decide)⟩
theorem Shp.alloc {W : World} {b g gs : Nat} {sh : Sh} (h : Shp W b g gs sh) (o : Obj) : Shp (W.alloc o) b g gs sh := h.below (below_alloc (Below.refl _ _) o)
set_option maxRecDepth 100000 in
set_option maxHeartbeats 400000 in
theorem made2_calls (W : World) (n : Int) (k : Nat) (h0 : 0 ≤ n) (h1 : n < 256) (hk : n % 4 + 1 = (k : Int)) (A : Option Addr) (c : Nat) (x : List Int) (hx : Kd.C (Kd.int .u8) W A x.length x) (hu : ∀ v ∈ x, 0 ≤ v ∧ v < 256) :
    Calls Try.prog 13 #[.int .u8 n, .slice A x.length c] W fun e w' => ∃ g gs v, e = .returned (.tuple #[.pointer (some ⟨g, 0, none⟩), .int .i64 k, v]) ∧ Shp w' W.heap.size g gs (newSh k false) ∧ Kd.R (Kd.int .i64) 3 w' W.heap.size (fun _ => True) v (mkL k x) ∧ Below W.heap.size W w' := by
  have HX := Aside0.mk hx
  have HU := Aside0.mk hu
  have hk1 : 1 ≤ k := by omega
  have hk4 : k ≤ 4 := by omega
  have HKB := Aside0.mk (And.intro hk1 hk4)
  have hxl : x.length ≤ 9223372036854775807 := hx.2.1
  have hkw : wrap64 (n % 4 + 1) = (k : Int) := by unfold wrap64; omega
  have hkw2 : n % 4 + 1 = (k : Int) := hk
  clear hx hu hk hk1 hk4
  go_enter Try.func13, Try.ntmps13
  go_wp2_with (first | ((with_reducible refine gate_dst (N := 16) rfl ?_); refine Kd.R_lit (Kd.int .i64) _ 3 ?hg (N := 16) ?hd (xs := ([] : List Int)) (inner := []) (ok := fun _ => True) (okp := fun _ => True) ?hr ?hp (fun _ hk => hk) trivial (Below.refl _ _) (Nat.le_refl _) (by simp) ?_; (case hd => rfl); (case hg => rfl); (case hr => first | (go_simp; done) | (go_simp; rfl)); (case hp => exact (Reps.none _ _)); intro v16 w2 ho hb hg_ hnew_; have HO := Aside0.mk ho; have HB := Aside0.mk hb; clear ho hb hg_ hnew_))
  with_reducible refine (New_calls k false w2 HKB.out.1 HKB.out.2).mono ?_
  rintro e w3 ⟨g, gs, rfl, hs, hb⟩
  have S3 := Aside0.mk hs
  have B3 := Aside0.mk (HB.out.trans (hb.mono HB.out.size))
  have R3 := Aside0.mk (Kd.R_below HO.out hb)
  have SZ := Aside0.mk (And.intro HB.out.size hb.size)
  clear hs hb
  obtain ⟨NN, hNN⟩ : ∃ N : Nat, N = 400 := ⟨_, rfl⟩
  have HNN := Aside0.mk hNN
  clear hNN
  go_wp2
  go_loopg [8, 11] NN (fun gg v8 v11 w' => ∃ m : Nat, m ≤ x.length ∧ m ≤ 400 ∧ NN - m ≤ gg ∧ v11 = .int .i64 m ∧ Aside0 (Shp w' w2.heap.size g gs (newSh k false)) ∧ Aside0 (Kd.R (Kd.int .i64) 3 w' W.heap.size (fun _ => True) v8 (mkTo k x m)) ∧ Aside0 (Below W.heap.size W w'))
  case atStart => exact ⟨0, Nat.zero_le _, by omega, by have := HNN.out; omega, rfl, S3, ⟨R3.out⟩, B3⟩
  case round =>
    obtain ⟨m, hm, hm4, hgg, rfl, HS, HR, HBm⟩ := hrel
    by_cases hlt : m < x.length
    · have hltb : decide ((m : Int) < (x.length : Int)) = true := decide_eq_true (by omega)
      have hltc : decide (m < x.length) = true := decide_eq_true hlt
      have hltz : ((m : Int) < (x.length : Int)) = True := eq_true (by omega)
      by_cases hl4 : m < 400
      · have h4b : decide ((m : Int) < 400) = true := decide_eq_true (by omega)
        have h4c : decide (m < 400) = true := decide_eq_true hl4
        obtain ⟨ad, e1, hx⟩ := Kd.at_int (Kd.C_below HX.out (HBm.out)) m (by omega) (by omega)
        cases e1
        rw [Int.toNat_natCast] at hx
        have hv := HU.out _ (rd_in x m hlt)
        have hv0 := hv.1
        have hv1 := hv.2
        have HT := Aside0.mk (mkTo_snoc k x m hlt)
        have HLT := Aside0.mk (And.intro hlt hl4)
        generalize rd x m = u at *
        have hwm : wrap64 ((m : Int) + 1) = (m : Int) + 1 := by unfold wrap64; omega
        have hk0 : (0 : Int) < (k : Int) := by have := HKB.out; omega
        have hkn : ¬ (k = 0) := by have := HKB.out; omega
        clear hlt hl4 hm hm4 hv
        go_wp2_with (first | ((with_reducible refine gate_builtin (b := .append) (xs := #[.tmp 32, .tmp 40]) rfl ?_); at_builtin; refine Kd.R_append (Kd.int .i64) (w0 := W) W.heap.size rfl (.tmp 32) (.tmp 40) 24 3 (.int .i64 0) 8 rfl Try.underlying24 info3 rfl (by decide) (by omega) u8 (mkTo k x m) (u % (k : Int)) [.int .i64 (u % (k : Int))] (fun _ => True) (fun _ => False) rfl rfl ?aP (fun _ hk => hk.elim) ?aF ?aO ?aB ?aS ?aL ?_; (case aP => exact rfl); (case aB => exact (by repeat (first | exact HBm.out | apply below_alloc))); (case aF => exact (fun _ _ => trivial)); (case aO => exact (by (with_reducible repeat (first | apply Kd.R_alloc | apply Kd.R_drewN | apply Kd.R_drew)); exact HR.out)); (case aS => exact (below_size (by repeat (first | exact HBm.out | apply below_alloc)))); (case aL => have := mkTo_len k x m; have := HLT.out; omega); intro v115 w10 ho hb hg hat; have HO4 := Aside0.mk ho; have HB4 := Aside0.mk hb; have HG4 := Aside0.mk hg; clear ho hb hg hat))
        have S4 := Aside0.mk (HS.out.grown HG4.out (HS.out.row HR.out).1 (HS.out.row HR.out).2)
        go_roundg (NN - (m + 1))
        case measure => have := HLT.out; have := HNN.out; omega
        case rel => exact ⟨m + 1, by have := HLT.out; omega, by have := HLT.out; omega, Nat.le_refl _, by go_num, S4, ⟨by rw [HT.out]; exact HO4.out⟩, HB4⟩
      · have h4b : decide ((m : Int) < 400) = false := decide_eq_false (by omega)
        have h4c : decide (m < 400) = false := decide_eq_false hl4
        have HM := Aside0.mk (show mkTo k x m = mkL k x by unfold mkTo mkL; rw [show m = 400 by omega])
        clear hlt hl4 hm hm4 hgg
        go_wp2
        go_ret3
        refine ⟨g, gs, _, rfl, ⟨HS.out.hg, HS.out.hs, ?_, ?_, HS.out.pos, HS.out.few⟩, ?_, HBm.out⟩
        · have := HS.out.bg; have := SZ.out; omega
        · have := HS.out.bs; have := SZ.out; omega
        · have := HR.out; rw [HM.out] at this; exact this
    · have hltb : decide ((m : Int) < (x.length : Int)) = false := decide_eq_false (by omega)
      have hltc : decide (m < x.length) = false := decide_eq_false hlt
      have HM := Aside0.mk (show mkTo k x m = mkL k x by unfold mkTo mkL; rw [List.take_of_length_le (by omega), List.take_of_length_le (by omega)])
      clear hlt hm hm4 hgg
      go_wp2
      go_ret3
      refine ⟨g, gs, _, rfl, ⟨HS.out.hg, HS.out.hs, ?_, ?_, HS.out.pos, HS.out.few⟩, ?_, HBm.out⟩
      · have := HS.out.bg; have := SZ.out; omega
      · have := HS.out.bs; have := SZ.out; omega
      · have := HR.out; rw [HM.out] at this; exact this
end Go.Proofs.Ytjjnglngldfglaa.P
