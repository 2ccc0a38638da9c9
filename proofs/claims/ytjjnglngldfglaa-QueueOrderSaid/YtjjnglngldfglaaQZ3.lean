/- QueueOrder: the walk. -/
import Derived.Test.YtjjnglngldfglaaQZ2
import Derived.RegionTactic
import Derived.BigRegion
namespace Go.Proofs.Ytjjnglngldfglaa.P
set_option linter.unusedVariables false
open Go Go.RowKit Go.Proofs.YtjjnglngldfglaaW.PrintWords Go.Proofs.YtjjnglngldfglaaW.PrintLast Go.Proofs.YtjjnglngldfglaaW.PrintMore

theorem sh_small (a : Nat) (h : a < 4) : wrap64 ((2 : Int) ^ min a 64) = (2 : Int) ^ a := by
  obtain rfl | rfl | rfl | rfl : a = 0 ∨ a = 1 ∨ a = 2 ∨ a = 3 := by omega
  all_goals decide +kernel
/-- Elder blocks are left alone, but for the shop's. -/
def Fr (W w' : World) (g gs : Nat) : Prop := ∀ k, k < W.heap.size → k ≠ g → k ≠ gs → w'.heap[k]? = W.heap[k]?
section
variable {W W1 W2 : World} {b g gs ga : Nat} {sh : Sh} {ah l : List Int}
theorem Fr.refl (W : World) (g gs : Nat) : Fr W W g gs := fun _ _ _ _ => rfl
theorem Fr.below (h : Fr W W1 g gs) (hb : Below W1.heap.size W1 W2) (hz : W.heap.size ≤ W1.heap.size) : Fr W W2 g gs := fun k hk h1 h2 => (hb.block k (by omega)).trans (h k hk h1 h2)
theorem Fr.moved (h : Fr W W1 g gs) (hm : Moved W1 W2 b g gs) (hz : W.heap.size ≤ W1.heap.size) : Fr W W2 g gs := fun k hk h1 h2 => (hm.keep k (by omega) h1 h2).trans (h k hk h1 h2)
theorem Fr.set (h : Fr W W1 g gs) (hga : W.heap.size ≤ ga) (j : Nat) (x : Value) : Fr W (W1.setCell ⟨ga, j, none⟩ x) g gs := fun k hk h1 h2 => (Below.heap_setCell W1 _ _ k (by show k ≠ ga; omega)).trans (h k hk h1 h2)
theorem Fr.drew (h : Fr W W1 g gs) : Fr W W1.drew g gs := h
theorem R_kept {base : Nat} {ok : Nat → Prop} {v : Value} (h : Shp W b g gs sh) (hr : Kd.R (Kd.int .i64) 3 W base ok v l) :
    ∃ A c, v = .slice A l.length c ∧ l.length ≤ c ∧ ∀ w', Fr W w' g gs → Kd.C (Kd.int .i64) w' A l.length l := by
  obtain ⟨A, c, rfl, hc, hC⟩ := Kd.R_reads hr
  refine ⟨A, c, rfl, hc, fun w' m => ?_⟩
  obtain ⟨rest, h0⟩ := h.hs
  have h1 := Kd.R_types (Kd.R_types hr h.hg (by decide)) h0 (by decide)
  have h2 : Kd.R (Kd.int .i64) 3 w' base _ _ l := Kd.R_step h1 (fun k hk hlt => m k hlt hk.1.2 hk.2)
  obtain ⟨A', c', e, _, hC'⟩ := Kd.R_reads h2
  injection e with e1 _ _
  rw [e1]; exact hC'
theorem made_zero (k : Nat) : madeCells #[.int .i64 0] k = ((List.replicate k (0 : Int)).map (Value.int .i64)).toArray := by
  apply Array.ext'
  unfold madeCells
  simp
  apply List.ext_getElem
  · simp
  · intro i h1 h2; simp [Nat.mod_one]
end
set_option maxRecDepth 100000 in
set_option maxHeartbeats 800000 in
theorem Order_calls (W : World) (n : Int) (k : Nat) (h0 : 0 ≤ n) (h1 : n < 256) (hk : n % 4 + 1 = (k : Int)) (A : Option Addr) (c : Nat) (x : List Int) (hx : Kd.C (Kd.int .u8) W A x.length x) (hu : ∀ v ∈ x, 0 ≤ v ∧ v < 256) :
    Calls Try.prog 4 #[.int .u8 n, .slice A x.length c] W fun e w' => e = .returned (.bool true) ∧ Below W.heap.size W w' := by
  have HM := Aside0.mk (made2_calls W n k h0 h1 hk A c x hx hu)
  have HK := Aside0.mk (show 1 ≤ k ∧ k ≤ 4 by omega)
  have HE := Aside0.mk (mkL_in k x HK.out.1)
  have HLL := Aside0.mk (mkL_len k x)
  generalize mkL k x = l at *
  clear hx hu hk h0 h1
  go_enter Try.func4, Try.ntmps4
  go_wp2_with (fail)
  with_reducible refine HM.out.mono ?_
  rintro e w1 ⟨g, gs, v, rfl, hs, hr, hb⟩
  have S1 := Aside0.mk hs
  have R1 := Aside0.mk hr
  have B1 := Aside0.mk hb
  clear hs hr hb HM
  go_wp2_with (fail)
  with_reducible refine (lives_calls w1).mono ?_
  rintro e w2 ⟨rfl, hb⟩
  have S2 := Aside0.mk (S1.out.below hb)
  have R2 := Aside0.mk (Kd.R_below R1.out hb)
  have B2 := Aside0.mk (B1.out.trans (hb.mono B1.out.size))
  clear hb
  obtain ⟨AL, cL, rfl, hcL, hCL⟩ := R_kept S2.out R2.out
  have HCL := Aside0.mk hCL
  clear hcL hCL
  obtain ⟨i0, hi, hz0, hsz, hby⟩ := info_parts info3
  have hmk := fun W : World => run_make (P := Try.prog) (w := W) 24 3 i0 (.int .i64 0) Try.underlying24 hi hz0 .i64 .i64 (k : Int) (k : Int) (by omega) (by omega) (by have := HK.out; rw [hby]; omega) (by have := HK.out; omega)
  simp only [Int.toNat_natCast, hsz, Nat.mul_one] at hmk
  obtain ⟨w3, hw3⟩ : ∃ w3, w2.alloc (.cells (madeCells #[.int .i64 0] k) 3) = w3 := ⟨_, rfl⟩
  obtain ⟨ga, hga⟩ : ∃ ga, w2.heap.size = ga := ⟨_, rfl⟩
  have HGA := Aside0.mk hga
  have A3 := Aside0.mk (show Blk w3 ga (List.replicate k 0) by rw [← hw3, ← hga, made_zero]; exact alloc_at _ _)
  have S3 := Aside0.mk (show Shp w3 W.heap.size g gs (newSh k false) by rw [← hw3]; exact S2.out.alloc _)
  have B3 := Aside0.mk (show Below W.heap.size W w3 by rw [← hw3]; exact below_alloc B2.out _)
  have F3 := Aside0.mk (show Fr w2 w3 g gs by rw [← hw3]; exact (Fr.refl _ _ _).below (below_alloc (Below.refl _ _) _) (Nat.le_refl _))
  have WG := Aside0.mk (show W.heap.size ≤ ga by rw [← hga]; exact B2.out.size)
  have hl0 := Aside0.mk (show (newSh k false).sc.length = k by simp [newSh])
  clear hi hz0 hsz hby
  go_wp2
  clear hmk hw3 hga
  go_loopg [9] l.length (fun gg v9 w' => ∃ (m : Nat) (sh : Sh) (ah : List Int), m ≤ l.length ∧ l.length - m ≤ gg ∧ v9 = .int .i64 m ∧ Aside0 (Bak sh m) ∧ Aside0 (okSh sh) ∧ Aside0 (sh.sc.length = k) ∧ Aside0 (OrdI sh ah) ∧ Aside0 (Shp w' W.heap.size g gs sh) ∧ Aside0 (Blk w' ga ah) ∧ Aside0 (Fr w2 w' g gs) ∧ Aside0 (Below W.heap.size W w'))
  case atStart => exact ⟨0, _, _, Nat.zero_le _, by omega, rfl, ⟨bak_new k HK.out.2⟩, ⟨okSh_new k false HK.out.2⟩, hl0, ⟨ordI_new k⟩, S3, A3, F3, B3⟩
  case round =>
    obtain ⟨m, sh, ah, hm, hgg, rfl, HBk, HOk, HLn, HOr, HS, HA, HF, HB⟩ := hrel
    by_cases hlt : m < l.length
    · have hltb : decide ((m : Int) < (l.length : Int)) = true := decide_eq_true (by omega)
      have hltc : decide (m < l.length) = true := decide_eq_true hlt
      have hltz : ((m : Int) < (l.length : Int)) = True := eq_true (by omega)
      obtain ⟨ad, e1, hx⟩ := Kd.at_int (HCL.out wr HF.out) m (by omega) (by omega)
      cases e1
      rw [Int.toNat_natCast] at hx
      have hv0 := HE.out _ (rd_in l m hlt)
      generalize rd l m = u at *
      obtain ⟨v, rfl⟩ := Int.eq_ofNat_of_zero_le hv0.1
      have HV := Aside0.mk (show v < k by omega)
      have HLT := Aside0.mk hlt
      have HVS := Aside0.mk (show v < sh.sc.length by rw [HLn.out]; exact HV.out)
      have HT := Aside0.mk (show (m : Int) < 1000000 by have := HLL.out; omega)
      have hwm : wrap64 ((m : Int) + 1) = (m : Int) + 1 := by have := HLL.out; unfold wrap64; omega
      have ST := Aside0.mk (Stage_calls wr W.heap.size g gs sh HS.out v)
      rw [stOf_nat HVS.out] at ST
      have ZG := Aside0.mk (show w2.heap.size ≤ wr.heap.size by have := HA.out.lt; have := HGA.out; omega)
      clear hlt hm hv0
      generalize hwas : (scAt sh v).st.num = was at *
      have WAS := Aside0.mk hwas
      clear hwas
      go_wp2_with (fail)
      with_reducible refine ST.out.mono ?_
      rintro e w4 ⟨rfl, hb4⟩
      have S4 := Aside0.mk (HS.out.below hb4)
      have A4 := Aside0.mk (HA.out.below hb4)
      have F4 := Aside0.mk (HF.out.below hb4 ZG.out)
      have B4 := Aside0.mk (HB.out.trans (hb4.mono HB.out.size))
      clear hb4 hx
      go_wp2_with (fail)
      with_reducible refine (advance_calls w4 W.heap.size g gs sh S4.out HOk.out B4.out.size v HVS.out).mono ?_
      rintro e w5 ⟨rfl, hs, hm⟩
      have S5 := Aside0.mk hs
      have A5 := Aside0.mk (A4.out.moved S4.out hm)
      have Z4 := Aside0.mk (show w2.heap.size ≤ w4.heap.size by have := A4.out.lt; have := HGA.out; omega)
      have F5 := Aside0.mk (F4.out.moved hm Z4.out)
      have B5 := Aside0.mk (hm.bel W.heap.size W B4.out (Nat.le_refl _))
      clear hs hm
      have HVS2 := Aside0.mk (show v < (adv sh v).sc.length by rw [adv_len]; exact HVS.out)
      have ST2 := Aside0.mk (Stage_calls w5 W.heap.size g gs (adv sh v) S5.out v)
      rw [stOf_nat HVS2.out] at ST2
      generalize hnow : (scAt (adv sh v) v).st.num = now at *
      have NOW := Aside0.mk hnow
      clear hnow
      go_wp2_with (fail)
      with_reducible refine ST2.out.mono ?_
      rintro e w6 ⟨rfl, hb6⟩
      have S6 := Aside0.mk (S5.out.below hb6)
      have A6 := Aside0.mk (A5.out.below hb6)
      have Z5 := Aside0.mk (show w2.heap.size ≤ w5.heap.size by have := A5.out.lt; have := HGA.out; omega)
      have F6 := Aside0.mk (F5.out.below hb6 Z5.out)
      have B6 := Aside0.mk (B5.out.trans (hb6.mono B5.out.size))
      clear hb6
      by_cases cw : was = 1
      · subst cw
        obtain ⟨la, lb⟩ := leave_one HBk.out HT.out v HVS.out WAS.out
        obtain rfl : now = 2 := NOW.out.symm.trans lb
        have LA := Aside0.mk la
        clear la lb
        have hal := Aside0.mk (show ah.length = k from HOr.out.1.trans HLn.out)
        have y1 := A6.out.cell v (by rw [hal.out]; exact HV.out)
        have y2 := A6.out.fz v
        have hvk : ((v : Int) < (k : Int)) = True := eq_true (by have := HV.out; omega)
        have hvk2 : decide (v < k) = true := decide_eq_true HV.out
        go_wp2
        have A7 := Aside0.mk (A6.out.set v 0)
        have S7 := Aside0.mk (S6.out.set A6.out v (.int .i64 0))
        have F7 := Aside0.mk (F6.out.set (Nat.le_of_eq HGA.out) v (.int .i64 0))
        have B7 := Aside0.mk (B6.out.setCell (p := ⟨ga, v, none⟩) WG.out (.int .i64 0))
        have HB7 := Aside0.mk (And.intro (show (ah.set v 0).length = ah.length from List.length_set) (And.intro (fun (b : Nat) (hbv : b ≠ v) => show rd (ah.set v 0) b = rd ah b by rw [rd_set _ _ _ _ (by rw [hal.out]; exact HV.out), if_neg hbv]) (show rd (ah.set v 0) v = 0 by rw [rd_set _ _ _ _ (by rw [hal.out]; exact HV.out), if_pos rfl])))
        clear y1 y2
        generalize w6.setCell ⟨ga, v, none⟩ (.int .i64 0) = w7 at *
        go_loopg [13] k (fun gg v13 w' => ∃ (a : Nat) (ah1 : List Int), a ≤ k ∧ k - a ≤ gg ∧ v13 = .int .i64 a ∧ Aside0 (ah1.length = ah.length ∧ (∀ b : Nat, b ≠ v → rd ah1 b = rd ah b) ∧ (0 ≤ rd ah1 v ∧ rd ah1 v < 16) ∧ ∀ a' : Nat, a' < 4 → hasb (rd ah1 v) a' = true → a' < sh.sc.length ∧ Mid (scAt (adv sh v) a').st) ∧ Aside0 (Shp w' W.heap.size g gs (adv sh v)) ∧ Aside0 (Blk w' ga ah1) ∧ Aside0 (Fr w2 w' g gs) ∧ Aside0 (Below W.heap.size W w'))
        case atStart => exact ⟨0, ah.set v 0, Nat.zero_le _, by omega, rfl, ⟨HB7.out.1, HB7.out.2.1, by rw [HB7.out.2.2]; omega, fun a' _ hx => by rw [HB7.out.2.2, hasb_zero] at hx; cases hx⟩, S7, A7, F7, B7⟩
        case round =>
          obtain ⟨a, ah1, ha, hgg1, rfl, HI, HS1, HA1, HF1, HB1⟩ := hrel
          by_cases hak : a < k
          · have hka : ((a : Int) < (k : Int)) = True := eq_true (by omega)
            have hkb : decide (a < k) = true := decide_eq_true hak
            have hkc : decide ((a : Int) < (k : Int)) = true := decide_eq_true (by omega)
            have HAK := Aside0.mk (show a < k ∧ a < 4 by have := HK.out; omega)
            have HAS := Aside0.mk (show a < (adv sh v).sc.length by rw [adv_len, HLn.out]; exact hak)
            have ST3 := Aside0.mk (Stage_calls wr W.heap.size g gs (adv sh v) HS1.out a)
            rw [stOf_nat HAS.out] at ST3
            have hwa : wrap64 ((a : Int) + 1) = (a : Int) + 1 := by have := HK.out; unfold wrap64; omega
            clear hak ha
            have HMD := Aside0.mk (mid_num (scAt (adv sh v) a).st)
            generalize (scAt (adv sh v) a).st.num = na at *
            go_wp2_with (fail)
            with_reducible refine ST3.out.mono ?_
            rintro e w8 ⟨rfl, hb8⟩
            have S8 := Aside0.mk (HS1.out.below hb8)
            have A8 := Aside0.mk (HA1.out.below hb8)
            have ZZ := Aside0.mk (show w2.heap.size ≤ wr.heap.size by have := HA1.out.lt; have := HGA.out; omega)
            have F8 := Aside0.mk (HF1.out.below hb8 ZZ.out)
            have B8 := Aside0.mk (HB1.out.trans (hb8.mono HB1.out.size))
            clear hb8
            by_cases hmid : na = 5 ∨ na = 6
            · have hal1 := Aside0.mk (show v < ah1.length by rw [HI.out.1, hal.out]; exact HV.out)
              have y1 := A8.out.cell v hal1.out
              have y2 := A8.out.fz v
              have HMM := Aside0.mk (HMD.out.2 hmid)
              have hbo := Aside0.mk (bit_or HI.out.2.2.1.1 HI.out.2.2.1.2 HAK.out.2)
              have hsh := sh_small a HAK.out.2
              obtain ⟨z, hz⟩ : ∃ z, bits .or .i64 (rd ah1 v) (2 ^ a : Int) = z := ⟨_, rfl⟩
              rw [hz] at hbo
              have A9 := Aside0.mk ((A8.out.set v z).drew)
              have S9 := Aside0.mk ((S8.out.set A8.out v (.int .i64 z)).drew)
              have F9 := Aside0.mk ((F8.out.set (Nat.le_of_eq HGA.out) v (.int .i64 z)).drew)
              have B9 := Aside0.mk ((B8.out.setCell (p := ⟨ga, v, none⟩) WG.out (.int .i64 z)).drew)
              have HI2 := Aside0.mk (show (ah1.set v z).length = ah.length ∧ (∀ b : Nat, b ≠ v → rd (ah1.set v z) b = rd ah b) ∧ (0 ≤ rd (ah1.set v z) v ∧ rd (ah1.set v z) v < 16) ∧ ∀ a' : Nat, a' < 4 → hasb (rd (ah1.set v z) v) a' = true → a' < sh.sc.length ∧ Mid (scAt (adv sh v) a').st from by
                obtain ⟨i1, i2, i3, i4⟩ := HI.out
                have e : rd (ah1.set v z) v = z := by rw [rd_set _ _ _ _ hal1.out, if_pos rfl]
                refine ⟨by rw [List.length_set]; exact i1, fun b hb => by rw [rd_set _ _ _ _ hal1.out, if_neg hb]; exact i2 b hb, by rw [e]; exact ⟨hbo.out.1, hbo.out.2.1⟩, fun a' ha' hx => ?_⟩
                rw [e, hbo.out.2.2 a' ha'] at hx
                rcases Bool.or_eq_true _ _ ▸ hx with hx | hx
                · exact i4 a' ha' hx
                · obtain rfl : a' = a := by simpa using hx
                  exact ⟨by have := HAS.out; rw [adv_len] at this; exact this, HMM.out⟩)
              rcases hmid with rfl | rfl
              all_goals
                go_wp2
                go_region
                all_goals
                  go_wp2
                  go_roundg (k - (a + 1))
                  case measure => have := HAK.out; omega
                  case rel => exact ⟨a + 1, ah1.set v z, by have := HAK.out; omega, Nat.le_refl _, by go_num, HI2, S9, A9, F9, B9⟩
            · have n5 : (na == 5) = false := beq_eq_false_iff_ne.2 (fun e => hmid (.inl e))
              have n6 : (na == 6) = false := beq_eq_false_iff_ne.2 (fun e => hmid (.inr e))
              clear hmid
              go_wp2
              go_roundg (k - (a + 1))
              case measure => have := HAK.out; omega
              case rel => exact ⟨a + 1, ah1, by have := HAK.out; omega, Nat.le_refl _, by go_num, HI, S8, A8, F8, B8⟩
          · have hka : ((a : Int) < (k : Int)) = False := eq_false (by omega)
            have hkb : decide (a < k) = false := decide_eq_false hak
            have hkc : decide ((a : Int) < (k : Int)) = false := decide_eq_false (by omega)
            have HO2 := Aside0.mk (ord_leave HBk.out HT.out HOr.out v HVS.out LA.out HI.out.1 HI.out.2.1 HI.out.2.2.1 HI.out.2.2.2)
            have HB2 := Aside0.mk (bak_adv HBk.out HT.out v HVS.out)
            have HO3 := Aside0.mk (okSh_adv HOk.out v HVS.out)
            clear hak ha hgg1
            go_wp2
            go_roundg (l.length - (m + 1))
            case measure => have := HLT.out; omega
            case rel => exact ⟨m + 1, adv sh v, ah1, by have := HLT.out; omega, Nat.le_refl _, by go_num, HB2, HO3, ⟨(adv_len _ _).trans HLn.out⟩, HO2, HS1, HA1, HF1, HB1⟩
      · have cwb : (was == 1) = false := beq_eq_false_iff_ne.2 cw
        have HB2 := Aside0.mk (bak_adv HBk.out HT.out v HVS.out)
        have HO3 := Aside0.mk (okSh_adv HOk.out v HVS.out)
        by_cases c7 : was = 7
        · subst c7
          have HO2 := Aside0.mk (ord_other HBk.out HT.out HOr.out v HVS.out (by rw [WAS.out]; exact cw) (fun h => absurd WAS.out h))
          clear cw
          go_wp2
          go_roundg (l.length - (m + 1))
          case measure => have := HLT.out; omega
          case rel => exact ⟨m + 1, adv sh v, ah, by have := HLT.out; omega, Nat.le_refl _, by go_num, HB2, HO3, ⟨(adv_len _ _).trans HLn.out⟩, HO2, S6, A6, F6, B6⟩
        · have c7b : (was != 7) = true := bne_iff_ne.2 c7
          by_cases d7 : now = 7
          · subst d7
            have hto := Aside0.mk (to_inside HBk.out HT.out v HVS.out (by rw [WAS.out]; exact c7) NOW.out)
            have hz := ord_zero HBk.out HOr.out v HVS.out hto.out
            have hal := Aside0.mk (show ah.length = k from HOr.out.1.trans HLn.out)
            have y1 := A6.out.cell v (by rw [hal.out]; exact HV.out)
            rw [hz] at y1
            have y2 := A6.out.fz v
            have hvk : ((v : Int) < (k : Int)) = True := eq_true (by have := HV.out; omega)
            have hvk2 : decide (v < k) = true := decide_eq_true HV.out
            clear cw c7 hz
            go_wp2
            clear y1 y2
            go_loopg [15] k (fun gg v15 w' => ∃ (a : Nat) (ah1 : List Int), a ≤ k ∧ k - a ≤ gg ∧ v15 = .int .i64 a ∧ Aside0 (ah1.length = ah.length ∧ (∀ b : Nat, b < a → 0 ≤ rd ah1 b ∧ rd ah1 b < 16 ∧ ∀ a' : Nat, a' < 4 → hasb (rd ah1 b) a' = true → hasb (rd ah b) a' = true ∧ a' ≠ v) ∧ ∀ b : Nat, a ≤ b → rd ah1 b = rd ah b) ∧ Aside0 (Shp w' W.heap.size g gs (adv sh v)) ∧ Aside0 (Blk w' ga ah1) ∧ Aside0 (Fr w2 w' g gs) ∧ Aside0 (Below W.heap.size W w'))
            case atStart => exact ⟨0, ah, Nat.zero_le _, by omega, rfl, ⟨rfl, fun b hb => absurd hb (Nat.not_lt_zero b), fun _ _ => rfl⟩, S6, A6, F6, B6⟩
            case round =>
              obtain ⟨a, ah1, ha, hgg1, rfl, HI, HS1, HA1, HF1, HB1⟩ := hrel
              by_cases hak : a < k
              · have hka : ((a : Int) < (k : Int)) = True := eq_true (by omega)
                have hkb : decide (a < k) = true := decide_eq_true hak
                have hkc : decide ((a : Int) < (k : Int)) = true := decide_eq_true (by omega)
                have HAK := Aside0.mk (show a < k ∧ a < 4 by have := HK.out; omega)
                have HV4 := Aside0.mk (show v < 4 by have := HK.out; have := HV.out; omega)
                have hwa : wrap64 ((a : Int) + 1) = (a : Int) + 1 := by have := HK.out; unfold wrap64; omega
                have hal1 := Aside0.mk (show a < ah1.length by rw [HI.out.1, hal.out]; exact hak)
                have y1 := HA1.out.cell a hal1.out
                have y2 := HA1.out.fz a
                have hsh := sh_small v HV4.out
                have hra := Aside0.mk (show rd ah1 a = rd ah a from HI.out.2.2 a (Nat.le_refl _))
                have hba := Aside0.mk (HOr.out.2 a (by rw [HLn.out]; exact hak))
                obtain ⟨z, hz⟩ : ∃ z, bits .andNot .i64 (rd ah1 a) (2 ^ v : Int) = z := ⟨_, rfl⟩
                have hbo := Aside0.mk (bit_an (x := rd ah1 a) (by rw [hra.out]; exact hba.out.1) (by rw [hra.out]; exact hba.out.2.1) HV4.out)
                rw [hz] at hbo
                have A9 := Aside0.mk ((HA1.out.set a z).drew)
                have S9 := Aside0.mk ((HS1.out.set HA1.out a (.int .i64 z)).drew)
                have F9 := Aside0.mk ((HF1.out.set (Nat.le_of_eq HGA.out) a (.int .i64 z)).drew)
                have B9 := Aside0.mk ((HB1.out.setCell (p := ⟨ga, a, none⟩) WG.out (.int .i64 z)).drew)
                have HI2 := Aside0.mk (show (ah1.set a z).length = ah.length ∧ (∀ b : Nat, b < a + 1 → 0 ≤ rd (ah1.set a z) b ∧ rd (ah1.set a z) b < 16 ∧ ∀ a' : Nat, a' < 4 → hasb (rd (ah1.set a z) b) a' = true → hasb (rd ah b) a' = true ∧ a' ≠ v) ∧ ∀ b : Nat, a + 1 ≤ b → rd (ah1.set a z) b = rd ah b from by
                  obtain ⟨i1, i2, i3⟩ := HI.out
                  refine ⟨by rw [List.length_set]; exact i1, fun b hb => ?_, fun b hb => by rw [rd_set _ _ _ _ hal1.out, if_neg (by omega)]; exact i3 b (by omega)⟩
                  by_cases e : b = a
                  · subst e
                    have e : rd (ah1.set b z) b = z := by rw [rd_set _ _ _ _ hal1.out, if_pos rfl]
                    rw [e]
                    refine ⟨hbo.out.1, hbo.out.2.1, fun a' ha' hx => ?_⟩
                    rw [hbo.out.2.2 a' ha', hra.out] at hx
                    have := Bool.and_eq_true _ _ ▸ hx
                    exact ⟨this.1, by simpa using this.2⟩
                  · rw [rd_set _ _ _ _ hal1.out, if_neg e]; exact i2 b (by omega))
                clear hak ha
                go_wp2
                go_region
                all_goals
                  go_wp2
                  go_roundg (k - (a + 1))
                  case measure => have := HAK.out; omega
                  case rel => exact ⟨a + 1, ah1.set a z, by have := HAK.out; omega, Nat.le_refl _, by go_num, HI2, S9, A9, F9, B9⟩
              · have hka : ((a : Int) < (k : Int)) = False := eq_false (by omega)
                have hkb : decide (a < k) = false := decide_eq_false hak
                have hkc : decide ((a : Int) < (k : Int)) = false := decide_eq_false (by omega)
                have HO2 := Aside0.mk (ord_in HBk.out HT.out HOr.out v HVS.out hto.out HI.out.1 (fun b hb => HI.out.2.1 b (by rw [HLn.out] at hb; omega)))
                clear hak ha hgg1
                go_wp2
                go_roundg (l.length - (m + 1))
                case measure => have := HLT.out; omega
                case rel => exact ⟨m + 1, adv sh v, ah1, by have := HLT.out; omega, Nat.le_refl _, by go_num, HB2, HO3, ⟨(adv_len _ _).trans HLn.out⟩, HO2, HS1, HA1, HF1, HB1⟩
          · have d7b : (now == 7) = false := beq_eq_false_iff_ne.2 d7
            have HO2 := Aside0.mk (ord_other HBk.out HT.out HOr.out v HVS.out (by rw [WAS.out]; exact cw) (fun _ => by rw [NOW.out]; exact d7))
            clear cw c7 d7
            go_wp2
            go_roundg (l.length - (m + 1))
            case measure => have := HLT.out; omega
            case rel => exact ⟨m + 1, adv sh v, ah, by have := HLT.out; omega, Nat.le_refl _, by go_num, HB2, HO3, ⟨(adv_len _ _).trans HLn.out⟩, HO2, S6, A6, F6, B6⟩
    · have hltb : decide ((m : Int) < (l.length : Int)) = false := decide_eq_false (by omega)
      have hltc : decide (m < l.length) = false := decide_eq_false hlt
      clear hlt hm hgg
      go_wp2
      go_ret
      exact ⟨rfl, HB.out⟩
theorem Order_row (W : World) (n : Int) (hn : (Lit.int .u8 n).wf = true) (A : Option Addr) (c : Nat) (x : List Int) (hx : Kd.C (Kd.int .u8) W A x.length x) (hc : x.length ≤ c) (hg : x.length ≤ maxLen ∧ ∀ y ∈ x, (Lit.int .u8 y).wf = true) :
    Calls Try.prog 4 #[.int .u8 n, .slice A x.length c] W fun e w' => e = .returned (.bool true) ∧ Below W.heap.size W w' := by
  obtain ⟨h0, h1⟩ := u8_of hn
  exact Order_calls W n (n % 4 + 1).toNat h0 h1 (by omega) A c x hx (u8s_of hg)
end Go.Proofs.Ytjjnglngldfglaa.P
