/- QueueNumbers: the walk. -/
import Derived.Test.YtjjnglngldfglaaQZ4
import Derived.Deep.DeepCutAuto
namespace Go.Proofs.Ytjjnglngldfglaa.P
set_option linter.unusedVariables false
open Go Go.RowKit Go.Proofs.YtjjnglngldfglaaW.PrintWords Go.Proofs.YtjjnglngldfglaaW.PrintLast Go.Proofs.YtjjnglngldfglaaW.PrintMore

theorem int_succ (a : Nat) : Value.int .i64 ((a : Int) + 1) = Value.int .i64 ((a + 1 : Nat) : Int) := rfl
theorem int_wsucc {a : Nat} (h : wrap64 ((a : Int) + 1) = (a : Int) + 1) : Value.int .i64 (wrap64 ((a : Int) + 1)) = Value.int .i64 ((a + 1 : Nat) : Int) := by rw [h]; rfl
theorem wrap_lt {a : Nat} (h : a < 4) : wrap64 ((a : Int) + 1) = (a : Int) + 1 := wrap_few a (by omega) (by omega)
theorem and_tab : ∀ x ∈ List.range 16, ∀ c ∈ List.range 4, bits .and .i64 ((x : Nat) / (2 ^ c : Int)) 1 = if hasb (x : Nat) c then 1 else 0 := by decide +kernel
theorem bit_and {x : Int} (h0 : 0 ≤ x) (h1 : x < 16) {c : Nat} (hc : c < 4) : bits .and .i64 (x / (2 ^ c : Int)) 1 = if hasb x c then 1 else 0 := by
  obtain ⟨n, rfl⟩ := Int.eq_ofNat_of_zero_le h0
  exact and_tab n (List.mem_range.2 (by omega)) c (List.mem_range.2 hc)
/-- The other pairs' bits are as before. -/
def NumP (sh : Sh) (tg tg' : List Int) (v : Nat) : Prop := tg'.length = tg.length ∧ (∀ b : Nat, b < sh.sc.length → 0 ≤ rd tg' b ∧ rd tg' b < 16) ∧ ∀ a b : Nat, a < sh.sc.length → b < sh.sc.length → a ≠ v → b ≠ v → hasb (rd tg' a) b = hasb (rd tg a) b
theorem num_zero {sh : Sh} {tg : List Int} (h : NumI sh tg) (v : Nat) (hv : v < sh.sc.length) : NumP sh tg (tg.set v 0) v := by
  refine ⟨List.length_set, fun b hb => ?_, fun a b ha hb h1 h2 => ?_⟩
  · rw [rd_set _ _ _ _ (by rw [h.len]; exact hv)]
    split
    · omega
    · exact h.rng b hb
  · rw [rd_set _ _ _ _ (by rw [h.len]; exact hv), if_neg h1]
theorem num_strike {sh : Sh} {tg tg' : List Int} {v : Nat} (h : NumP sh tg tg' v) (a : Nat) (ha : a < tg'.length) (hv : v < 4) (h4 : sh.sc.length ≤ 4) {z : Int} (hz : 0 ≤ z ∧ z < 16 ∧ ∀ d, d < 4 → hasb z d = (hasb (rd tg' a) d && decide (d ≠ v))) : NumP sh tg (tg'.set a z) v := by
  obtain ⟨h1, h2, h3⟩ := h
  refine ⟨by rw [List.length_set]; exact h1, fun b hb => ?_, fun p q hp hq e1 e2 => ?_⟩
  · rw [rd_set _ _ _ _ ha]
    split
    · exact ⟨hz.1, hz.2.1⟩
    · exact h2 b hb
  · rw [rd_set _ _ _ _ ha]
    by_cases e : p = a
    · subst e
      rw [if_pos rfl, hz.2.2 q (by omega), ← h3 p q hp hq e1 e2]
      simp [e2]
    · rw [if_neg e]; exact h3 p q hp hq e1 e2
theorem num_or {sh : Sh} {tg : List Int} (h : NumI sh tg) {a cc k : Nat} (h1 : ∀ a' c' : Nat, a' < a → c' < k → Two (scAt sh a').st → Two (scAt sh c').st → hasb (rd tg a') c' = true) (h2 : ∀ c' : Nat, c' < cc → Two (scAt sh a).st → Two (scAt sh c').st → hasb (rd tg a) c' = true)
    (hk : sh.sc.length = k) (h4 : k ≤ 4) (ha : a < k) (hc : cc < k) {z : Int} (hz : 0 ≤ z ∧ z < 16 ∧ ∀ d, d < 4 → hasb z d = (hasb (rd tg a) d || decide (d = cc))) :
    NumI sh (tg.set a z) ∧ (∀ a' c' : Nat, a' < a → c' < k → Two (scAt sh a').st → Two (scAt sh c').st → hasb (rd (tg.set a z) a') c' = true) ∧ ∀ c' : Nat, c' < cc + 1 → Two (scAt sh a).st → Two (scAt sh c').st → hasb (rd (tg.set a z) a) c' = true := by
  have hl : a < tg.length := by rw [h.len, hk]; exact ha
  refine ⟨numI_more h List.length_set (fun b hb => ?_) (fun b d hb hd q => ?_), fun a' c' e1 e2 e3 e4 => ?_, fun c' e1 e2 e3 => ?_⟩
  · rw [rd_set _ _ _ _ hl]
    split
    · exact ⟨hz.1, hz.2.1⟩
    · exact h.rng b hb
  · rw [rd_set _ _ _ _ hl]
    by_cases e : b = a
    · subst e; rw [if_pos rfl, hz.2.2 d (by omega), q]; rfl
    · rw [if_neg e]; exact q
  · rw [rd_set _ _ _ _ hl, if_neg (by omega)]; exact h1 a' c' e1 e2 e3 e4
  · rw [rd_set _ _ _ _ hl, if_pos rfl, hz.2.2 c' (by omega)]
    by_cases e : c' = cc
    · simp [e]
    · rw [h2 c' (by omega) e2 e3]; rfl
set_option maxRecDepth 100000 in
set_option maxHeartbeats 800000 in
theorem Numbers_calls (W : World) (n : Int) (k : Nat) (h0 : 0 ≤ n) (h1 : n < 256) (hk : n % 4 + 1 = (k : Int)) (A : Option Addr) (c : Nat) (x : List Int) (hx : Kd.C (Kd.int .u8) W A x.length x) (hu : ∀ v ∈ x, 0 ≤ v ∧ v < 256) :
    Calls Try.prog 6 #[.int .u8 n, .slice A x.length c] W fun e w' => e = .returned (.bool true) ∧ Below W.heap.size W w' := by
  have HM := Aside0.mk (made2_calls W n k h0 h1 hk A c x hx hu)
  have HK := Aside0.mk (show 1 ≤ k ∧ k ≤ 4 by omega)
  have HE := Aside0.mk (mkL_in k x HK.out.1)
  have HLL := Aside0.mk (mkL_len k x)
  generalize mkL k x = l at *
  clear hx hu hk h0 h1
  go_enter Try.func6, Try.ntmps6
  go_wp2_with (fail)
  with_reducible refine HM.out.mono ?_
  rintro e w1 ⟨g, gs, v, rfl, hs, hr, hb⟩
  have S1 := Aside0.mk hs
  have R1 := Aside0.mk hr
  have B1 := Aside0.mk hb
  clear hs hr hb HM
  go_wp2_with (fail)
  with_reducible refine (lives_calls w1).mono ?_
  rintro e w2 ⟨rfl, hb⟩
  have S2 := Aside0.mk (S1.out.below hb)
  have R2 := Aside0.mk (Kd.R_below R1.out hb)
  have B2 := Aside0.mk (B1.out.trans (hb.mono B1.out.size))
  clear hb
  obtain ⟨AL, cL, rfl, hcL, hCL⟩ := R_kept S2.out R2.out
  have HCL := Aside0.mk hCL
  clear hcL hCL
  obtain ⟨i0, hi, hz0, hsz, hby⟩ := info_parts info3
  have hmk := fun W : World => run_make (P := Try.prog) (w := W) 24 3 i0 (.int .i64 0) Try.underlying24 hi hz0 .i64 .i64 (k : Int) (k : Int) (by omega) (by omega) (by have := HK.out; rw [hby]; omega) (by have := HK.out; omega)
  simp only [Int.toNat_natCast, hsz, Nat.mul_one] at hmk
  obtain ⟨w3, hw3⟩ : ∃ w3, w2.alloc (.cells (madeCells #[.int .i64 0] k) 3) = w3 := ⟨_, rfl⟩
  obtain ⟨ga, hga⟩ : ∃ ga, w2.heap.size = ga := ⟨_, rfl⟩
  have HGA := Aside0.mk hga
  have A3 := Aside0.mk (show Blk w3 ga (List.replicate k 0) by rw [← hw3, ← hga, made_zero]; exact alloc_at _ _)
  have S3 := Aside0.mk (show Shp w3 W.heap.size g gs (newSh k false) by rw [← hw3]; exact S2.out.alloc _)
  have B3 := Aside0.mk (show Below W.heap.size W w3 by rw [← hw3]; exact below_alloc B2.out _)
  have F3 := Aside0.mk (show Fr w2 w3 g gs by rw [← hw3]; exact (Fr.refl _ _ _).below (below_alloc (Below.refl _ _) _) (Nat.le_refl _))
  have WG := Aside0.mk (show W.heap.size ≤ ga by rw [← hga]; exact B2.out.size)
  have hl0 := Aside0.mk (show (newSh k false).sc.length = k by simp [newSh])
  clear hi hz0 hsz hby
  go_wp2
  clear hmk hw3 hga
  go_loopg [9] l.length (fun gg v9 w' => ∃ (m : Nat) (sh : Sh) (ah : List Int), m ≤ l.length ∧ l.length - m ≤ gg ∧ v9 = .int .i64 m ∧ Aside0 (Bak sh m) ∧ Aside0 (okSh sh) ∧ Aside0 (sh.sc.length = k) ∧ Aside0 (NumI sh ah ∧ NumT sh ah) ∧ Aside0 (Shp w' W.heap.size g gs sh) ∧ Aside0 (Blk w' ga ah) ∧ Aside0 (Fr w2 w' g gs) ∧ Aside0 (Below W.heap.size W w'))
  case atStart => exact ⟨0, _, _, Nat.zero_le _, by omega, rfl, ⟨bak_new k HK.out.2⟩, ⟨okSh_new k false HK.out.2⟩, hl0, ⟨numI_new k⟩, S3, A3, F3, B3⟩
  case round =>
    obtain ⟨m, sh, ah, hm, hgg, rfl, HBk, HOk, HLn, HOr, HS, HA, HF, HB⟩ := hrel
    by_cases hlt : m < l.length
    · have hltb : decide ((m : Int) < (l.length : Int)) = true := decide_eq_true (by omega)
      have hltc : decide (m < l.length) = true := decide_eq_true hlt
      have hltz : ((m : Int) < (l.length : Int)) = True := eq_true (by omega)
      obtain ⟨ad, e1, hx⟩ := Kd.at_int (HCL.out wr HF.out) m (by omega) (by omega)
      cases e1
      rw [Int.toNat_natCast] at hx
      have hv0 := HE.out _ (rd_in l m hlt)
      have HU0 := Aside0.mk (show ∃ u, rd l m = u from ⟨_, rfl⟩)
      obtain ⟨u, hu⟩ := HU0.out
      rw [hu] at hx hv0
      obtain ⟨v, rfl⟩ := Int.eq_ofNat_of_zero_le hv0.1
      have HU := Aside0.mk hu
      clear hu HU0
      have HV := Aside0.mk (show v < k by omega)
      have HLT := Aside0.mk hlt
      have HVS := Aside0.mk (show v < sh.sc.length by rw [HLn.out]; exact HV.out)
      have HT := Aside0.mk (show (m : Int) < 1000000 by have := HLL.out; omega)
      have hwm : wrap64 ((m : Int) + 1) = (m : Int) + 1 := by have := HLL.out; unfold wrap64; omega
      have ST := Aside0.mk (Stage_calls wr W.heap.size g gs sh HS.out v)
      rw [stOf_nat HVS.out] at ST
      have ZG := Aside0.mk (show w2.heap.size ≤ wr.heap.size by have := HA.out.lt; have := HGA.out; omega)
      clear hlt hm hv0
      generalize hwas : (scAt sh v).st.num = was at *
      have WAS := Aside0.mk hwas
      clear hwas
      go_wp2_with (fail)
      with_reducible refine ST.out.mono ?_
      rintro e w4 ⟨rfl, hb4⟩
      have S4 := Aside0.mk (HS.out.below hb4)
      have A4 := Aside0.mk (HA.out.below hb4)
      have F4 := Aside0.mk (HF.out.below hb4 ZG.out)
      have B4 := Aside0.mk (HB.out.trans (hb4.mono HB.out.size))
      have hx4 := (hb4.cell (World.block_lt_of_cell? _ _ hx)).trans hx
      clear hb4 hx
      go_wp2_with (fail)
      with_reducible refine (advance_calls w4 W.heap.size g gs sh S4.out HOk.out B4.out.size v HVS.out).mono ?_
      rintro e w5 ⟨rfl, hs, hm⟩
      have S5 := Aside0.mk hs
      have A5 := Aside0.mk (A4.out.moved S4.out hm)
      have Z4 := Aside0.mk (show w2.heap.size ≤ w4.heap.size by have := A4.out.lt; have := HGA.out; omega)
      have F5 := Aside0.mk (F4.out.moved hm Z4.out)
      have B5 := Aside0.mk (hm.bel W.heap.size W B4.out (Nat.le_refl _))
      have hal := Aside0.mk (show ah.length = k from HOr.out.1.len.trans HLn.out)
      have HB2 := Aside0.mk (bak_adv HBk.out HT.out v HVS.out)
      have HO3 := Aside0.mk (okSh_adv HOk.out v HVS.out)
      obtain ⟨ad2, e2, hx5⟩ := Kd.at_int (HCL.out w5 F5.out) m (by have := HLT.out; omega) (by have := HLT.out; omega)
      have hxm : w5.cell? (ad.add m) = some (.int .i64 v) := by
        injection e2 with e2
        rw [Int.toNat_natCast] at hx5
        rw [e2]
        have q := hx5
        rw [HU.out] at q
        exact q
      clear hs hm hx4 hx5 e2
      go_upto_if 51 with (fail)
      go_cut [11] (fun s11 wx => ∃ ah1 : List Int, Aside0 (NumI (adv sh v) ah1) ∧ Aside0 (Shp wx W.heap.size g gs (adv sh v)) ∧ Aside0 (Blk wx ga ah1) ∧ Aside0 (Fr w2 wx g gs) ∧ Aside0 (Below W.heap.size W wx))
      case first =>
        by_cases cw : was = 1
        · subst cw
          have y1 := A5.out.cell v (by rw [hal.out]; exact HV.out)
          have y2 := A5.out.fz v
          have hvk : ((v : Int) < (k : Int)) = True := eq_true (by have := HV.out; omega)
          have hvk2 : decide (v < k) = true := decide_eq_true HV.out
          go_wp2
          have A7 := Aside0.mk (A5.out.set v 0)
          have S7 := Aside0.mk (S5.out.set A5.out v (.int .i64 0))
          have F7 := Aside0.mk (F5.out.set (Nat.le_of_eq HGA.out) v (.int .i64 0))
          have B7 := Aside0.mk (B5.out.setCell (p := ⟨ga, v, none⟩) WG.out (.int .i64 0))
          have HI7 := Aside0.mk (num_zero HOr.out.1 v HVS.out)
          clear y1 y2 hxm
          generalize w5.setCell ⟨ga, v, none⟩ (.int .i64 0) = w7 at *
          go_loopg [11] k (fun gg v11 w' => ∃ (a : Nat) (ah1 : List Int), a ≤ k ∧ k - a ≤ gg ∧ v11 = .int .i64 a ∧ Aside0 (NumP sh ah ah1 v) ∧ Aside0 (Shp w' W.heap.size g gs (adv sh v)) ∧ Aside0 (Blk w' ga ah1) ∧ Aside0 (Fr w2 w' g gs) ∧ Aside0 (Below W.heap.size W w'))
          case atStart => exact ⟨0, ah.set v 0, Nat.zero_le _, by omega, rfl, HI7, S7, A7, F7, B7⟩
          case round =>
            obtain ⟨a, ah1, ha, hgg1, rfl, HI, HS1, HA1, HF1, HB1⟩ := hrel
            by_cases hak : a < k
            · have hka : ((a : Int) < (k : Int)) = True := eq_true (by omega)
              have hkb : decide (a < k) = true := decide_eq_true hak
              have hkc : decide ((a : Int) < (k : Int)) = true := decide_eq_true (by omega)
              have HAK := Aside0.mk (show a < k ∧ a < 4 by have := HK.out; omega)
              have HAS := Aside0.mk (show a < sh.sc.length by rw [HLn.out]; exact hak)
              have hwa : wrap64 ((a : Int) + 1) = (a : Int) + 1 := wrap_lt HAK.out.2
              have hal1 := Aside0.mk (show a < ah1.length by rw [HI.out.1, hal.out]; exact hak)
              have y1 := HA1.out.cell a hal1.out
              have y2 := HA1.out.fz a
              have HV4 := Aside0.mk (show v < 4 by have := HK.out; have := HV.out; omega)
              have hsh := sh_small v HV4.out
              obtain ⟨ad3, e3, hx6⟩ := Kd.at_int (HCL.out wr HF1.out) m (by have := HLT.out; omega) (by have := HLT.out; omega)
              have hxm : wr.cell? (ad.add m) = some (.int .i64 v) := by
                injection e3 with e3
                rw [Int.toNat_natCast] at hx6
                rw [e3]
                have q := hx6
                rw [HU.out] at q
                exact q
              clear e3 hx6 hak ha
              obtain ⟨z, hz⟩ : ∃ z, bits .andNot .i64 (rd ah1 a) (2 ^ v : Int) = z := ⟨_, rfl⟩
              have hbo := Aside0.mk (bit_an (x := rd ah1 a) (HI.out.2.1 a HAS.out).1 (HI.out.2.1 a HAS.out).2 HV4.out)
              rw [hz] at hbo
              have A9 := Aside0.mk ((HA1.out.set a z).drew)
              have S9 := Aside0.mk ((HS1.out.set HA1.out a (.int .i64 z)).drew)
              have F9 := Aside0.mk ((HF1.out.set (Nat.le_of_eq HGA.out) a (.int .i64 z)).drew)
              have B9 := Aside0.mk ((HB1.out.setCell (p := ⟨ga, a, none⟩) WG.out (.int .i64 z)).drew)
              have HI2 := Aside0.mk (num_strike HI.out a hal1.out HV4.out (by rw [HLn.out]; exact HK.out.2) hbo.out)
              go_wp2
              go_region
              all_goals
                go_wp2
                go_roundg (k - (a + 1))
                case measure => have := HAK.out; omega
                case rel => exact ⟨a + 1, ah1.set a z, HAK.out.1, Nat.le_refl _, (by first | exact int_succ a | exact int_wsucc hwa), HI2, S9, A9, F9, B9⟩
            · have hka : ((a : Int) < (k : Int)) = False := eq_false (by omega)
              have hkb : decide (a < k) = false := decide_eq_false hak
              have hkc : decide ((a : Int) < (k : Int)) = false := decide_eq_false (by omega)
              have HN := Aside0.mk (num_step HBk.out HT.out HOr.out.1 HOr.out.2 v HVS.out HI.out.1 HI.out.2.1 HI.out.2.2 (fun h => absurd WAS.out h))
              clear hak ha hgg1
              go_wp2
              go_meet
              exact ⟨ah1, HN, HS1, HA1, HF1, HB1⟩
        · have cwb : (was == 1) = false := beq_eq_false_iff_ne.2 cw
          have HN := Aside0.mk (num_step HBk.out HT.out HOr.out.1 HOr.out.2 v HVS.out rfl HOr.out.1.rng (fun _ _ _ _ _ _ => rfl) (fun _ _ _ _ _ => rfl))
          clear cw
          go_wp2
          go_meet
          exact ⟨ah, HN, S5, A5, F5, B5⟩
      case rest =>
        obtain ⟨ah1, HN, HS1, HA1, HF1, HB1⟩ := hcut
        go_wp2
        go_loopg [12] k (fun gg v12 w' => ∃ (a : Nat) (ah2 : List Int), a ≤ k ∧ k - a ≤ gg ∧ v12 = .int .i64 a ∧ Aside0 (NumI (adv sh v) ah2 ∧ ∀ a' c' : Nat, a' < a → c' < k → Two (scAt (adv sh v) a').st → Two (scAt (adv sh v) c').st → hasb (rd ah2 a') c' = true) ∧ Aside0 (Shp w' W.heap.size g gs (adv sh v)) ∧ Aside0 (Blk w' ga ah2) ∧ Aside0 (Fr w2 w' g gs) ∧ Aside0 (Below W.heap.size W w'))
        case atStart => exact ⟨0, ah1, Nat.zero_le _, by omega, rfl, ⟨HN.out, fun a' _ h => absurd h (Nat.not_lt_zero _)⟩, HS1, HA1, HF1, HB1⟩
        case round =>
          clear HS1 HA1 HF1 HB1 HN
          obtain ⟨a, ah2, ha, hgg2, rfl, HNa, HS2, HA2, HF2, HB2'⟩ := hrel
          by_cases hak : a < k
          · have hka : ((a : Int) < (k : Int)) = True := eq_true (by omega)
            have hkb : decide (a < k) = true := decide_eq_true hak
            have hkc : decide ((a : Int) < (k : Int)) = true := decide_eq_true (by omega)
            have HAK := Aside0.mk (show a < k ∧ a < 4 by have := HK.out; omega)
            have hwa : wrap64 ((a : Int) + 1) = (a : Int) + 1 := wrap_lt HAK.out.2
            clear hak ha
            go_wp2
            go_loopg [13] k (fun gg v13 w' => ∃ (cc : Nat) (ah3 : List Int), cc ≤ k ∧ k - cc ≤ gg ∧ v13 = .int .i64 cc ∧ Aside0 (NumI (adv sh v) ah3 ∧ (∀ a' c' : Nat, a' < a → c' < k → Two (scAt (adv sh v) a').st → Two (scAt (adv sh v) c').st → hasb (rd ah3 a') c' = true) ∧ ∀ c' : Nat, c' < cc → Two (scAt (adv sh v) a).st → Two (scAt (adv sh v) c').st → hasb (rd ah3 a) c' = true) ∧ Aside0 (Shp w' W.heap.size g gs (adv sh v)) ∧ Aside0 (Blk w' ga ah3) ∧ Aside0 (Fr w2 w' g gs) ∧ Aside0 (Below W.heap.size W w'))
            case atStart => exact ⟨0, ah2, Nat.zero_le _, by omega, rfl, ⟨HNa.out.1, HNa.out.2, fun _ h => absurd h (Nat.not_lt_zero _)⟩, HS2, HA2, HF2, HB2'⟩
            case round =>
              clear HS2 HA2 HF2 HB2' HNa
              obtain ⟨cc, ah3, hc, hgg3, rfl, HNc, HS3, HA3, HF3, HB3⟩ := hrel
              by_cases hck : cc < k
              · have hcka : ((cc : Int) < (k : Int)) = True := eq_true (by omega)
                have hckb : decide (cc < k) = true := decide_eq_true hck
                have hckc : decide ((cc : Int) < (k : Int)) = true := decide_eq_true (by omega)
                have HCK := Aside0.mk (show cc < k ∧ cc < 4 by have := HK.out; omega)
                have hwc : wrap64 ((cc : Int) + 1) = (cc : Int) + 1 := wrap_lt HCK.out.2
                have HLA := Aside0.mk (show (adv sh v).sc.length = k by rw [adv_len, HLn.out])
                have HAA := Aside0.mk (show a < (adv sh v).sc.length by rw [HLA.out]; exact HAK.out.1)
                have HCA := Aside0.mk (show cc < (adv sh v).sc.length by rw [HLA.out]; exact hck)
                have hal3 := Aside0.mk (show ah3.length = k from HNc.out.1.len.trans HLA.out)
                have STA := Aside0.mk (Stage_calls wr W.heap.size g gs (adv sh v) HS3.out a)
                rw [stOf_nat HAA.out] at STA
                clear hck hc
                obtain ⟨p, hp⟩ : ∃ p, (scAt (adv sh v) a).st.num = p := ⟨_, rfl⟩
                obtain ⟨q, hq⟩ : ∃ q, (scAt (adv sh v) cc).st.num = q := ⟨_, rfl⟩
                rw [hp] at STA
                go_wp2_with (fail)
                with_reducible refine STA.out.mono ?_
                rintro e w8 ⟨rfl, hb8⟩
                have S8 := Aside0.mk (HS3.out.below hb8)
                have A8 := Aside0.mk (HA3.out.below hb8)
                have ZZ := Aside0.mk (show w2.heap.size ≤ wr.heap.size by have := HA3.out.lt; have := HGA.out; omega)
                have F8 := Aside0.mk (HF3.out.below hb8 ZZ.out)
                have B8 := Aside0.mk (HB3.out.trans (hb8.mono HB3.out.size))
                clear hb8
                have STC := Aside0.mk (Stage_calls w8 W.heap.size g gs (adv sh v) S8.out cc)
                rw [stOf_nat HCA.out, hq] at STC
                have HPQ := Aside0.mk (And.intro hp hq)
                clear hp hq
                go_wp2_with (fail)
                with_reducible refine STC.out.mono ?_
                rintro e w9 ⟨rfl, hb9⟩
                have S9 := Aside0.mk (S8.out.below hb9)
                have A9 := Aside0.mk (A8.out.below hb9)
                have ZZ8 := Aside0.mk (show w2.heap.size ≤ w8.heap.size by have := A8.out.lt; have := HGA.out; omega)
                have F9 := Aside0.mk (F8.out.below hb9 ZZ8.out)
                have B9 := Aside0.mk (B8.out.trans (hb9.mono B8.out.size))
                clear hb9
                have yr := Aside0.mk (HNc.out.1.rng a HAA.out)
                have yrc := Aside0.mk (HNc.out.1.rng cc HCA.out)
                by_cases hpq : (p = 2 ∨ p = 3) ∧ (q = 2 ∨ q = 3)
                · have y1 := A9.out.cell a (by rw [hal3.out]; exact HAK.out.1)
                  have y2 := A9.out.fz a
                  have hsh := sh_small cc HCK.out.2
                  obtain ⟨z, hz⟩ : ∃ z, bits .or .i64 (rd ah3 a) (2 ^ cc : Int) = z := ⟨_, rfl⟩
                  have hbo := Aside0.mk (bit_or yr.out.1 yr.out.2 HCK.out.2)
                  rw [hz] at hbo
                  have A10 := Aside0.mk ((A9.out.set a z).drew)
                  have S10 := Aside0.mk ((S9.out.set A9.out a (.int .i64 z)).drew)
                  have F10 := Aside0.mk ((F9.out.set (Nat.le_of_eq HGA.out) a (.int .i64 z)).drew)
                  have B10 := Aside0.mk ((B9.out.setCell (p := ⟨ga, a, none⟩) WG.out (.int .i64 z)).drew)
                  have HN10 := Aside0.mk (num_or HNc.out.1 HNc.out.2.1 HNc.out.2.2 HLA.out HK.out.2 HAK.out.1 HCK.out.1 hbo.out)
                  obtain ⟨hp2, hq2⟩ := hpq
                  clear hbo
                  by_cases hac : a = cc
                  · have hacb : ((a : Int) != (cc : Int)) = false := bne_eq_false_iff_eq.2 (by omega)
                    have hacc : (a = cc) = True := eq_true hac
                    clear hac
                    rcases hp2 with rfl | rfl <;> rcases hq2 with rfl | rfl
                    all_goals
                      go_wp2
                      go_region
                      all_goals
                        clear hsh y1 y2
                        go_wp2
                        go_roundg (k - (cc + 1))
                        case measure => have := HCK.out; omega
                        case rel => exact ⟨cc + 1, ah3.set a z, HCK.out.1, Nat.le_refl _, (by first | exact int_succ cc | exact int_wsucc hwc), HN10, S10, A10, F10, B10⟩
                  · have hacb : ((a : Int) != (cc : Int)) = true := bne_iff_ne.2 (by omega)
                    have hacc : (a = cc) = False := eq_false hac
                    clear hac
                    rcases hp2 with rfl | rfl <;> rcases hq2 with rfl | rfl
                    all_goals
                      go_wp2
                      go_region
                      all_goals
                        clear hsh y1 y2
                        go_wp2
                        go_roundg (k - (cc + 1))
                        case measure => have := HCK.out; omega
                        case rel => exact ⟨cc + 1, ah3.set a z, HCK.out.1, Nat.le_refl _, (by first | exact int_succ cc | exact int_wsucc hwc), HN10, S10, A10, F10, B10⟩
                · have HN9 := Aside0.mk (show NumI (adv sh v) ah3 ∧ (∀ a' c' : Nat, a' < a → c' < k → Two (scAt (adv sh v) a').st → Two (scAt (adv sh v) c').st → hasb (rd ah3 a') c' = true) ∧ ∀ c' : Nat, c' < cc + 1 → Two (scAt (adv sh v) a).st → Two (scAt (adv sh v) c').st → hasb (rd ah3 a) c' = true from ⟨HNc.out.1, HNc.out.2.1, fun c' h1 h2 h3 => by
                    by_cases e : c' = cc
                    · subst e
                      unfold Two at h2 h3
                      rw [HPQ.out.1] at h2
                      rw [HPQ.out.2] at h3
                      exact absurd ⟨h2, h3⟩ hpq
                    · exact HNc.out.2.2 c' (by omega) h2 h3⟩)
                  by_cases hp2 : p = 2 ∨ p = 3
                  · have hq2 : ¬ (q = 2 ∨ q = 3) := fun h => hpq ⟨hp2, h⟩
                    have q2 : (q == 2) = false := beq_eq_false_iff_ne.2 (fun e => hq2 (.inl e))
                    have q3 : (q == 3) = false := beq_eq_false_iff_ne.2 (fun e => hq2 (.inr e))
                    clear hpq hq2
                    by_cases hac : a = cc
                    · have hacb : ((a : Int) != (cc : Int)) = false := bne_eq_false_iff_eq.2 (by omega)
                      have hacc : (a = cc) = True := eq_true hac
                      clear hac
                      rcases hp2 with rfl | rfl
                      all_goals
                        go_wp2
                        go_roundg (k - (cc + 1))
                        case measure => have := HCK.out; omega
                        case rel => exact ⟨cc + 1, ah3, HCK.out.1, Nat.le_refl _, (by first | exact int_succ cc | exact int_wsucc hwc), HN9, S9, A9, F9, B9⟩
                    · have hacb : ((a : Int) != (cc : Int)) = true := bne_iff_ne.2 (by omega)
                      have hacc : (a = cc) = False := eq_false hac
                      clear hac
                      rcases hp2 with rfl | rfl
                      all_goals
                        go_wp2
                        go_roundg (k - (cc + 1))
                        case measure => have := HCK.out; omega
                        case rel => exact ⟨cc + 1, ah3, HCK.out.1, Nat.le_refl _, (by first | exact int_succ cc | exact int_wsucc hwc), HN9, S9, A9, F9, B9⟩
                  · have p2 : (p == 2) = false := beq_eq_false_iff_ne.2 (fun e => hp2 (.inl e))
                    have p3 : (p == 3) = false := beq_eq_false_iff_ne.2 (fun e => hp2 (.inr e))
                    clear hpq hp2
                    by_cases hac : a = cc
                    · have hacb : ((a : Int) != (cc : Int)) = false := bne_eq_false_iff_eq.2 (by omega)
                      have hacc : (a = cc) = True := eq_true hac
                      clear hac
                      go_wp2
                      go_roundg (k - (cc + 1))
                      case measure => have := HCK.out; omega
                      case rel => exact ⟨cc + 1, ah3, HCK.out.1, Nat.le_refl _, (by first | exact int_succ cc | exact int_wsucc hwc), HN9, S9, A9, F9, B9⟩
                    · have hacb : ((a : Int) != (cc : Int)) = true := bne_iff_ne.2 (by omega)
                      have hacc : (a = cc) = False := eq_false hac
                      have HAC := Aside0.mk hac
                      clear hac
                      by_cases p4 : 3 < p
                      · have p4b : decide (3 < p) = true := decide_eq_true p4
                        by_cases q4 : 3 < q
                        · have q4b : decide (3 < q) = true := decide_eq_true q4
                          have HPQ4 := Aside0.mk (And.intro p4 q4)
                          clear p4 q4
                          have NOA := Aside0.mk (Number_calls w9 W.heap.size g gs (adv sh v) S9.out a)
                          rw [noOf_nat HAA.out] at NOA
                          have NOC := Aside0.mk (Number_calls w9 W.heap.size g gs (adv sh v) S9.out cc)
                          rw [noOf_nat HCA.out] at NOC
                          have y1 := A9.out.cell a (by rw [hal3.out]; exact HAK.out.1)
                          have y3 := A9.out.cell cc (by rw [hal3.out]; exact HCK.out.1)
                          have hn1 := Aside0.mk (HNc.out.1.num a cc HAA.out HCA.out HAC.out)
                          rw [HPQ.out.1, HPQ.out.2] at hn1
                          generalize (scAt (adv sh v) a).no = na at *
                          generalize (scAt (adv sh v) cc).no = nc at *
                          go_wp2_with (fail)
                          with_reducible refine NOA.out.mono ?_
                          rintro e w' ⟨rfl, rfl⟩
                          go_wp2_with (fail)
                          with_reducible refine NOC.out.mono ?_
                          rintro e w' ⟨rfl, rfl⟩
                          by_cases hn : na = nc
                          · have hnb : (na == nc) = true := beq_iff_eq.2 hn
                            have hor := Aside0.mk (show hasb (rd ah3 a) cc = true ∨ hasb (rd ah3 cc) a = true from by
                              cases e1 : hasb (rd ah3 a) cc with
                              | true => exact .inl rfl
                              | false =>
                                cases e2 : hasb (rd ah3 cc) a with
                                | true => exact .inr rfl
                                | false => exact absurd hn (hn1.out ⟨e1, e2⟩ HPQ4.out.1 HPQ4.out.2))
                            have hba := bit_and yr.out.1 yr.out.2 HCK.out.2
                            have hbc := bit_and yrc.out.1 yrc.out.2 HAK.out.2
                            have hc64 : min cc 64 = cc := Nat.min_eq_left (by have := HCK.out; omega)
                            have ha64 : min a 64 = a := Nat.min_eq_left (by have := HAK.out; omega)
                            clear hn
                            cases e1 : hasb (rd ah3 a) cc with
                            | true =>
                              go_wp2
                              clear hba hbc hc64 ha64
                              go_roundg (k - (cc + 1))
                              case measure => have := HCK.out; omega
                              case rel => exact ⟨cc + 1, ah3, HCK.out.1, Nat.le_refl _, (by first | exact int_succ cc | exact int_wsucc hwc), HN9, S9, A9, F9, B9⟩
                            | false =>
                              have e2 : hasb (rd ah3 cc) a = true := by
                                rcases hor.out with h | h
                                · rw [e1] at h; exact absurd h (by decide)
                                · exact h
                              go_wp2
                              clear hba hbc hc64 ha64
                              go_roundg (k - (cc + 1))
                              case measure => have := HCK.out; omega
                              case rel => exact ⟨cc + 1, ah3, HCK.out.1, Nat.le_refl _, (by first | exact int_succ cc | exact int_wsucc hwc), HN9, S9, A9, F9, B9⟩
                          · have hnb : (na == nc) = false := beq_eq_false_iff_ne.2 hn
                            clear hn
                            go_wp2
                            go_roundg (k - (cc + 1))
                            case measure => have := HCK.out; omega
                            case rel => exact ⟨cc + 1, ah3, HCK.out.1, Nat.le_refl _, (by first | exact int_succ cc | exact int_wsucc hwc), HN9, S9, A9, F9, B9⟩
                        · have q4b : decide (3 < q) = false := decide_eq_false q4
                          clear p4 q4
                          go_wp2
                          go_roundg (k - (cc + 1))
                          case measure => have := HCK.out; omega
                          case rel => exact ⟨cc + 1, ah3, HCK.out.1, Nat.le_refl _, (by first | exact int_succ cc | exact int_wsucc hwc), HN9, S9, A9, F9, B9⟩
                      · have p4b : decide (3 < p) = false := decide_eq_false p4
                        clear p4
                        go_wp2
                        go_roundg (k - (cc + 1))
                        case measure => have := HCK.out; omega
                        case rel => exact ⟨cc + 1, ah3, HCK.out.1, Nat.le_refl _, (by first | exact int_succ cc | exact int_wsucc hwc), HN9, S9, A9, F9, B9⟩
              · have hka2 : ((cc : Int) < (k : Int)) = False := eq_false (by omega)
                have hkb2 : decide (cc < k) = false := decide_eq_false hck
                have hkc2 : decide ((cc : Int) < (k : Int)) = false := decide_eq_false (by omega)
                have HNn := Aside0.mk (show NumI (adv sh v) ah3 ∧ ∀ a' c' : Nat, a' < a + 1 → c' < k → Two (scAt (adv sh v) a').st → Two (scAt (adv sh v) c').st → hasb (rd ah3 a') c' = true from ⟨HNc.out.1, fun a' c' h1 h2 => by
                  by_cases e : a' = a
                  · subst e; exact HNc.out.2.2 c' (by omega)
                  · exact HNc.out.2.1 a' c' (by omega) h2⟩)
                clear hck hc hgg3
                go_wp2
                go_roundg (k - (a + 1))
                case measure => have := HAK.out; omega
                case rel => exact ⟨a + 1, ah3, HAK.out.1, Nat.le_refl _, (by first | exact int_succ a | exact int_wsucc hwa), HNn, HS3, HA3, HF3, HB3⟩
          · have hka : ((a : Int) < (k : Int)) = False := eq_false (by omega)
            have hkb : decide (a < k) = false := decide_eq_false hak
            have hkc : decide ((a : Int) < (k : Int)) = false := decide_eq_false (by omega)
            have HNT := Aside0.mk (show NumI (adv sh v) ah2 ∧ NumT (adv sh v) ah2 from ⟨HNa.out.1, fun a' c' h1 h2 => HNa.out.2 a' c' (by rw [adv_len, HLn.out] at h1; omega) (by rw [adv_len, HLn.out] at h2; omega)⟩)
            clear hak ha hgg2
            go_wp2
            go_roundg (l.length - (m + 1))
            case measure => have := HLT.out; omega
            case rel => exact ⟨m + 1, adv sh v, ah2, by have := HLT.out; omega, Nat.le_refl _, by go_num, HB2, HO3, ⟨(adv_len _ _).trans HLn.out⟩, HNT, HS2, HA2, HF2, HB2'⟩
    · have hltb : decide ((m : Int) < (l.length : Int)) = false := decide_eq_false (by omega)
      have hltc : decide (m < l.length) = false := decide_eq_false hlt
      clear hlt hm hgg
      go_wp2
      go_ret
      exact ⟨rfl, HB.out⟩
theorem Numbers_row (W : World) (n : Int) (hn : (Lit.int .u8 n).wf = true) (A : Option Addr) (c : Nat) (x : List Int) (hx : Kd.C (Kd.int .u8) W A x.length x) (hc : x.length ≤ c) (hg : x.length ≤ maxLen ∧ ∀ y ∈ x, (Lit.int .u8 y).wf = true) :
    Calls Try.prog 6 #[.int .u8 n, .slice A x.length c] W fun e w' => e = .returned (.bool true) ∧ Below W.heap.size W w' := by
  obtain ⟨h0, h1⟩ := u8_of hn
  exact Numbers_calls W n (n % 4 + 1).toNat h0 h1 (by omega) A c x hx (u8s_of hg)
end Go.Proofs.Ytjjnglngldfglaa.P
