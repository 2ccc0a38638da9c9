/- same of the laws: a shop is in the state of its model. -/
import Derived.Test.YtjjnglngldfglaaQS
import Derived.Test.YtjjnglngldfglaaPF41
import Derived.Test.YtjjnglngldfglaaPF25
import Derived.Deep.RegionWith
import Derived.Deep.DeepCutAuto
import Derived.Deep.RegionHeld3
namespace Go.Proofs.Ytjjnglngldfglaa.P
set_option linter.unusedVariables false
open Go Go.RowKit Go.Proofs.YtjjnglngldfglaaW.PrintWords Go.Proofs.YtjjnglngldfglaaW.PrintLast Go.Proofs.YtjjnglngldfglaaW.PrintMore

theorem errI_natN {sh : Sh} {k : Nat} (hk : k < sh.sc.length) : errI sh k = 0 := by unfold errI; rw [if_neg (by omega), if_neg (by omega)]
theorem stOf_natN {sh : Sh} {k : Nat} (hk : k < sh.sc.length) : stOf sh k = (scAt sh k).st.num := by unfold stOf; rw [if_pos (errI_natN hk)]
theorem noOf_natN {sh : Sh} {k : Nat} (hk : k < sh.sc.length) : noOf sh k = (scAt sh k).no := by unfold noOf; rw [if_pos (errI_natN hk)]
theorem before_sameN (l : List Int) (hl : l.length ≤ 4) : woggleref01_Before.f 20 l l = some false := by
  obtain rfl | ⟨a, rfl⟩ | ⟨a, b, rfl⟩ | ⟨a, b, c, rfl⟩ | ⟨a, b, c, d, rfl⟩ : l = [] ∨ (∃ a, l = [a]) ∨ (∃ a b, l = [a, b]) ∨ (∃ a b c, l = [a, b, c]) ∨ (∃ a b c d, l = [a, b, c, d]) := by
    match l, hl with
    | [], _ => exact .inl rfl
    | [a], _ => exact .inr (.inl ⟨a, rfl⟩)
    | [a, b], _ => exact .inr (.inr (.inl ⟨a, b, rfl⟩))
    | [a, b, c], _ => exact .inr (.inr (.inr (.inl ⟨a, b, c, rfl⟩)))
    | [a, b, c, d], _ => exact .inr (.inr (.inr (.inr ⟨a, b, c, d, rfl⟩)))
    | _ :: _ :: _ :: _ :: _ :: _, h => simp at h
  all_goals simp [woggleref01_Before.f, woggleref01_Before.l0, woggleref01_Before.j1, rd, wrap64]
theorem same_sameN (l : List Int) (hl : l.length ≤ 4) : woggleref01_Same.f 20 l l = some true := by
  unfold woggleref01_Same.f
  simp [before_sameN l hl]
/-- The model shows the shop. -/
structure Sim (sh : Sh) (ml : List S54) (tk : Int) : Prop where
  len : ml.length = sh.sc.length
  tk : tk = sh.tk
  st : ∀ i : Nat, i < sh.sc.length → (rd_T54 ml i).f2 = (scAt sh i).st.num ∧ (rd_T54 ml i).f1 = (scAt sh i).no ∧ (rd_T54 ml i).f0 = (scAt sh i).ch
theorem int_succQ (a : Nat) : Value.int .i64 ((a : Int) + 1) = Value.int .i64 ((a + 1 : Nat) : Int) := rfl
theorem int_wsuccQ {a : Nat} (h : wrap64 ((a : Int) + 1) = (a : Int) + 1) : Value.int .i64 (wrap64 ((a : Int) + 1)) = Value.int .i64 ((a + 1 : Nat) : Int) := by rw [h]; rfl
theorem num_inside (s : St) : s.isInside = true ↔ s.num = 7 := by cases s <;> simp [St.isInside, St.num]
theorem ref_inside {sh : Sh} {ml : List S54} {tk : Int} (h : Sim sh ml tk) (h4 : sh.sc.length ≤ 4) (cl : Bool) (t : Int) : woggleref10_Shop_Inside.f 20 ml cl t = some (insL sh) := by
  have go : ∀ d m : Nat, m + d = sh.sc.length → ∀ k, d < k → woggleref10_Shop_Inside.l0 k (insTo sh m) m ml cl t = some (insL sh) := by
    intro d
    induction d with
    | zero =>
      intro m hm k hk
      obtain ⟨k, rfl⟩ : ∃ q, k = q + 1 := ⟨k - 1, by omega⟩
      simp only [woggleref10_Shop_Inside.l0]
      rw [if_neg (by rw [h.len]; omega)]
      unfold insL
      rw [show m = sh.sc.length by omega]
    | succ d ih =>
      intro m hm k hk
      obtain ⟨k, rfl⟩ : ∃ q, k = q + 1 := ⟨k - 1, by omega⟩
      have hlen := insTo_len sh m
      simp only [woggleref10_Shop_Inside.l0]
      rw [if_pos (by rw [h.len]; omega), if_pos (by omega)]
      have hs := (h.st m (by omega)).1
      have ew : wrap64 ((m : Int) + 1) = ((m + 1 : Nat) : Int) := by rw [wrap_few m (by omega) (by omega)]; rfl
      rw [ew]
      by_cases c : (scAt sh m).st.isInside = true
      · rw [if_pos (by rw [hs]; exact (num_inside _).1 c), if_pos (by omega)]
        rw [← show insTo sh (m + 1) = insTo sh m ++ [(m : Int)] from if_pos c]
        exact ih (m + 1) (by omega) k (by omega)
      · rw [if_neg (by rw [hs]; exact fun e => c ((num_inside _).2 e))]
        rw [← show insTo sh (m + 1) = insTo sh m from if_neg c]
        exact ih (m + 1) (by omega) k (by omega)
  exact go sh.sc.length 0 (by omega) 20 (by omega)
set_option maxRecDepth 100000 in
set_option maxHeartbeats 1600000 in
theorem same_calls (W : World) (b g gs : Nat) (sh : Sh) (h : Shp W b g gs sh) (A : Option Addr) (c : Nat) (ml : List S54) (cl : Bool) (tk : Int) (hm : Kd.C k54 W A ml.length ml) (hc : ml.length ≤ c) (hs : Sim sh ml tk) :
    Calls Try.prog 24 #[.pointer (some ⟨g, 0, none⟩), .agg #[.slice A ml.length c, .bool cl, .int .i64 tk]] W fun e w' => e = .returned (.bool true) ∧ Below W.heap.size W w' := by
  obtain rfl : tk = sh.tk := hs.tk
  obtain ⟨w1, hw1⟩ : ∃ w1, W.alloc (.cells #[.slice A ml.length c, .bool cl, .int .i64 sh.tk] 46) = w1 := ⟨_, rfl⟩
  have B1 := Aside0.mk (show Below W.heap.size W w1 by rw [← hw1]; exact below_alloc (Below.refl _ _) _)
  have P1 := Aside0.mk (show w1.heap[W.heap.size]? = some (.cells #[.slice A ml.length c, .bool cl, .int .i64 sh.tk] 46 (0, 0)) by rw [← hw1]; exact alloc_at _ _)
  have Z1 := Aside0.mk (show W.heap.size < w1.heap.size by rw [← hw1]; simp)
  have S1 := Aside0.mk (h.below B1.out)
  have M1 := Aside0.mk (Kd.C_below hm B1.out)
  have HS := Aside0.mk hs
  have HC := Aside0.mk hc
  have F4 := Aside0.mk h.few
  have H41 := Aside0.mk (fun (w : World) (hb : Below w1.heap.size w1 w) => woggleref10_Shop_Inside.calls 20 A c ml cl sh.tk (insL sh) w (Kd.C_below M1.out hb) HC.out (ref_inside HS.out F4.out cl sh.tk))
  have H16 := Aside0.mk (fun (w : World) (hb : Below w1.heap.size w1 w) => Inside_calls w b g gs sh (S1.out.below hb))
  have y0 : w1.cell? ⟨W.heap.size, 0, none⟩ = some (.slice A ml.length c) := by have := P1.out; simp [World.cell?, this]
  have y1 : w1.cell? ⟨W.heap.size, 1, none⟩ = some (.bool cl) := by have := P1.out; simp [World.cell?, this]
  have y2 : w1.cell? ⟨W.heap.size, 2, none⟩ = some (.int .i64 sh.tk) := by have := P1.out; simp [World.cell?, this]
  clear h hm hs hc
  go_enter Try.func24, Try.ntmps24
  go_upto_region 1 with (fail)
  clear hw1
  go_cut [20] (fun s20 wx => s20 = .bool false ∧ Aside0 (Below w1.heap.size w1 wx))
  case first =>
    go_region_with (first
      | (go_at_call 16; refine (H16.out _ ?_).mono ?_; (first | exact HB41.out | exact below_drew1 (Below.refl _ _)); rintro e w16 ⟨v, rfl, hR, hb⟩; obtain ⟨A5, c5, rfl, hc5, hC5⟩ := Kd.R_reads hR; have HC5 := Aside0.mk hC5; have Hc5 := Aside0.mk hc5; have HB16 := Aside0.mk (show Below w1.heap.size w1 w16 by first | exact HB41.out.trans (hb.mono HB41.out.size) | exact (below_drew1 (Below.refl _ _)).trans hb); have Hb16 := Aside0.mk hb; have z0 := (HB16.out.cell (p := ⟨W.heap.size, 0, none⟩) Z1.out).trans y0; have z1 := (HB16.out.cell (p := ⟨W.heap.size, 1, none⟩) Z1.out).trans y1; have z2 := (HB16.out.cell (p := ⟨W.heap.size, 2, none⟩) Z1.out).trans y2; clear hR hb hc5 hC5)
      | (go_at_call 41; refine (H41.out _ ?_).mono ?_; (first | exact HB16.out | exact below_drew1 (Below.refl _ _)); rintro e w41 ⟨v, rfl, hR, hb⟩; obtain ⟨A6, c6, rfl, hc6, hC6⟩ := Kd.R_reads hR; have HC6 := Aside0.mk hC6; have Hc6 := Aside0.mk hc6; have HB41 := Aside0.mk (show Below w1.heap.size w1 w41 by first | exact HB16.out.trans (hb.mono HB16.out.size) | exact (below_drew1 (Below.refl _ _)).trans hb); have Hb41 := Aside0.mk hb; clear hR hb hc6 hC6)
      | (go_at_call 23; refine (woggleref01_Same.calls 20 A5 c5 (insL sh) A6 c6 (insL sh) true _ ?_ Hc5.out ?_ Hc6.out (same_sameN _ (Nat.le_trans (insTo_len _ _) F4.out))).mono ?_; (first | exact HC5.out | exact Kd.C_below HC5.out Hb41.out); (first | exact HC6.out | exact Kd.C_below HC6.out Hb16.out); rintro e w23 ⟨rfl, hd⟩; have HB23 := Aside0.mk (show Below w1.heap.size w1 w23 by first | exact HB16.out.trans (hd.below.mono HB16.out.size) | exact HB41.out.trans (hd.below.mono HB41.out.size)); have z3 := (HB23.out.cell (p := ⟨W.heap.size, 2, none⟩) Z1.out).trans y2; clear hd)
      | (go_at_call 22; refine (Taken_calls _ b g gs sh (S1.out.below HB23.out)).mono ?_; rintro e w22 ⟨rfl, rfl⟩))
    all_goals
      go_wp2
      go_meet
      exact ⟨rfl, HB23⟩
  case rest =>
    obtain ⟨rfl, HB2⟩ := hcut
    go_wp2
    go_loopg [5] ml.length (fun gg v5 w' => ∃ m : Nat, m ≤ ml.length ∧ ml.length - m ≤ gg ∧ v5 = .int .i64 m ∧ Aside0 (Below w1.heap.size w1 w'))
    case atStart => exact ⟨0, Nat.zero_le _, by omega, rfl, HB2⟩
    case round =>
      obtain ⟨m, hm, hgg, rfl, HB⟩ := hrel
      have z0 := (HB.out.cell (p := ⟨W.heap.size, 0, none⟩) Z1.out).trans y0
      by_cases hlt : m < ml.length
      · have hltb : decide ((m : Int) < (ml.length : Int)) = true := decide_eq_true (by omega)
        have hltc : decide (m < ml.length) = true := decide_eq_true hlt
        have hltz : ((m : Int) < (ml.length : Int)) = True := eq_true (by omega)
        have HM := Aside0.mk (show m < sh.sc.length by rw [← HS.out.len]; exact hlt)
        have HLT := Aside0.mk hlt
        have hwm : wrap64 ((m : Int) + 1) = (m : Int) + 1 := wrap_few m (by omega) (by have := HM.out; have := F4.out; omega)
        obtain ⟨ad, e1, x0, x1, x2, x3, x4⟩ := at_T54 (Kd.C_below M1.out HB.out) (m : Int) (by omega) (by omega)
        cases e1
        obtain ⟨s2, s1, s0⟩ := HS.out.st m HM.out
        rw [Int.toNat_natCast] at x0 x1 x2 x3 x4
        rw [s0] at x0
        rw [s1] at x1
        rw [s2] at x2
        have H17 := Aside0.mk (fun (w : World) (hb : Below w1.heap.size w1 w) => Stage_calls w b g gs sh (S1.out.below hb) m)
        rw [stOf_natN HM.out] at H17
        have H20 := Aside0.mk (fun (w : World) (hb : Below w1.heap.size w1 w) => Number_calls w b g gs sh (S1.out.below hb) m)
        rw [noOf_natN HM.out] at H20
        have H32 := Aside0.mk (fun (w : World) (hb : Below w1.heap.size w1 w) => Choosing_calls w b g gs sh (S1.out.below hb) m)
        rw [show chOf sh m = (scAt sh m).ch from by unfold chOf; rw [if_pos (errI_natN HM.out)]] at H32
        generalize (scAt sh m).st.num = nn at *
        generalize (scAt sh m).no = no at *
        generalize (scAt sh m).ch = ch at *
        generalize (rd_T54 ml m).f3 = f3 at *
        generalize (rd_T54 ml m).f4 = f4 at *
        obtain ⟨w5, hw5⟩ : ∃ w5, wr.alloc (.cells #[.bool ch, .int .i64 no, .int .i64 nn, .int .i64 f3, .int .i64 f4] 54) = w5 := ⟨_, rfl⟩
        obtain ⟨xb, hxb⟩ : ∃ xb, wr.heap.size = xb := ⟨_, rfl⟩
        have HB5 := Aside0.mk (show Below w1.heap.size w1 w5 by rw [← hw5]; exact below_alloc HB.out _)
        have HX5 := Aside0.mk (show w5.heap[xb]? = some (.cells #[.bool ch, .int .i64 no, .int .i64 nn, .int .i64 f3, .int .i64 f4] 54 (0, 0)) by rw [← hw5, ← hxb]; exact alloc_at _ _)
        have HZ5 := Aside0.mk (Array.getElem?_eq_some_iff.1 HX5.out).1
        have v0 : w5.cell? ⟨xb, 0, none⟩ = some (.bool ch) := by have := HX5.out; simp [World.cell?, this]
        have v1 : w5.cell? ⟨xb, 1, none⟩ = some (.int .i64 no) := by have := HX5.out; simp [World.cell?, this]
        have v2 : w5.cell? ⟨xb, 2, none⟩ = some (.int .i64 nn) := by have := HX5.out; simp [World.cell?, this]
        clear hlt hm s0 s1 s2
        go_upto_region 7 with (fail)
        clear hw5 hxb x0 x1 x2 x3 x4 z0
        go_cut [54] (fun s54 wx => s54 = .bool false ∧ Aside0 (Below w1.heap.size w1 wx))
        case first =>
          go_region_held3 (fun w' => w'.cell? ⟨xb, 0, none⟩ = some (.bool ch) ∧ w'.cell? ⟨xb, 1, none⟩ = some (.int .i64 no) ∧ w'.cell? ⟨xb, 2, none⟩ = some (.int .i64 nn) ∧ Aside0 (Below w1.heap.size w1 w')) (first | exact ⟨u0, u1, u2, HB17⟩ | exact ⟨v0, v1, v2, ⟨below_drew1 HB5.out⟩⟩ | assumption)
            (first
            | (go_at_call 17; refine (H17.out _ ?_).mono ?_; exact below_drew1 HB5.out; rintro e w17 ⟨rfl, hb⟩; have HB17 := Aside0.mk (show Below w1.heap.size w1 w17 from (below_drew1 HB5.out).trans (hb.mono HB5.out.size)); have u0 := (hb.cell (p := ⟨xb, 0, none⟩) HZ5.out).trans v0; have u1 := (hb.cell (p := ⟨xb, 1, none⟩) HZ5.out).trans v1; have u2 := (hb.cell (p := ⟨xb, 2, none⟩) HZ5.out).trans v2; clear hb)
            | (go_at_call 20; refine (H20.out _ HB17.out).mono ?_; rintro e w' ⟨rfl, rfl⟩)
            | (go_at_call 32; refine (H32.out _ HB17.out).mono ?_; rintro e w' ⟨rfl, rfl⟩))
          all_goals
            go_wp2
            go_meet
            exact ⟨rfl, HB17⟩
        case rest =>
          obtain ⟨rfl, HB6⟩ := hcut
          go_wp2
          go_roundg (ml.length - (m + 1))
          case measure => have := HLT.out; omega
          case rel => exact ⟨m + 1, HLT.out, Nat.le_refl _, (by first | exact int_succQ m | exact int_wsuccQ hwm), HB6⟩
      · have hltb : decide ((m : Int) < (ml.length : Int)) = false := decide_eq_false (by omega)
        have hltc : decide (m < ml.length) = false := decide_eq_false hlt
        have HE := Aside0.mk (show m = sh.sc.length by rw [← HS.out.len]; omega)
        have hlm := Aside0.mk (show stOf sh (-1) = -1 ∧ noOf sh (-1) = -1 ∧ chOf sh (-1) = false from ⟨rfl, rfl, rfl⟩)
        have he1 : errI sh (ml.length : Int) = 1 := by unfold errI; rw [if_neg (by omega), if_pos (by rw [HS.out.len]; omega)]
        have hln := Aside0.mk (show stOf sh (ml.length : Int) = -1 ∧ noOf sh (ml.length : Int) = -1 ∧ chOf sh (ml.length : Int) = false from ⟨by unfold stOf; rw [if_neg (by rw [he1]; decide)], by unfold noOf; rw [if_neg (by rw [he1]; decide)], by unfold chOf; rw [if_neg (by rw [he1]; decide)]⟩)
        clear hlt hm hgg he1
        go_wp2_with (fail)
        with_reducible refine (Stage_calls wr b g gs sh (S1.out.below HB.out) (-1)).mono ?_
        rintro e w7 ⟨rfl, hb⟩
        rw [hlm.out.1]
        have HB7 := Aside0.mk (HB.out.trans (hb.mono HB.out.size))
        clear hb z0
        go_wp2_with (fail)
        with_reducible refine (Number_calls w7 b g gs sh (S1.out.below HB7.out) (-1)).mono ?_
        rintro e w' ⟨rfl, rfl⟩
        rw [hlm.out.2.1]
        go_wp2_with (fail)
        with_reducible refine (Choosing_calls w7 b g gs sh (S1.out.below HB7.out) (-1)).mono ?_
        rintro e w' ⟨rfl, rfl⟩
        rw [hlm.out.2.2]
        go_wp2_with (fail)
        with_reducible refine (Stage_calls w7 b g gs sh (S1.out.below HB7.out) (ml.length : Int)).mono ?_
        rintro e w8 ⟨rfl, hb⟩
        rw [hln.out.1]
        have HB8 := Aside0.mk (HB7.out.trans (hb.mono HB7.out.size))
        clear hb
        go_wp2_with (fail)
        with_reducible refine (Number_calls w8 b g gs sh (S1.out.below HB8.out) (ml.length : Int)).mono ?_
        rintro e w' ⟨rfl, rfl⟩
        rw [hln.out.2.1]
        go_wp2_with (fail)
        with_reducible refine (Choosing_calls w8 b g gs sh (S1.out.below HB8.out) (ml.length : Int)).mono ?_
        rintro e w' ⟨rfl, rfl⟩
        rw [hln.out.2.2]
        go_wp2
        go_ret
        exact ⟨rfl, B1.out.trans (HB8.out.mono B1.out.size)⟩
end Go.Proofs.Ytjjnglngldfglaa.P
