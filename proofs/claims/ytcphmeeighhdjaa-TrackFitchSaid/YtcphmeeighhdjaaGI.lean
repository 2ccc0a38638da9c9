/- The contract of Label. -/
import Derived.Test.YtcphmeeighhdjaaGH
import Derived.Outline
namespace Go.Proofs.Ytcphmeeighhdjaa.P
set_option linter.unusedVariables false
open Go Go.RowKit Go.Proofs.YtcphmeeighhdjaaW.PrintWords Go.Proofs.YtcphmeeighhdjaaW.PrintLast Go.Proofs.YtcphmeeighhdjaaW.PrintMore

/-- The states of join q are tried from s on, d of them. -/
def lab1 (k : Nat) (C : List (List Int)) (J : List S67) (L : List Int) (best : Int) (q : Nat) : List Int → Nat → Nat → List Int
  | F, _, 0 => F
  | F, s, d + 1 => if (leastOf k C (F.set q s) J L).1 = best then F.set q s else lab1 k C J L best q (F.set q s) (s + 1) d
/-- d joins from q on get their states. -/
def labAll (k : Nat) (C : List (List Int)) (J : List S67) (L : List Int) (best : Int) : List Int → Nat → Nat → List Int
  | F, _, 0 => F
  | F, q, d + 1 => labAll k C J L best (lab1 k C J L best q F 0 k) (q + 1) d
theorem lab1_length (k : Nat) (C : List (List Int)) (J : List S67) (L : List Int) (best : Int) (q d : Nat) : ∀ F s, (lab1 k C J L best q F s d).length = F.length := by
  induction d with
  | zero => intro F s; rfl
  | succ d ih =>
    intro F s
    unfold lab1
    split
    · exact List.length_set
    · rw [ih, List.length_set]
/-- What Label answers, and its error. -/
def track_Label.f (k : Nat) (n : Int) (J : List S67) (C : List (List Int)) (L : List Int) : Option (List Int × Int) :=
  (readErr k n J C L).bind fun x => if x = 0 then some (labAll C.length C J L (leastOf C.length C (none_ J) J L).1 (none_ J) 0 J.length, 0) else some ([], x)
theorem track_Label.mono : ∀ n J C L k, LeO (track_Label.f k n J C L) (track_Label.f (k + 1) n J C L) := by
  intro n J C L k
  unfold track_Label.f
  exact LeO.bind (readErr_mono _ _ _ _ _) (fun _ => LeO.refl _)
/-- least, as its row stands. -/
theorem least_at {n : Int} {J : List S67} {C : List (List Int)} {L : List Int} (g : Good n J C L) (w : World) (G : Nat) (AJ : Option Addr) (cJ : Nat) (AL : Option Addr) (cL : Nat) (B : Nat) (AC : Option Addr) (cC : Nat) (b q : Nat) (F : List Int)
    (hp : Prob w G n AJ cJ J AL cL L C.length B AC cC C) (hB : Blk w b q (ints F)) (hF : F.length = J.length) :
      Calls Try.prog 57 #[.pointer (some ⟨G, 0, none⟩), .slice (some ⟨q, 0, none⟩) J.length J.length] w fun e2 w2 => e2 = .returned (.tuple #[.int .i64 (leastOf C.length C F J L).1, .int .i64 (leastOf C.length C F J L).2]) ∧ Below w.heap.size w w2 := by
  have hr := (Kd.R_reads' (hB.R (by have := g.j7; omega))).2.2
  have := least_calls w G n AJ cJ J AL cL L C.length B AC cC C hp g.hk g.hL (some ⟨q, 0, none⟩) J.length F hr hF g.hC g.hJ g.pos
  rw [hF] at this
  exact this
/-- free, and what it leaves. -/
theorem free_at {n : Int} {J : List S67} {C : List (List Int)} {L : List Int} (g : Good n J C L) (w : World) (G : Nat) (AJ : Option Addr) (cJ : Nat) (AL : Option Addr) (cL : Nat) (B : Nat) (AC : Option Addr) (cC : Nat)
    (hp : Prob w G n AJ cJ J AL cL L C.length B AC cC C) : Calls Try.prog 56 #[.pointer (some ⟨G, 0, none⟩)] w fun e w' => ∃ q, e = .returned (.slice (some ⟨q, 0, none⟩) J.length J.length) ∧ Blk w' w.heap.size q (ints (none_ J)) ∧ Below w.heap.size w w' := by
  have hp' := hp
  rw [g.nJ] at hp'
  exact free_calls w G J.length AJ cJ J AL cL L C.length B AC cC C hp' (by have := g.j7; omega)
set_option maxRecDepth 100000 in
set_option maxHeartbeats 8000000 in
theorem track_Label.calls (k : Nat) (a0 : Int) (A1 : Option Addr) (c1 : Nat) (l1 : List S67) (A2 : Option Addr) (c2 : Nat) (l2 : List (List Int)) (A3 : Option Addr) (c3 : Nat) (l3 : List Int) (r1 : List Int) (r2 : Int) (w : World)
    (hr1 : Kd.C k67 w A1 l1.length l1) (hc1 : l1.length ≤ c1) (hr2 : Kd.C (Kd.slice 3 (Kd.int .i64)) w A2 l2.length l2) (hc2 : l2.length ≤ c2) (hr3 : Kd.C (Kd.int .i64) w A3 l3.length l3) (hc3 : l3.length ≤ c3) (h : track_Label.f k a0 l1 l2 l3 = some (r1, r2)) :
    Calls Try.prog 27 #[.int .i64 a0, .slice A1 l1.length c1, .slice A2 l2.length c2, .slice A3 l3.length c3] w fun e w' => ∃ v0_ : Value, e = .returned (.tuple #[v0_, .int .i64 r2]) ∧ Kd.R (Kd.int .i64) 3 w' w.heap.size (fun _ => True) v0_ r1 ∧ Below w.heap.size w w' := by
  unfold track_Label.f at h
  obtain ⟨x, hx, h⟩ := Option.bind_eq_some_iff.mp h
  have HR := Aside0.mk (read_calls k a0 A1 c1 l1 A2 c2 l2 A3 c3 l3 x w hr1 hc1 hr2 hc2 hr3 hc3 hx)
  by_cases x0 : x = 0
  · subst x0
    have g := read_zero hx
    rw [if_pos rfl] at h
    obtain ⟨h1, rfl⟩ : labAll l2.length l2 l1 l3 (leastOf l2.length l2 (none_ l1) l1 l3).1 (none_ l1) 0 l1.length = r1 ∧ (0 : Int) = r2 := by simpa using h
    obtain ⟨res, hres⟩ : ∃ res, leastOf l2.length l2 (none_ l1) l1 l3 = res := ⟨_, rfl⟩
    rw [hres] at h1
    obtain ⟨K, hK⟩ : ∃ K, l2.length = K := ⟨_, rfl⟩
    obtain ⟨M, hM⟩ : ∃ M, l1.length = M := ⟨_, rfl⟩
    rw [hK, hM] at h1
    have HH := Aside0.mk h1
    have HG := Aside0.mk (And.intro (show K ≤ 4 by have := g.k4; omega) (show M ≤ 7 by have := g.j7; omega))
    have HM := Aside0.mk hM
    have HKK := Aside0.mk hK
    have HF := Aside0.mk (fun (w : World) (G : Nat) (AJ : Option Addr) (cJ : Nat) (AL : Option Addr) (cL : Nat) (B : Nat) (AC : Option Addr) (cC : Nat) hp => free_at g w G AJ cJ AL cL B AC cC hp)
    have HL := Aside0.mk (fun (w : World) (G : Nat) (AJ : Option Addr) (cJ : Nat) (AL : Option Addr) (cL : Nat) (B : Nat) (AC : Option Addr) (cC : Nat) (b q : Nat) (F : List Int) hp hB hF => least_at g w G AJ cJ AL cL B AC cC b q F hp hB hF)
    have HL0 := Aside0.mk (fun (w : World) (G : Nat) (AJ : Option Addr) (cJ : Nat) (AL : Option Addr) (cL : Nat) (B : Nat) (AC : Option Addr) (cC : Nat) (b q : Nat) hp hB => least_at g w G AJ cJ AL cL B AC cC b q (none_ l1) hp hB List.length_replicate)
    rw [hres] at HL0
    rw [hM] at HF HL HL0
    rw [hK] at HL HF HL0
    clear hx h hr1 hc1 hr2 hc2 hr3 hc3 g h1 hres hK hM
    go_enter Try.func27, Try.ntmps27
    go_wp2_with (fail)
    with_reducible refine HR.out.mono ?_
    rintro e w1 ⟨A, rfl, hb1, hz⟩
    obtain ⟨G, rfl, hp⟩ := (by first | exact hz trivial | exact hz rfl)
    rw [HKK.out] at hp
    have HP := Aside0.mk (And.intro hb1 hp)
    clear hb1 hz hp HR
    go_wp2_with (fail)
    with_reducible refine (HF.out w1 G _ _ _ _ _ _ _ HP.out.2).mono ?_
    rintro e w2 ⟨q, rfl, hq, hb2⟩
    have HQ := Aside0.mk hq
    have HB2 := Aside0.mk hb2
    clear hq hb2 HF
    go_wp2_with (fail)
    with_reducible refine (HL0.out w2 G _ _ _ _ _ _ _ _ q (HP.out.2.below HB2.out) HQ.out).mono ?_
    rintro e w3 ⟨rfl, hb3⟩
    have HQ3 := Aside0.mk (HQ.out.below hb3)
    have HB3 := Aside0.mk (HB2.out.trans (hb3.mono HB2.out.size))
    clear hb3 HQ HB2 HL0
    go_wp2_with (fail)
    go_loopg [40] M (fun gg v40 w' => ∃ (m : Nat) (F : List Int), m ≤ M ∧ M - m ≤ gg ∧ v40 = .int .i64 m ∧ Aside0 (labAll K l2 l1 l3 res.1 F m (M - m) = r1) ∧ Aside0 (F.length = M) ∧ Aside0 (Blk w' w1.heap.size q (ints F)) ∧ Aside0 (Below w1.heap.size w1 w'))
    case atStart => exact ⟨0, none_ l1, Nat.zero_le _, by omega, rfl, HH, ⟨by unfold none_; rw [List.length_replicate]; exact HM.out⟩, HQ3, HB3⟩
    case round =>
      clear HH HQ3 HB3
      obtain ⟨m, F, hm, hgg, rfl, HA, HFL, HQm, HBm⟩ := hrel
      by_cases hlt : m < M
      · have hltb : decide ((m : Int) < (M : Int)) = true := decide_eq_true (by omega)
        have hltc : decide (m < M) = true := decide_eq_true hlt
        have hltz : ((m : Int) < (M : Int)) = True := eq_true (by omega)
        have HLT := Aside0.mk (And.intro hlt hgg)
        have z3 := (HP.out.2.below HBm.out).c3
        have HN := Aside0.mk (show labAll K l2 l1 l3 res.1 (lab1 K l2 l1 l3 res.1 m F 0 K) (m + 1) (M - (m + 1)) = r1 by
          have := HA.out
          rw [show M - m = (M - (m + 1)) + 1 by omega] at this
          exact this)
        obtain ⟨FN, hFN⟩ : ∃ FN, lab1 K l2 l1 l3 res.1 m F 0 K = FN := ⟨_, rfl⟩
        have HFN := Aside0.mk hFN
        have HLN := Aside0.mk (show FN.length = M by rw [← hFN, lab1_length]; exact HFL.out)
        have HN2 := Aside0.mk (hFN ▸ HN.out)
        clear hm hgg hlt HA hFN HN
        go_wp2_with (fail)
        go_loopg [47] K (fun gg v47 w' => ∃ (s : Nat) (F2 : List Int), s ≤ K ∧ K - s ≤ gg ∧ v47 = .int .i64 s ∧ Aside0 (lab1 K l2 l1 l3 res.1 m F2 s (K - s) = FN) ∧ Aside0 (F2.length = M) ∧ Aside0 (Blk w' w1.heap.size q (ints F2)) ∧ Aside0 (Below w1.heap.size w1 w'))
        case atStart => exact ⟨0, F, Nat.zero_le _, by omega, rfl, HFN, HFL, HQm, HBm⟩
        case round =>
          clear HFN HFL HQm HBm z3
          obtain ⟨s, F2, hs, hgg2, rfl, HA2, HFL2, HQ2, HBs⟩ := hrel
          by_cases hlt2 : s < K
          · have hltb2 : decide ((s : Int) < (K : Int)) = true := decide_eq_true (by omega)
            have hltc2 : decide (s < K) = true := decide_eq_true hlt2
            have hltz2 : ((s : Int) < (K : Int)) = True := eq_true (by omega)
            have HLT2 := Aside0.mk (And.intro hlt2 hgg2)
            have HN3 := Aside0.mk (show (if (leastOf K l2 (F2.set m s) l1 l3).1 = res.1 then F2.set m s else lab1 K l2 l1 l3 res.1 m (F2.set m s) (s + 1) (K - (s + 1))) = FN by
              have := HA2.out
              rw [show K - s = (K - (s + 1)) + 1 by omega] at this
              exact this)
            have c_ := HQ2.out.at m (by rw [HFL2.out]; exact HLT.out.1)
            have f_ := HQ2.out.frozen m
            have HLT3 := Aside0.mk hltb
            clear hs hgg2 hlt2 HA2
            have HQ4 := Aside0.mk (HQ2.out.put m (s : Int))
            have HB4 := Aside0.mk (below_set (g := q) (j := m) (v := .int .i64 (s : Int)) HBs.out HQ2.out.2)
            have HFL4 := Aside0.mk (show (F2.set m (s : Int)).length = M by rw [List.length_set]; exact HFL2.out)
            obtain ⟨W4, hW4⟩ : ∃ W4, wr.setCell ⟨q, m, none⟩ (.int .i64 (s : Int)) = W4 := ⟨_, rfl⟩
            rw [hW4] at HQ4 HB4
            have HC := Aside0.mk (HL.out W4 G _ _ _ _ _ _ _ _ q _ (HP.out.2.below HB4.out) HQ4.out HFL4.out)
            clear HQ2 HBs HFL2
            go_wp2_with (fail)
            clear hW4 c_ f_
            with_reducible refine HC.out.mono ?_
            rintro e w5 ⟨rfl, hb5⟩
            generalize hFS : F2.set m (s : Int) = FS at *
            generalize (leastOf K l2 FS l1 l3) = res5 at *
            have HQ5 := Aside0.mk (HQ4.out.below hb5)
            have HB5 := Aside0.mk (HB4.out.trans (hb5.mono HB4.out.size))
            clear hb5 HC HQ4 HB4
            clear hFS
            by_cases hbest : res5.1 = res.1
            · have hbb : (res5.1 == res.1) = true := beq_iff_eq.2 hbest
              have hfin : FS = FN := by have := HN3.out; rw [if_pos hbest] at this; exact this
              subst hfin
              clear hbest
              go_wp2_with (fail)
              all_goals
                go_roundg (M - (m + 1))
                case measure => have := HLT.out; omega
                case rel => have hl1_ := HG.out; have hl2_ := HLT.out; exact ⟨m + 1, FS, HLT.out.1, Nat.le_refl _, by rw [w64_succ m (by omega)], HN2, HFL4, HQ5, HB5⟩
            · have hbb : (res5.1 == res.1) = false := beq_eq_false_iff_ne.2 hbest
              have HNX : Aside0 (lab1 K l2 l1 l3 res.1 m FS (s + 1) (K - (s + 1)) = FN) := ⟨by have := HN3.out; rw [if_neg hbest] at this; exact this⟩
              clear hbest
              go_wp2_with (fail)
              all_goals
                go_roundg (K - (s + 1))
                case measure => have := HLT2.out; omega
                case rel => have hl1_ := HG.out; have hl2_ := HLT2.out; exact ⟨s + 1, FS, HLT2.out.1, Nat.le_refl _, by rw [w64_succ s (by omega)], HNX, HFL4, HQ5, HB5⟩
          · have hltb2 : decide ((s : Int) < (K : Int)) = false := decide_eq_false (by omega)
            have hltc2 : decide (s < K) = false := decide_eq_false hlt2
            obtain rfl : s = K := by omega
            have hfin : F2 = FN := by have := HA2.out; rw [Nat.sub_self] at this; exact this
            subst hfin
            clear hlt2 hs hgg2 HA2
            go_wp2_with (fail)
            all_goals
              go_roundg (M - (m + 1))
              case measure => have := HLT.out; omega
              case rel => have hl1_ := HG.out; have hl2_ := HLT.out; exact ⟨m + 1, F2, HLT.out.1, Nat.le_refl _, by rw [w64_succ m (by omega)], HN2, HFL2, HQ2, HBs⟩
      · have hltb : decide ((m : Int) < (M : Int)) = false := decide_eq_false (by omega)
        have hltc : decide (m < M) = false := decide_eq_false hlt
        obtain rfl : m = M := by omega
        have hfin : F = r1 := by have := HA.out; rw [Nat.sub_self] at this; exact this
        subst hfin
        have HFIN := Aside0.mk (HQm.out.R (by have := HFL.out; have := HG.out.2; omega))
        have HSZ := Aside0.mk HP.out.1.size
        clear hlt hm hgg
        go_wp2
        go_ret2
        refine ⟨_, rfl, ?_, HP.out.1.trans (HBm.out.mono HSZ.out)⟩
        have := HFIN.out
        rw [HFL.out] at this
        exact Kd.R_lower this HSZ.out
  · have xb : (x != 0) = true := bne_iff_ne.2 x0
    rw [if_neg x0] at h
    obtain ⟨rfl, rfl⟩ : [] = r1 ∧ x = r2 := by simpa using h
    clear hx h hr1 hc1 hr2 hc2 hr3 hc3 x0
    go_enter Try.func27, Try.ntmps27
    go_wp2_with (fail)
    with_reducible refine HR.out.mono ?_
    rintro e w1 ⟨A, rfl, hb1, hz⟩
    clear hz
    go_wp2
    go_ret2
    exact ⟨_, rfl, Kd.R_nil _ _ _ _ _, hb1⟩
end Go.Proofs.Ytcphmeeighhdjaa.P
