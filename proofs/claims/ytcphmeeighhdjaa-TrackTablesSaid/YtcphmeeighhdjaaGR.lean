/- The contract of track's search (best): the least length of a tree that goes on with some joins, and the first such tree. -/
import Derived.Test.YtcphmeeighhdjaaGQ
import Derived.Test.YtcphmeeighhdjaaGH
namespace Go.Proofs.Ytcphmeeighhdjaa.P
set_option linter.unusedVariables false
open Go Go.RowKit Go.Proofs.YtcphmeeighhdjaaW.PrintWords Go.Proofs.YtcphmeeighhdjaaW.PrintLast Go.Proofs.YtcphmeeighhdjaaW.PrintMore
theorem one_pair {W : World} {g : Nat} {a b : Int} (hb : W.heap[g]? = some (.cells #[.int .i64 a, .int .i64 b] 67 (0, 0))) :
    ReadsRow (fun (x : S67) cs => cs = [.int .i64 x.f0, .int .i64 x.f1]) 2 W (some ⟨g, 0, none⟩) 1 [(⟨a, b⟩ : S67)] := by
  refine ⟨rfl, by decide, fun _ => ⟨_, rfl, fun j p hj => ?_⟩⟩
  match j, hj with
  | 0, hj =>
    obtain rfl := Option.some.inj hj
    refine ⟨_, rfl, rfl, fun i u hu => ?_⟩
    match i, hu with
    | 0, hu => exact (blk_cell hb 0).trans hu
    | 1, hu => exact (blk_cell hb 1).trans hu
    | i + 2, hu => simp at hu
  | j + 1, hj => simp at hj
theorem drop_rd (l : List Int) (i : Nat) (h : i < l.length) : l.drop i = rd l i :: l.drop (i + 1) := by
  rw [List.drop_eq_getElem_cons h]
  unfold rd
  simp [h]
def best.T12 : Bool × List (List Nat × List Nat) := (true, [([], []), ([], []), ([1], [1]), ([], []), ([], []), ([3, 4], [3, 4]), ([5], [5]), ([2, 6, 2], [2, 6]), ([], []), ([], []), ([9], [9]), ([8, 10, 7], [8, 10]), ([0, 7, 11, 11], [0, 7, 11]), ([12], [12]), ([13], [13]), ([13], [13]), ([14, 12, 0, 1, 2, 3, 4, 5, 6, 7, 8, 9, 10, 11, 12, 13, 14], [14]), ([15, 16, 0, 1, 2, 3, 4, 5, 6, 7, 8, 9, 10, 11, 12, 13, 14, 15, 16], [15])])
def best.B12 : List Nat := [0, 0, 2, 0, 0, 24, 56, 126, 0, 0, 512, 2046, 4095, 8191, 16383, 16383, 32767, 131071]
theorem best.tab12 : rtab .any (opsOf Try.f64 12) = best.T12 := by kernel_rfl
theorem best.bits12 : waitsOk best.T12.2 best.B12 = true := by kernel_rfl
set_option maxRecDepth 100000 in
set_option maxHeartbeats 16000000 in
theorem best_top (k : Nat) (t : List (List Int)) (m : Nat) (ih : BestAt k t m) (J : List S67) (O : List Int) (AT : Option Addr) (cT : Nat) (AJ : Option Addr) (cJ : Nat) (AO : Option Addr) (cO : Nat) (B : Nat) (r1 : Int) (r2 : List S67) (w : World) (hB : B ≤ w.heap.size)
    (ht : Kd.C (Kd.slice 3 (Kd.int .i64)) w AT t.length t) (hcT : t.length ≤ cT) (hJ : Kd.C k67 w AJ J.length J) (hO : Kd.C (Kd.int .i64) w AO O.length O) (hcO : O.length ≤ cO) (hok : OpenOk t J O) (hm : O.length = m + 1 + 1) (h : bestM k t (m + 1) J O = some (r1, r2)) :
    Calls Try.prog 64 #[.slice AT t.length cT, .slice AJ J.length cJ, .slice AO O.length cO] w fun e w' => ∃ v, e = .returned (.tuple #[.int .i64 r1, v]) ∧ Kd.R k67 67 w' B (fun _ => True) v r2 ∧ Below w.heap.size w w' := by
  have h1 : ((O.length : Int) == 1) = false := beq_eq_false_iff_ne.2 (by omega)
  have h1' : (O.length == 1) = false := beq_eq_false_iff_ne.2 (by omega)
  have HT0 := Aside0.mk ht
  have HJC0 := Aside0.mk hJ
  have HO := Aside0.mk hO
  have HOK := Aside0.mk hok
  have hb100 : t.length ≤ 100 ∧ J.length + O.length ≤ 100 := ⟨hok.2.2.1, hok.2.2.2⟩
  obtain ⟨nd, hnd⟩ : ∃ nd : Int, ((t.length + J.length : Nat) : Int) = nd := ⟨_, rfl⟩
  have h' : bOut (fun pa pb => bestM k t m (J ++ [⟨pa, pb⟩]) (restOf O pa pb ++ [nd])) O (-1, []) = some (r1, r2) := by rw [← hnd]; exact h
  have hwn : IntKind.i64.wrap ((t.length : Int) + (J.length : Int)) = nd := by rw [← hnd, IntKind.wrap_i64]; omega
  obtain ⟨F, hF⟩ : ∃ F : Int → Int → Option (Int × List S67), (fun pa pb => bestM k t m (J ++ [⟨pa, pb⟩]) (restOf O pa pb ++ [nd])) = F := ⟨_, rfl⟩
  rw [hF] at h'
  have HFD := Aside0.mk hF
  have HND := Aside0.mk hnd
  have HM := Aside0.mk hm
  have HH := Aside0.mk h'
  have HBB := Aside0.mk hB
  have HCO := Aside0.mk hcO
  have HB100 := Aside0.mk hb100
  have HWN := Aside0.mk hwn
  obtain ⟨i3, hi3, _, hsz3, _⟩ := info_parts info3
  have HCUT := Aside0.mk (fun j (h0 : 0 ≤ j) (hj : j ≤ (O.length : Int)) => cut_from (P := Try.prog) 25 3 .i64 Try.underlying25 hi3 1 hsz3 AO O.length cO j h0 hj)
  clear h h' hnd hF ht hJ hO hok hm hB hb100 hwn hi3 hsz3
  go_enter Try.func64, Try.ntmps64
  go_wp2_with (fail)
  go_loopg [8, 9, 27] O.length (fun gg v8 v9 v27 w' => ∃ (i : Nat) (acc : Int × List S67), i ≤ O.length ∧ O.length - i ≤ gg ∧ v8 = .int .i64 acc.1 ∧ v27 = .int .i64 i ∧ Aside0 (bOut F (O.drop i) acc = some (r1, r2)) ∧ Aside0 (Kd.R k67 67 w' B (fun _ => True) v9 acc.2) ∧ Aside0 (Below w.heap.size w w'))
  case atStart => exact ⟨0, (-1, []), Nat.zero_le _, by omega, rfl, rfl, HH, ⟨Kd.R_nil _ _ _ _ _⟩, ⟨Below.refl _ _⟩⟩
  case round =>
    clear HH
    obtain ⟨i, acc, hi, hgg, rfl, rfl, HA, HR, HBw⟩ := hrel
    rename World => w6
    by_cases hlt : i < O.length
    · have hltb : decide ((i : Int) < (O.length : Int)) = true := decide_eq_true (by omega)
      have hltc : decide (i < O.length) = true := decide_eq_true hlt
      have hltz : ((i : Int) < (O.length : Int)) = True := eq_true (by omega)
      have hz0 : (0 ≤ (i : Int)) = True := eq_true (by omega)
      obtain ⟨ad, e1, hx⟩ := Kd.at_int (Kd.C_below HO.out HBw.out) (i : Int) (by omega) (by omega)
      cases e1
      rw [Int.toNat_natCast] at hx
      obtain ⟨pa, ha⟩ : ∃ pa, rd O i = pa := ⟨_, rfl⟩
      rw [ha] at hx
      have hA := HA.out
      rw [drop_rd O i hlt, ha] at hA
      obtain ⟨acc', hin, hout⟩ := Option.bind_eq_some_iff.mp hA
      have HIN := Aside0.mk hin
      have HOUT := Aside0.mk hout
      have HAM := Aside0.mk (show pa ∈ O by rw [← ha]; exact rd_mem O i (by omega) (by omega))
      have HAI := Aside0.mk ha
      have HLT := Aside0.mk (And.intro hlt hgg)
      have hcut0 := HCUT.out ((i : Int) + 1) (by omega) (by omega)
      rw [show ((i : Int) + 1).toNat = i + 1 by omega] at hcut0
      have HCD0 := Kd.C_drop (k := Kd.int .i64) HO.out (m := i + 1) (by omega) HCO.out
      obtain ⟨X, hX⟩ : ∃ X, (if cO = i + 1 then some ad else (some ad).map (·.add ((i + 1) * 1))) = X := ⟨_, rfl⟩
      have hcut : ∀ W : World, (Instr.slice 25 (.slice (some ad) O.length cO) (some (.int .i64 ((i : Int) + 1))) none none).run Try.prog W = .ok (.slice X (O.length - (i + 1)) (cO - (i + 1))) W := fun W => by rw [hcut0 W, ← hX]
      have HCD := Aside0.mk (show Kd.C (Kd.int .i64) w X (O.drop (i + 1)).length (O.drop (i + 1)) by rw [← hX]; exact HCD0)
      obtain ⟨L2, hL2⟩ : ∃ L2, O.length - (i + 1) = L2 := ⟨_, rfl⟩
      have HL2 := Aside0.mk hL2
      rw [hL2] at hcut
      obtain ⟨O2, hO2⟩ : ∃ O2, O.drop (i + 1) = O2 := ⟨_, rfl⟩
      have HO2 := Aside0.mk hO2
      rw [hO2] at HCD HIN HOUT
      have HLO := Aside0.mk (show O2.length = L2 by rw [← hO2, ← hL2, List.length_drop])
      rw [HLO.out] at HCD
      clear hcut0 HCD0 hX hL2 hO2
      have hi100 : (i : Int) ≤ 100 := by have := HB100.out; omega
      clear hlt hgg hA hin hout ha hi
      obtain ⟨w7, hw7⟩ : ∃ W, w6.alloc (.cells #[.int .i64 pa] 3) = W := ⟨_, rfl⟩
      have HB7 := Aside0.mk (show Below w.heap.size w w7 by rw [← hw7]; exact below_alloc HBw.out _)
      have HR7 := Aside0.mk (show Kd.R k67 67 w7 B (fun _ => True) u9 acc.2 by rw [← hw7]; exact Kd.R_alloc HR.out _)
      have HCA := Aside0.mk (show w7.cell? ⟨w6.heap.size, 0, none⟩ = some (.int .i64 pa) by rw [← hw7]; exact (blk_cell (blk_new _ _) 0).trans rfl)
      have HS7 := Aside0.mk (show w6.heap.size < w7.heap.size by rw [← hw7]; simp)
      go_wp2_with (fail)
      clear hw7 hx HR HBw hcut
      generalize w6.heap.size = gA at HCA HS7 ⊢
      go_loopg [8, 9, 37] L2 (fun gg v8 v9 v37 w' => ∃ (j : Nat) (acc2 : Int × List S67), j ≤ L2 ∧ L2 - j ≤ gg ∧ v8 = .int .i64 acc2.1 ∧ v37 = .int .i64 j ∧ Aside0 (bIn F pa (O2.drop j) acc2 = some acc') ∧ Aside0 (Kd.R k67 67 w' B (fun _ => True) v9 acc2.2) ∧ Aside0 (Below w7.heap.size w7 w'))
      case atStart => exact ⟨0, acc, Nat.zero_le _, by omega, rfl, rfl, HIN, HR7, ⟨Below.refl _ _⟩⟩
      case round =>
        clear HIN
        obtain ⟨j, acc2, hj, hgg2, rfl, rfl, HA2, HR2, HBw2⟩ := hrel
        rename World => w8
        by_cases hlt2 : j < L2
        · have hltb2 : decide ((j : Int) < (L2 : Int)) = true := decide_eq_true (by omega)
          have hltc2 : decide (j < L2) = true := decide_eq_true hlt2
          have hltz2 : ((j : Int) < (L2 : Int)) = True := eq_true (by omega)
          have hz02 : (0 ≤ (j : Int)) = True := eq_true (by omega)
          obtain ⟨ad2, e2, hy⟩ := Kd.at_int (Kd.C_below HCD.out (HB7.out.trans (HBw2.out.mono HB7.out.size))) (j : Int) (by omega) (by omega)
          subst e2
          rw [Int.toNat_natCast] at hy
          obtain ⟨pb, hb⟩ : ∃ pb, rd O2 j = pb := ⟨_, rfl⟩
          rw [hb] at hy
          have hA2 := HA2.out
          rw [drop_rd O2 j (by rw [HLO.out]; exact hlt2), hb] at hA2
          obtain ⟨⟨n1, r2'⟩, hf, hin2⟩ := Option.bind_eq_some_iff.mp hA2
          have HF := Aside0.mk (show bestM k t m (J ++ [⟨pa, pb⟩]) (restOf O pa pb ++ [nd]) = some (n1, r2') by rw [← HFD.out] at hf; exact hf)
          have HIN2 := Aside0.mk hin2
          have hO2 : O2[j]'(by rw [HLO.out]; exact hlt2) = pb := by rw [← hb]; unfold rd; simp [HLO.out, hlt2]
          have hbO : pb ∈ O := by
            have h_ : pb ∈ O2 := by rw [← hO2]; exact List.getElem_mem _
            rw [← HO2.out] at h_
            exact List.mem_of_mem_drop h_
          have hab : pa ≠ pb := by
            intro e_
            have h_ : pb ∈ O.drop (i + 1) := by rw [HO2.out, ← hO2]; exact List.getElem_mem _
            have hn_ := HOK.out.1
            have hd_ := drop_rd O i HLT.out.1
            rw [HAI.out] at hd_
            have hn2_ : (O.drop i).Nodup := List.Nodup.sublist (List.drop_sublist _ _) hn_
            rw [hd_, List.nodup_cons] at hn2_
            exact hn2_.1 (e_ ▸ h_)
          obtain ⟨hok2, hlen2⟩ := open_rest HOK.out HAM.out hbO hab
          obtain ⟨rst, hrst⟩ : ∃ rst, restOf O pa pb = rst := ⟨_, rfl⟩
          rw [HND.out, hrst] at hok2
          rw [hrst] at hlen2 HF
          have HRST := Aside0.mk hrst
          have HOK2 := Aside0.mk hok2
          have HLN := Aside0.mk (show (rst ++ [nd]).length = m + 1 by rw [List.length_append, List.length_singleton]; have := HM.out; omega)
          have HSZ := Aside0.mk (show J.length ≤ 100 ∧ rst.length ≤ 100 by have := HB100.out; omega)
          have HLT2 := Aside0.mk (And.intro hlt2 hgg2)
          obtain ⟨w9, hw9⟩ : ∃ W, w8.alloc (.cells #[.int .i64 pb] 3) = W := ⟨_, rfl⟩
          have HB9 := Aside0.mk (show Below w7.heap.size w7 w9 by rw [← hw9]; exact below_alloc HBw2.out _)
          have HR9 := Aside0.mk (show Kd.R k67 67 w9 B (fun _ => True) u9 acc2.2 by rw [← hw9]; exact Kd.R_alloc HR2.out _)
          have CB := Aside0.mk (show w9.cell? ⟨w8.heap.size, 0, none⟩ = some (.int .i64 pb) by rw [← hw9]; exact (blk_cell (blk_new _ _) 0).trans rfl)
          have CA := Aside0.mk ((HB9.out.cell (World.block_lt_of_cell? _ _ HCA.out)).trans HCA.out)
          have HB09 := Aside0.mk (HB7.out.trans (HB9.out.mono HB7.out.size))
          have HT := Aside0.mk (Kd.C_below HT0.out HB09.out)
          have HJC := Aside0.mk (Kd.C_below HJC0.out HB09.out)
          have HBB9 := Aside0.mk (Nat.le_trans HBB.out HB09.out.size)
          have HIH := Aside0.mk (fun (v7 : Value) (A11 : Option Addr) (c11 : Nat) (w' : World) (hB_ : w9.heap.size ≤ w'.heap.size) (hT_ : Kd.C (Kd.slice 3 (Kd.int .i64)) w' AT t.length t) (hJ_ : Kd.R k67 67 w' w9.heap.size (fun _ => True) v7 (J ++ [⟨pa, pb⟩])) (hO_ : Kd.C (Kd.int .i64) w' A11 (rst ++ [nd]).length (rst ++ [nd])) (hc_ : (rst ++ [nd]).length ≤ c11) =>
            ih (J ++ [⟨pa, pb⟩]) (rst ++ [nd]) AT cT v7 A11 c11 w9.heap.size n1 r2' w' hB_ hT_ hcT hJ_ hO_ hc_ HOK2.out HLN.out HF.out)
          have HCO9 := Aside0.mk (Kd.C_below HO.out HB09.out)
          have hj100 : (j : Int) ≤ 100 := by have := HL2.out; have := HB100.out; omega
          clear hlt2 hgg2 hj hb hA2 hf hin2 hO2 hbO hab hok2 hlen2 hrst
          go_wp2_with (fail)
          clear hw9 hy hltz2 hz02
          generalize w8.heap.size = gB at CB ⊢
          with_reducible refine (clone_int (some ad) cO O w9 HCO9.out (by have := HB100.out; omega)).mono ?_
          rintro e w4 ⟨v42, rfl, hR4, hb4⟩
          have HR4 := Aside0.mk hR4
          have HB4 := Aside0.mk hb4
          clear hR4 hb4
          go_wp2_with (fail)
          have hdel := delete_int (fun x => x == pa || x == pb) 78 #[.pointer (some ⟨gA, 0, none⟩), .pointer (some ⟨gB, 0, none⟩)] (Go.Proofs.enters_of Try.func78 (by kernel_rfl) rfl) v42 O w9 w4 w9.heap.size _ (Nat.le_refl _) HB4.out.size HB4.out HR4.out (fun W x hW => (best_lit pa pb gA gB W x ((hW.cell (World.block_lt_of_cell? _ _ CA.out)).trans CA.out) ((hW.cell (World.block_lt_of_cell? _ _ CB.out)).trans CB.out)).mono fun e w' h => ⟨h.1, by rw [h.2]; exact Below.refl _ _⟩)
          with_reducible refine hdel.mono ?_
          rintro e w10 ⟨vr, rfl, hR5, hb5⟩
          have FR := Aside0.mk (show Kd.R (Kd.int .i64) 3 w10 w9.heap.size (fun _ => True) vr rst by rw [← HRST.out]; exact Kd.R_mono hR5 (fun _ _ => trivial))
          have HB5 := Aside0.mk (HB4.out.trans hb5)
          clear hR5 hb5 HR4 HB4 hdel
          have hwn := HWN.out
          go_wp2_with (fail)
          clear hwn
          refine start_ (n := 18) (S := fun w' => True) (ds := []) #[false, false, false, false, false, false, false, false, false, false, false, false, false, false, false, false, false, false] (by kernel_rfl) rfl rfl trivial (fun hHeld => ?_)
          refine with_tabW best.tab12 best.bits12 (fun HT_ HW_ => ?_)
          replace HB5 := Aside0.mk (below_drew1 HB5.out)
          replace FR := Aside0.mk (Kd.R_drew FR.out)
          generalize w10.drew = w3 at HB5 FR hHeld ⊢
          refine inv_at [0, 1, 2, 3, 4, 5, 6, 7, 8, 9, 10, 11, 12, 13, 14, 15, 16, 17] (fun a0_ b a w' => ∃ (vc : Value) (g6 : Nat) (v7 : Value) (g10 : Nat) (v11 : Value) (vt : Value) (m6_ : Value) (m10_ : Value) (m12_ : Value) (m13_ : Value) (m15_ : Value) (m17_ : Value), a = putSel a0_ b [(0, 51, .slice AT t.length cT), (1, 52, .slice (AJ) J.length cJ), (2, 53, vc), (3, 54, .int .i64 pa), (4, 55, .int .i64 pb), (5, 56, .agg #[.int .i64 pa, .int .i64 pb]), (6, 57, m6_), (7, 58, v7), (8, 59, vr), (9, 60, .int .i64 nd), (10, 61, m10_), (11, 62, v11), (12, 63, m12_), (13, 50, m13_), (14, 64, .int .i64 n1), (15, 65, m15_), (16, 16, .int .i64 n1), (17, 17, m17_)] ∧ (Below w9.heap.size w9 w') ∧ (b 2 = true → b 7 = false → Kd.R k67 67 w' w9.heap.size (fun k => w9.heap.size ≤ k) vc J) ∧ (b 6 = true → b 7 = false → w'.heap[g6]? = some (.cells #[.int .i64 pa, .int .i64 pb] 67 (0, 0))) ∧ (b 7 = true → b 12 = false → Kd.R k67 67 w' w9.heap.size (fun _ => True) v7 (J ++ [⟨pa, pb⟩])) ∧ (b 10 = true → b 11 = false → Blk w' w9.heap.size g10 (ints [nd])) ∧ (b 11 = false → Kd.R (Kd.int .i64) 3 w' w9.heap.size (fun _ => True) vr rst) ∧ (b 11 = true → b 12 = false → Kd.R (Kd.int .i64) 3 w' w9.heap.size (fun _ => True) v11 (rst ++ [nd])) ∧ (b 12 = true → Kd.R k67 67 w' w9.heap.size (fun _ => True) vt r2') ∧ (b 6 = true → (m6_ : Value) = .slice (some ⟨g6, 0, none⟩) 1 1) ∧ (b 10 = true → (m10_ : Value) = .slice (some ⟨g10, 0, none⟩) 1 1) ∧ (b 12 = true → (m12_ : Value) = .tuple #[.int .i64 n1, vt]) ∧ (b 13 = true → (m13_ : Value) = .tuple #[.int .i64 n1, vt]) ∧ (b 15 = true → (m15_ : Value) = vt) ∧ (b 17 = true → (m17_ : Value) = vt)) HT_.out HW_.out (by kernel_rfl) (by kernel_rfl) ?_ ?_ ?_
          · exact ⟨.bool false, 0, .bool false, 0, .bool false, .bool false, .bool false, .bool false, .bool false, .bool false, .bool false, .bool false, by simp only [putSel, Bool.false_eq_true, if_false], HB5.out, fun h_ => absurd h_ (by decide), fun h_ => absurd h_ (by decide), fun h_ => absurd h_ (by decide), fun h_ => absurd h_ (by decide), fun _ => FR.out, fun h_ => absurd h_ (by decide), fun h_ => absurd h_ (by decide), fun h_ => absurd h_ (by decide), fun h_ => absurd h_ (by decide), fun h_ => absurd h_ (by decide), fun h_ => absurd h_ (by decide), fun h_ => absurd h_ (by decide), fun h_ => absurd h_ (by decide)⟩
          · skip
            clear FR HB5
            refine steps_cons ?_ ?_
            · rintro b a w' ⟨vc, g6, v7, g10, v11, vt, m6_, m10_, m12_, m13_, m15_, m17_, ha, Q_HB5, Q_FC, Q_FL, Q_FJ, Q_FN, Q_FR, Q_FO, Q_FT, Q_X6_, Q_X10_, Q_X12_, Q_X13_, Q_X15_, Q_X17_⟩ hb_ hon hoff
              refine ⟨_, rfl, fun K hK => ?_⟩
              have e0 : a.tmps[0]? = some (.slice AT t.length cT) := by rw [ha]; exact (putSel_off rfl).trans rfl
              replace ha := Aside0.mk ha
              have HB5 := Aside0.mk Q_HB5
              refine value_ (w1 := w') (v := .slice AT t.length cT) (by rfl) rfl ?_ ?_
              · go_simp
                (try simp only [i64_w])
                try rfl
              refine hK.out _ _ ⟨vc, g6, v7, g10, v11, vt, m6_, m10_, m12_, m13_, m15_, m17_, (by rw [ha.out]; exact putSel_upk 0 hb_ rfl rfl rfl), Q_HB5, Q_FC, Q_FL, Q_FJ, Q_FN, Q_FR, Q_FO, fun h0_ => absurd ((hoff 12 (by kernel_rfl)).symm.trans h0_) (by decide), Q_X6_, Q_X10_, fun h0_ => absurd ((hoff 12 (by kernel_rfl)).symm.trans h0_) (by decide), fun h0_ => absurd ((hoff 13 (by kernel_rfl)).symm.trans h0_) (by decide), fun h0_ => absurd ((hoff 15 (by kernel_rfl)).symm.trans h0_) (by decide), fun h0_ => absurd ((hoff 17 (by kernel_rfl)).symm.trans h0_) (by decide)⟩
            refine steps_cons ?_ ?_
            · rintro b a w' ⟨vc, g6, v7, g10, v11, vt, m6_, m10_, m12_, m13_, m15_, m17_, ha, Q_HB5, Q_FC, Q_FL, Q_FJ, Q_FN, Q_FR, Q_FO, Q_FT, Q_X6_, Q_X10_, Q_X12_, Q_X13_, Q_X15_, Q_X17_⟩ hb_ hon hoff
              refine ⟨_, rfl, fun K hK => ?_⟩
              have e1 : a.tmps[1]? = some (.slice (AJ) J.length cJ) := by rw [ha]; exact (putSel_off rfl).trans rfl
              replace ha := Aside0.mk ha
              have HB5 := Aside0.mk Q_HB5
              have FR := Aside0.mk (Q_FR (hoff 11 (by kernel_rfl)))
              refine value_ (w1 := w') (v := .slice (AJ) J.length cJ) (by rfl) rfl ?_ ?_
              · go_simp
                (try simp only [i64_w])
                try rfl
              refine hK.out _ _ ⟨vc, g6, v7, g10, v11, vt, m6_, m10_, m12_, m13_, m15_, m17_, (by rw [ha.out]; exact putSel_upk 1 hb_ rfl rfl rfl), Q_HB5, fun h0_ _ => absurd ((hoff 2 (by kernel_rfl)).symm.trans h0_) (by decide), Q_FL, fun h0_ _ => absurd ((hoff 7 (by kernel_rfl)).symm.trans h0_) (by decide), Q_FN, Q_FR, fun h0_ _ => absurd ((hoff 11 (by kernel_rfl)).symm.trans h0_) (by decide), fun h0_ => absurd ((hoff 12 (by kernel_rfl)).symm.trans h0_) (by decide), Q_X6_, Q_X10_, fun h0_ => absurd ((hoff 12 (by kernel_rfl)).symm.trans h0_) (by decide), fun h0_ => absurd ((hoff 13 (by kernel_rfl)).symm.trans h0_) (by decide), fun h0_ => absurd ((hoff 15 (by kernel_rfl)).symm.trans h0_) (by decide), fun h0_ => absurd ((hoff 17 (by kernel_rfl)).symm.trans h0_) (by decide)⟩
            refine steps_cons ?_ ?_
            · rintro b a w' ⟨vc, g6, v7, g10, v11, vt, m6_, m10_, m12_, m13_, m15_, m17_, ha, Q_HB5, Q_FC, Q_FL, Q_FJ, Q_FN, Q_FR, Q_FO, Q_FT, Q_X6_, Q_X10_, Q_X12_, Q_X13_, Q_X15_, Q_X17_⟩ hb_ hon hoff
              refine ⟨_, rfl, fun K hK => ?_⟩
              have e52 : a.tmps[52]? = some (.slice (AJ) J.length cJ) := by rw [ha]; exact putSel_on (e := (1, 52, .slice (AJ) J.length cJ)) 1 rfl rfl (hon 1 (by kernel_rfl)) rfl
              replace ha := Aside0.mk ha
              have HB5 := Aside0.mk Q_HB5
              have FR := Aside0.mk (Q_FR (hoff 11 (by kernel_rfl)))
              refine goes_ Try.func79 (by kernel_rfl) rfl #[.slice (AJ) J.length cJ] (by rfl) rfl rfl (by first | (simp only [List.map_toArray, List.map_cons, List.map_nil, Act.eval, Array.getD_eq_getD_getElem?, Option.getD_some, e52]; done) | (simp only [List.map_toArray, List.map_cons, List.map_nil, Act.eval, Array.getD_eq_getD_getElem?, Option.getD_some, e52]; rfl)) ?_
              with_reducible refine (clone_pairs AJ cJ J w' (Kd.C_below HJC.out HB5.out) (by have := HSZ.out; omega)).mono ?_
              rintro e w4 ⟨vq, rfl, hR, hb⟩
              refine ⟨_, rfl, ?_⟩
              refine hK.out _ _ ⟨vq, g6, v7, g10, v11, vt, m6_, m10_, m12_, m13_, m15_, m17_, (by rw [ha.out]; exact putSel_upk 2 hb_ rfl rfl rfl), (HB5.out.trans (hb.mono HB5.out.size)), fun _ _ => (Kd.R_lower (Kd.R_mono hR (fun k hk => Nat.le_trans HB5.out.size hk)) HB5.out.size), fun h0_ h1_ => (blk_below (Q_FL h0_ h1_) hb), fun h0_ _ => absurd ((hoff 7 (by kernel_rfl)).symm.trans h0_) (by decide), fun h0_ h1_ => ((Q_FN h0_ h1_).below hb), fun _ => (Kd.R_below FR.out hb), fun h0_ _ => absurd ((hoff 11 (by kernel_rfl)).symm.trans h0_) (by decide), fun h0_ => absurd ((hoff 12 (by kernel_rfl)).symm.trans h0_) (by decide), Q_X6_, Q_X10_, fun h0_ => absurd ((hoff 12 (by kernel_rfl)).symm.trans h0_) (by decide), fun h0_ => absurd ((hoff 13 (by kernel_rfl)).symm.trans h0_) (by decide), fun h0_ => absurd ((hoff 15 (by kernel_rfl)).symm.trans h0_) (by decide), fun h0_ => absurd ((hoff 17 (by kernel_rfl)).symm.trans h0_) (by decide)⟩
            refine steps_cons ?_ ?_
            · rintro b a w' ⟨vc, g6, v7, g10, v11, vt, m6_, m10_, m12_, m13_, m15_, m17_, ha, Q_HB5, Q_FC, Q_FL, Q_FJ, Q_FN, Q_FR, Q_FO, Q_FT, Q_X6_, Q_X10_, Q_X12_, Q_X13_, Q_X15_, Q_X17_⟩ hb_ hon hoff
              refine ⟨_, rfl, fun K hK => ?_⟩
              have e11 : a.tmps[11]? = some (.pointer (some ⟨gA, 0, none⟩)) := by rw [ha]; exact (putSel_off rfl).trans rfl
              replace ha := Aside0.mk ha
              have HB5 := Aside0.mk Q_HB5
              have FR := Aside0.mk (Q_FR (hoff 11 (by kernel_rfl)))
              have c_ := (HB5.out.cell (World.block_lt_of_cell? _ _ CA.out)).trans CA.out
              refine value_ (w1 := w') (v := .int .i64 pa) (by rfl) rfl ?_ ?_
              · go_simp
                (try simp only [i64_w])
                try rfl
              refine hK.out _ _ ⟨vc, g6, v7, g10, v11, vt, m6_, m10_, m12_, m13_, m15_, m17_, (by rw [ha.out]; exact putSel_upk 3 hb_ rfl rfl rfl), Q_HB5, Q_FC, fun h0_ _ => absurd ((hoff 6 (by kernel_rfl)).symm.trans h0_) (by decide), fun h0_ _ => absurd ((hoff 7 (by kernel_rfl)).symm.trans h0_) (by decide), Q_FN, Q_FR, fun h0_ _ => absurd ((hoff 11 (by kernel_rfl)).symm.trans h0_) (by decide), fun h0_ => absurd ((hoff 12 (by kernel_rfl)).symm.trans h0_) (by decide), fun h0_ => absurd ((hoff 6 (by kernel_rfl)).symm.trans h0_) (by decide), Q_X10_, fun h0_ => absurd ((hoff 12 (by kernel_rfl)).symm.trans h0_) (by decide), fun h0_ => absurd ((hoff 13 (by kernel_rfl)).symm.trans h0_) (by decide), fun h0_ => absurd ((hoff 15 (by kernel_rfl)).symm.trans h0_) (by decide), fun h0_ => absurd ((hoff 17 (by kernel_rfl)).symm.trans h0_) (by decide)⟩
            refine steps_cons ?_ ?_
            · rintro b a w' ⟨vc, g6, v7, g10, v11, vt, m6_, m10_, m12_, m13_, m15_, m17_, ha, Q_HB5, Q_FC, Q_FL, Q_FJ, Q_FN, Q_FR, Q_FO, Q_FT, Q_X6_, Q_X10_, Q_X12_, Q_X13_, Q_X15_, Q_X17_⟩ hb_ hon hoff
              refine ⟨_, rfl, fun K hK => ?_⟩
              have e13 : a.tmps[13]? = some (.pointer (some ⟨gB, 0, none⟩)) := by rw [ha]; exact (putSel_off rfl).trans rfl
              replace ha := Aside0.mk ha
              have HB5 := Aside0.mk Q_HB5
              have FR := Aside0.mk (Q_FR (hoff 11 (by kernel_rfl)))
              have c_ := (HB5.out.cell (World.block_lt_of_cell? _ _ CB.out)).trans CB.out
              refine value_ (w1 := w') (v := .int .i64 pb) (by rfl) rfl ?_ ?_
              · go_simp
                (try simp only [i64_w])
                try rfl
              refine hK.out _ _ ⟨vc, g6, v7, g10, v11, vt, m6_, m10_, m12_, m13_, m15_, m17_, (by rw [ha.out]; exact putSel_upk 4 hb_ rfl rfl rfl), Q_HB5, Q_FC, fun h0_ _ => absurd ((hoff 6 (by kernel_rfl)).symm.trans h0_) (by decide), fun h0_ _ => absurd ((hoff 7 (by kernel_rfl)).symm.trans h0_) (by decide), Q_FN, Q_FR, fun h0_ _ => absurd ((hoff 11 (by kernel_rfl)).symm.trans h0_) (by decide), fun h0_ => absurd ((hoff 12 (by kernel_rfl)).symm.trans h0_) (by decide), fun h0_ => absurd ((hoff 6 (by kernel_rfl)).symm.trans h0_) (by decide), Q_X10_, fun h0_ => absurd ((hoff 12 (by kernel_rfl)).symm.trans h0_) (by decide), fun h0_ => absurd ((hoff 13 (by kernel_rfl)).symm.trans h0_) (by decide), fun h0_ => absurd ((hoff 15 (by kernel_rfl)).symm.trans h0_) (by decide), fun h0_ => absurd ((hoff 17 (by kernel_rfl)).symm.trans h0_) (by decide)⟩
            refine steps_cons ?_ ?_
            · rintro b a w' ⟨vc, g6, v7, g10, v11, vt, m6_, m10_, m12_, m13_, m15_, m17_, ha, Q_HB5, Q_FC, Q_FL, Q_FJ, Q_FN, Q_FR, Q_FO, Q_FT, Q_X6_, Q_X10_, Q_X12_, Q_X13_, Q_X15_, Q_X17_⟩ hb_ hon hoff
              refine ⟨_, rfl, fun K hK => ?_⟩
              have e54 : a.tmps[54]? = some (.int .i64 pa) := by rw [ha]; exact putSel_on (e := (3, 54, .int .i64 pa)) 3 rfl rfl (hon 3 (by kernel_rfl)) rfl
              have e55 : a.tmps[55]? = some (.int .i64 pb) := by rw [ha]; exact putSel_on (e := (4, 55, .int .i64 pb)) 4 rfl rfl (hon 4 (by kernel_rfl)) rfl
              replace ha := Aside0.mk ha
              have HB5 := Aside0.mk Q_HB5
              have FR := Aside0.mk (Q_FR (hoff 11 (by kernel_rfl)))
              refine value_ (w1 := w') (v := .agg #[.int .i64 pa, .int .i64 pb]) (by rfl) rfl ?_ ?_
              · go_simp
                (try simp only [i64_w])
                try rfl
              refine hK.out _ _ ⟨vc, g6, v7, g10, v11, vt, m6_, m10_, m12_, m13_, m15_, m17_, (by rw [ha.out]; exact putSel_upk 5 hb_ rfl rfl rfl), Q_HB5, Q_FC, fun h0_ _ => absurd ((hoff 6 (by kernel_rfl)).symm.trans h0_) (by decide), fun h0_ _ => absurd ((hoff 7 (by kernel_rfl)).symm.trans h0_) (by decide), Q_FN, Q_FR, fun h0_ _ => absurd ((hoff 11 (by kernel_rfl)).symm.trans h0_) (by decide), fun h0_ => absurd ((hoff 12 (by kernel_rfl)).symm.trans h0_) (by decide), fun h0_ => absurd ((hoff 6 (by kernel_rfl)).symm.trans h0_) (by decide), Q_X10_, fun h0_ => absurd ((hoff 12 (by kernel_rfl)).symm.trans h0_) (by decide), fun h0_ => absurd ((hoff 13 (by kernel_rfl)).symm.trans h0_) (by decide), fun h0_ => absurd ((hoff 15 (by kernel_rfl)).symm.trans h0_) (by decide), fun h0_ => absurd ((hoff 17 (by kernel_rfl)).symm.trans h0_) (by decide)⟩
            refine steps_cons ?_ ?_
            · rintro b a w' ⟨vc, g6, v7, g10, v11, vt, m6_, m10_, m12_, m13_, m15_, m17_, ha, Q_HB5, Q_FC, Q_FL, Q_FJ, Q_FN, Q_FR, Q_FO, Q_FT, Q_X6_, Q_X10_, Q_X12_, Q_X13_, Q_X15_, Q_X17_⟩ hb_ hon hoff
              refine ⟨_, rfl, fun K hK => ?_⟩
              have e56 : a.tmps[56]? = some (.agg #[.int .i64 pa, .int .i64 pb]) := by rw [ha]; exact putSel_on (e := (5, 56, .agg #[.int .i64 pa, .int .i64 pb])) 5 rfl rfl (hon 5 (by kernel_rfl)) rfl
              replace ha := Aside0.mk ha
              have HB5 := Aside0.mk Q_HB5
              have FR := Aside0.mk (Q_FR (hoff 11 (by kernel_rfl)))
              refine value_ (w1 := ?_) (v := ?_) (by rfl) rfl ?_ ?_
              rotate_left 2
              · go_simp
                constructor
                · rfl
                · rfl
              refine hK.out _ _ ⟨vc, w'.heap.size, v7, g10, v11, vt, (.slice (some ⟨w'.heap.size, 0, none⟩) 1 1), m10_, m12_, m13_, m15_, m17_, (by rw [ha.out]; exact putSel_upk 6 hb_ rfl rfl rfl), (below_alloc HB5.out _), fun h0_ h1_ => (Kd.R_alloc (Q_FC h0_ h1_) _), fun _ _ => (blk_new _ _), fun h0_ _ => absurd ((hoff 7 (by kernel_rfl)).symm.trans h0_) (by decide), fun h0_ h1_ => ((Q_FN h0_ h1_).alloc _), fun _ => (Kd.R_alloc FR.out _), fun h0_ _ => absurd ((hoff 11 (by kernel_rfl)).symm.trans h0_) (by decide), fun h0_ => absurd ((hoff 12 (by kernel_rfl)).symm.trans h0_) (by decide), fun _ => rfl, Q_X10_, fun h0_ => absurd ((hoff 12 (by kernel_rfl)).symm.trans h0_) (by decide), fun h0_ => absurd ((hoff 13 (by kernel_rfl)).symm.trans h0_) (by decide), fun h0_ => absurd ((hoff 15 (by kernel_rfl)).symm.trans h0_) (by decide), fun h0_ => absurd ((hoff 17 (by kernel_rfl)).symm.trans h0_) (by decide)⟩
            refine steps_cons ?_ ?_
            · rintro b a w' ⟨vc, g6, v7, g10, v11, vt, m6_, m10_, m12_, m13_, m15_, m17_, ha, Q_HB5, Q_FC, Q_FL, Q_FJ, Q_FN, Q_FR, Q_FO, Q_FT, Q_X6_, Q_X10_, Q_X12_, Q_X13_, Q_X15_, Q_X17_⟩ hb_ hon hoff
              refine ⟨_, rfl, fun K hK => ?_⟩
              have e53 : a.tmps[53]? = some (vc) := by rw [ha]; exact putSel_on (e := (2, 53, vc)) 2 rfl rfl (hon 2 (by kernel_rfl)) rfl
              have e57 : a.tmps[57]? = some (m6_) := by rw [ha]; exact putSel_on (e := (6, 57, m6_)) 6 rfl rfl (hon 6 (by kernel_rfl)) rfl
              rw [Q_X6_ (hon 6 (by kernel_rfl))] at e57
              replace ha := Aside0.mk ha
              have HB5 := Aside0.mk Q_HB5
              have FC := Aside0.mk (Q_FC (hon 2 (by kernel_rfl)) hb_)
              have FL := Aside0.mk (Q_FL (hon 6 (by kernel_rfl)) hb_)
              have FR := Aside0.mk (Q_FR (hoff 11 (by kernel_rfl)))
              refine Kd.R_append_rows_step k67 (w0 := w9) (W := w') w9.heap.size (by rfl) (.tmp 53) (.tmp 57) 22 67 (.agg #[(.int .i64 0), (.int .i64 0)]) 16 (by rfl) Try.underlying22 info67 (by rfl) (by decide) (by omega) vc J [⟨pa, pb⟩] (some ⟨g6, 0, none⟩) 1 1 (fun k => w9.heap.size ≤ k) (fun _ => False) (by simp only [Act.eval, Array.getD_eq_getD_getElem?, e53, Option.getD_some]) (by simp only [Act.eval, Array.getD_eq_getD_getElem?, e57, Option.getD_some]) FC.out (one_pair FL.out) (fun x cs h => h ▸ k67_mkM _ _ _ x) (fun _ hk => hk.elim) (fun k hk => Nat.le_trans HB5.out.size hk) HB5.out HB5.out.size (by have := HSZ.out; omega) ?_
              intro v1 w1 ho hb hg hat
              refine hK.out _ _ ⟨vc, g6, v1, g10, v11, vt, m6_, m10_, m12_, m13_, m15_, m17_, (by rw [ha.out]; exact putSel_upk 7 hb_ rfl rfl rfl), hb, fun _ h1_ => absurd ((up_self b 7).symm.trans h1_) (by decide), fun _ h1_ => absurd ((up_self b 7).symm.trans h1_) (by decide), fun _ _ => (Kd.R_mono ho (fun _ _ => trivial)), fun h0_ h1_ => ⟨blk_grown (Q_FN h0_ h1_).1 hg (Kd.R_ne FC.out (Q_FN h0_ h1_).1 (by decide)), (Q_FN h0_ h1_).2⟩, fun _ => (Kd.R_over' FR.out (Kd.R_typed FC.out) (by decide) hg), fun h0_ _ => absurd ((hoff 11 (by kernel_rfl)).symm.trans h0_) (by decide), fun h0_ => absurd ((hoff 12 (by kernel_rfl)).symm.trans h0_) (by decide), Q_X6_, Q_X10_, fun h0_ => absurd ((hoff 12 (by kernel_rfl)).symm.trans h0_) (by decide), fun h0_ => absurd ((hoff 13 (by kernel_rfl)).symm.trans h0_) (by decide), fun h0_ => absurd ((hoff 15 (by kernel_rfl)).symm.trans h0_) (by decide), fun h0_ => absurd ((hoff 17 (by kernel_rfl)).symm.trans h0_) (by decide)⟩
            refine steps_cons ?_ ?_
            · rintro b a w' ⟨vc, g6, v7, g10, v11, vt, m6_, m10_, m12_, m13_, m15_, m17_, ha, Q_HB5, Q_FC, Q_FL, Q_FJ, Q_FN, Q_FR, Q_FO, Q_FT, Q_X6_, Q_X10_, Q_X12_, Q_X13_, Q_X15_, Q_X17_⟩ hb_ hon hoff
              refine ⟨_, rfl, fun K hK => ?_⟩
              have e14 : a.tmps[14]? = some (vr) := by rw [ha]; exact (putSel_off rfl).trans rfl
              replace ha := Aside0.mk ha
              have HB5 := Aside0.mk Q_HB5
              have FR := Aside0.mk (Q_FR (hoff 11 (by kernel_rfl)))
              refine value_ (w1 := w') (v := vr) (by rfl) rfl ?_ ?_
              · go_simp
                (try simp only [i64_w])
                try rfl
              refine hK.out _ _ ⟨vc, g6, v7, g10, v11, vt, m6_, m10_, m12_, m13_, m15_, m17_, (by rw [ha.out]; exact putSel_upk 8 hb_ rfl rfl rfl), Q_HB5, Q_FC, Q_FL, Q_FJ, Q_FN, Q_FR, fun h0_ _ => absurd ((hoff 11 (by kernel_rfl)).symm.trans h0_) (by decide), fun h0_ => absurd ((hoff 12 (by kernel_rfl)).symm.trans h0_) (by decide), Q_X6_, Q_X10_, fun h0_ => absurd ((hoff 12 (by kernel_rfl)).symm.trans h0_) (by decide), fun h0_ => absurd ((hoff 13 (by kernel_rfl)).symm.trans h0_) (by decide), fun h0_ => absurd ((hoff 15 (by kernel_rfl)).symm.trans h0_) (by decide), fun h0_ => absurd ((hoff 17 (by kernel_rfl)).symm.trans h0_) (by decide)⟩
            refine steps_cons ?_ ?_
            · rintro b a w' ⟨vc, g6, v7, g10, v11, vt, m6_, m10_, m12_, m13_, m15_, m17_, ha, Q_HB5, Q_FC, Q_FL, Q_FJ, Q_FN, Q_FR, Q_FO, Q_FT, Q_X6_, Q_X10_, Q_X12_, Q_X13_, Q_X15_, Q_X17_⟩ hb_ hon hoff
              refine ⟨_, rfl, fun K hK => ?_⟩
              have e15 : a.tmps[15]? = some (.int .i64 nd) := by rw [ha]; exact (putSel_off rfl).trans rfl
              replace ha := Aside0.mk ha
              have HB5 := Aside0.mk Q_HB5
              have FR := Aside0.mk (Q_FR (hoff 11 (by kernel_rfl)))
              refine value_ (w1 := w') (v := .int .i64 nd) (by rfl) rfl ?_ ?_
              · go_simp
                (try simp only [i64_w])
                try rfl
              refine hK.out _ _ ⟨vc, g6, v7, g10, v11, vt, m6_, m10_, m12_, m13_, m15_, m17_, (by rw [ha.out]; exact putSel_upk 9 hb_ rfl rfl rfl), Q_HB5, Q_FC, Q_FL, Q_FJ, fun h0_ _ => absurd ((hoff 10 (by kernel_rfl)).symm.trans h0_) (by decide), Q_FR, fun h0_ _ => absurd ((hoff 11 (by kernel_rfl)).symm.trans h0_) (by decide), fun h0_ => absurd ((hoff 12 (by kernel_rfl)).symm.trans h0_) (by decide), Q_X6_, fun h0_ => absurd ((hoff 10 (by kernel_rfl)).symm.trans h0_) (by decide), fun h0_ => absurd ((hoff 12 (by kernel_rfl)).symm.trans h0_) (by decide), fun h0_ => absurd ((hoff 13 (by kernel_rfl)).symm.trans h0_) (by decide), fun h0_ => absurd ((hoff 15 (by kernel_rfl)).symm.trans h0_) (by decide), fun h0_ => absurd ((hoff 17 (by kernel_rfl)).symm.trans h0_) (by decide)⟩
            refine steps_cons ?_ ?_
            · rintro b a w' ⟨vc, g6, v7, g10, v11, vt, m6_, m10_, m12_, m13_, m15_, m17_, ha, Q_HB5, Q_FC, Q_FL, Q_FJ, Q_FN, Q_FR, Q_FO, Q_FT, Q_X6_, Q_X10_, Q_X12_, Q_X13_, Q_X15_, Q_X17_⟩ hb_ hon hoff
              refine ⟨_, rfl, fun K hK => ?_⟩
              have e60 : a.tmps[60]? = some (.int .i64 nd) := by rw [ha]; exact putSel_on (e := (9, 60, .int .i64 nd)) 9 rfl rfl (hon 9 (by kernel_rfl)) rfl
              replace ha := Aside0.mk ha
              have HB5 := Aside0.mk Q_HB5
              have FR := Aside0.mk (Q_FR (hoff 11 (by kernel_rfl)))
              refine value_ (w1 := ?_) (v := ?_) (by rfl) rfl ?_ ?_
              rotate_left 2
              · go_simp
                constructor
                · rfl
                · rfl
              refine hK.out _ _ ⟨vc, g6, v7, w'.heap.size, v11, vt, m6_, (.slice (some ⟨w'.heap.size, 0, none⟩) 1 1), m12_, m13_, m15_, m17_, (by rw [ha.out]; exact putSel_upk 10 hb_ rfl rfl rfl), (below_alloc HB5.out _), fun h0_ h1_ => (Kd.R_alloc (Q_FC h0_ h1_) _), fun h0_ h1_ => (blk_alloc (Q_FL h0_ h1_) _), fun h0_ h1_ => (Kd.R_alloc (Q_FJ h0_ h1_) _), fun _ _ => (Blk.new _ _ HB5.out.size _), fun _ => (Kd.R_alloc FR.out _), fun h0_ _ => absurd ((hoff 11 (by kernel_rfl)).symm.trans h0_) (by decide), fun h0_ => absurd ((hoff 12 (by kernel_rfl)).symm.trans h0_) (by decide), Q_X6_, fun _ => rfl, fun h0_ => absurd ((hoff 12 (by kernel_rfl)).symm.trans h0_) (by decide), fun h0_ => absurd ((hoff 13 (by kernel_rfl)).symm.trans h0_) (by decide), fun h0_ => absurd ((hoff 15 (by kernel_rfl)).symm.trans h0_) (by decide), fun h0_ => absurd ((hoff 17 (by kernel_rfl)).symm.trans h0_) (by decide)⟩
            refine steps_cons ?_ ?_
            · rintro b a w' ⟨vc, g6, v7, g10, v11, vt, m6_, m10_, m12_, m13_, m15_, m17_, ha, Q_HB5, Q_FC, Q_FL, Q_FJ, Q_FN, Q_FR, Q_FO, Q_FT, Q_X6_, Q_X10_, Q_X12_, Q_X13_, Q_X15_, Q_X17_⟩ hb_ hon hoff
              refine ⟨_, rfl, fun K hK => ?_⟩
              have e59 : a.tmps[59]? = some (vr) := by rw [ha]; exact putSel_on (e := (8, 59, vr)) 8 rfl rfl (hon 8 (by kernel_rfl)) rfl
              have e61 : a.tmps[61]? = some (m10_) := by rw [ha]; exact putSel_on (e := (10, 61, m10_)) 10 rfl rfl (hon 10 (by kernel_rfl)) rfl
              rw [Q_X10_ (hon 10 (by kernel_rfl))] at e61
              replace ha := Aside0.mk ha
              have HB5 := Aside0.mk Q_HB5
              have FJ := Aside0.mk (Q_FJ (hon 7 (by kernel_rfl)) (hoff 12 (by kernel_rfl)))
              have FN := Aside0.mk (Q_FN (hon 10 (by kernel_rfl)) hb_)
              have FR := Aside0.mk (Q_FR hb_)
              refine Kd.R_append_rows_step (Kd.int .i64) (w0 := w9) (W := w') w9.heap.size (by rfl) (.tmp 59) (.tmp 61) 25 3 (.int .i64 0) 8 (by rfl) Try.underlying25 info3 (by rfl) (by decide) (by omega) vr rst [nd] (some ⟨g10, 0, none⟩) 1 1 (fun _ => True) (fun _ => False) (by simp only [Act.eval, Array.getD_eq_getD_getElem?, e59, Option.getD_some]) (by simp only [Act.eval, Array.getD_eq_getD_getElem?, e61, Option.getD_some]) FR.out (Kd.R_reads' (FN.out.R (by simp))).2.2 (fun _ _ h => h) (fun _ hk => hk.elim) (fun _ _ => trivial) HB5.out HB5.out.size (by have := HSZ.out; omega) ?_
              intro v1 w1 ho hb hg hat
              refine hK.out _ _ ⟨vc, g6, v7, g10, v1, vt, m6_, m10_, m12_, m13_, m15_, m17_, (by rw [ha.out]; exact putSel_upk 11 hb_ rfl rfl rfl), hb, fun _ h1_ => absurd ((hon 7 (by kernel_rfl)).symm.trans h1_) (by decide), fun _ h1_ => absurd ((hon 7 (by kernel_rfl)).symm.trans h1_) (by decide), fun _ _ => (Kd.R_over' FJ.out (Kd.R_typed FR.out) (by decide) hg), fun _ h1_ => absurd ((up_self b 11).symm.trans h1_) (by decide), fun h0_ => absurd ((up_self b 11).symm.trans h0_) (by decide), fun _ _ => ho, fun h0_ => absurd ((hoff 12 (by kernel_rfl)).symm.trans h0_) (by decide), Q_X6_, Q_X10_, fun h0_ => absurd ((hoff 12 (by kernel_rfl)).symm.trans h0_) (by decide), fun h0_ => absurd ((hoff 13 (by kernel_rfl)).symm.trans h0_) (by decide), fun h0_ => absurd ((hoff 15 (by kernel_rfl)).symm.trans h0_) (by decide), fun h0_ => absurd ((hoff 17 (by kernel_rfl)).symm.trans h0_) (by decide)⟩
            refine steps_cons ?_ ?_
            · rintro b a w' ⟨vc, g6, v7, g10, v11, vt, m6_, m10_, m12_, m13_, m15_, m17_, ha, Q_HB5, Q_FC, Q_FL, Q_FJ, Q_FN, Q_FR, Q_FO, Q_FT, Q_X6_, Q_X10_, Q_X12_, Q_X13_, Q_X15_, Q_X17_⟩ hb_ hon hoff
              refine ⟨_, rfl, fun K hK => ?_⟩
              have e51 : a.tmps[51]? = some (.slice AT t.length cT) := by rw [ha]; exact putSel_on (e := (0, 51, .slice AT t.length cT)) 0 rfl rfl (hon 0 (by kernel_rfl)) rfl
              have e58 : a.tmps[58]? = some (v7) := by rw [ha]; exact putSel_on (e := (7, 58, v7)) 7 rfl rfl (hon 7 (by kernel_rfl)) rfl
              have e62 : a.tmps[62]? = some (v11) := by rw [ha]; exact putSel_on (e := (11, 62, v11)) 11 rfl rfl (hon 11 (by kernel_rfl)) rfl
              replace ha := Aside0.mk ha
              have HB5 := Aside0.mk Q_HB5
              have FJ := Aside0.mk (Q_FJ (hon 7 (by kernel_rfl)) hb_)
              have FO := Aside0.mk (Q_FO (hon 11 (by kernel_rfl)) hb_)
              obtain ⟨A11, c11, e11_⟩ := Kd.R_slice FO.out
              have fo_ := FO.out
              rw [e11_] at fo_ e62
              clear e11_
              have hcall := HIH.out v7 A11 c11 w' HB5.out.size (Kd.C_below HT.out HB5.out) FJ.out (Kd.R_reads' fo_).2.2 (Kd.R_reads' fo_).2.1
              refine goes_ Try.func64 (by kernel_rfl) rfl #[.slice AT t.length cT, v7, .slice A11 (rst ++ [nd]).length c11] (by rfl) rfl rfl (by first | (simp only [List.map_toArray, List.map_cons, List.map_nil, Act.eval, Array.getD_eq_getD_getElem?, Option.getD_some, e51, e58, e62]; done) | (simp only [List.map_toArray, List.map_cons, List.map_nil, Act.eval, Array.getD_eq_getD_getElem?, Option.getD_some, e51, e58, e62]; rfl)) ?_
              with_reducible refine hcall.mono ?_
              rintro e w4 ⟨vq, rfl, hR, hb⟩
              refine ⟨_, rfl, ?_⟩
              refine hK.out _ _ ⟨vc, g6, v7, g10, v11, vq, m6_, m10_, (.tuple #[.int .i64 n1, vq]), m13_, m15_, m17_, (by rw [ha.out]; exact putSel_upk 12 hb_ rfl rfl rfl), (HB5.out.trans (hb.mono HB5.out.size)), fun _ h1_ => absurd ((hon 7 (by kernel_rfl)).symm.trans h1_) (by decide), fun _ h1_ => absurd ((hon 7 (by kernel_rfl)).symm.trans h1_) (by decide), fun _ h1_ => absurd ((up_self b 12).symm.trans h1_) (by decide), fun _ h1_ => absurd ((hon 11 (by kernel_rfl)).symm.trans h1_) (by decide), fun h0_ => absurd ((hon 11 (by kernel_rfl)).symm.trans h0_) (by decide), fun _ h1_ => absurd ((up_self b 12).symm.trans h1_) (by decide), fun _ => hR, Q_X6_, Q_X10_, fun _ => rfl, fun h0_ => absurd ((hoff 13 (by kernel_rfl)).symm.trans h0_) (by decide), fun h0_ => absurd ((hoff 15 (by kernel_rfl)).symm.trans h0_) (by decide), fun h0_ => absurd ((hoff 17 (by kernel_rfl)).symm.trans h0_) (by decide)⟩
            refine steps_cons ?_ ?_
            · rintro b a w' ⟨vc, g6, v7, g10, v11, vt, m6_, m10_, m12_, m13_, m15_, m17_, ha, Q_HB5, Q_FC, Q_FL, Q_FJ, Q_FN, Q_FR, Q_FO, Q_FT, Q_X6_, Q_X10_, Q_X12_, Q_X13_, Q_X15_, Q_X17_⟩ hb_ hon hoff
              refine ⟨_, rfl, fun K hK => ?_⟩
              have e63 : a.tmps[63]? = some (m12_) := by rw [ha]; exact putSel_on (e := (12, 63, m12_)) 12 rfl rfl (hon 12 (by kernel_rfl)) rfl
              rw [Q_X12_ (hon 12 (by kernel_rfl))] at e63
              replace ha := Aside0.mk ha
              have HB5 := Aside0.mk Q_HB5
              have FT := Aside0.mk (Q_FT (hon 12 (by kernel_rfl)))
              refine value_ (w1 := w') (v := .tuple #[.int .i64 n1, vt]) (by rfl) rfl ?_ ?_
              · go_simp
                (try simp only [i64_w])
                try rfl
              refine hK.out _ _ ⟨vc, g6, v7, g10, v11, vt, m6_, m10_, m12_, (.tuple #[.int .i64 n1, vt]), m15_, m17_, (by rw [ha.out]; exact putSel_upk 13 hb_ rfl rfl rfl), Q_HB5, fun _ h1_ => absurd ((hon 7 (by kernel_rfl)).symm.trans h1_) (by decide), fun _ h1_ => absurd ((hon 7 (by kernel_rfl)).symm.trans h1_) (by decide), fun _ h1_ => absurd ((hon 12 (by kernel_rfl)).symm.trans h1_) (by decide), fun _ h1_ => absurd ((hon 11 (by kernel_rfl)).symm.trans h1_) (by decide), fun h0_ => absurd ((hon 11 (by kernel_rfl)).symm.trans h0_) (by decide), fun _ h1_ => absurd ((hon 12 (by kernel_rfl)).symm.trans h1_) (by decide), Q_FT, Q_X6_, Q_X10_, Q_X12_, fun _ => rfl, fun h0_ => absurd ((hoff 15 (by kernel_rfl)).symm.trans h0_) (by decide), fun h0_ => absurd ((hoff 17 (by kernel_rfl)).symm.trans h0_) (by decide)⟩
            refine steps_cons ?_ ?_
            · rintro b a w' ⟨vc, g6, v7, g10, v11, vt, m6_, m10_, m12_, m13_, m15_, m17_, ha, Q_HB5, Q_FC, Q_FL, Q_FJ, Q_FN, Q_FR, Q_FO, Q_FT, Q_X6_, Q_X10_, Q_X12_, Q_X13_, Q_X15_, Q_X17_⟩ hb_ hon hoff
              refine ⟨_, rfl, fun K hK => ?_⟩
              have e50 : a.tmps[50]? = some (m13_) := by rw [ha]; exact putSel_on (e := (13, 50, m13_)) 13 rfl rfl (hon 13 (by kernel_rfl)) rfl
              rw [Q_X13_ (hon 13 (by kernel_rfl))] at e50
              replace ha := Aside0.mk ha
              have HB5 := Aside0.mk Q_HB5
              have FT := Aside0.mk (Q_FT (hon 12 (by kernel_rfl)))
              refine value_ (w1 := w') (v := .int .i64 n1) (by rfl) rfl ?_ ?_
              · go_simp
                (try simp only [i64_w])
                try rfl
              refine hK.out _ _ ⟨vc, g6, v7, g10, v11, vt, m6_, m10_, m12_, m13_, m15_, m17_, (by rw [ha.out]; exact putSel_upk 14 hb_ rfl rfl rfl), Q_HB5, fun _ h1_ => absurd ((hon 7 (by kernel_rfl)).symm.trans h1_) (by decide), fun _ h1_ => absurd ((hon 7 (by kernel_rfl)).symm.trans h1_) (by decide), fun _ h1_ => absurd ((hon 12 (by kernel_rfl)).symm.trans h1_) (by decide), fun _ h1_ => absurd ((hon 11 (by kernel_rfl)).symm.trans h1_) (by decide), fun h0_ => absurd ((hon 11 (by kernel_rfl)).symm.trans h0_) (by decide), fun _ h1_ => absurd ((hon 12 (by kernel_rfl)).symm.trans h1_) (by decide), Q_FT, Q_X6_, Q_X10_, Q_X12_, Q_X13_, Q_X15_, fun h0_ => absurd ((hoff 17 (by kernel_rfl)).symm.trans h0_) (by decide)⟩
            refine steps_cons ?_ ?_
            · rintro b a w' ⟨vc, g6, v7, g10, v11, vt, m6_, m10_, m12_, m13_, m15_, m17_, ha, Q_HB5, Q_FC, Q_FL, Q_FJ, Q_FN, Q_FR, Q_FO, Q_FT, Q_X6_, Q_X10_, Q_X12_, Q_X13_, Q_X15_, Q_X17_⟩ hb_ hon hoff
              refine ⟨_, rfl, fun K hK => ?_⟩
              have e50 : a.tmps[50]? = some (m13_) := by rw [ha]; exact putSel_on (e := (13, 50, m13_)) 13 rfl rfl (hon 13 (by kernel_rfl)) rfl
              rw [Q_X13_ (hon 13 (by kernel_rfl))] at e50
              replace ha := Aside0.mk ha
              have HB5 := Aside0.mk Q_HB5
              have FT := Aside0.mk (Q_FT (hon 12 (by kernel_rfl)))
              refine value_ (w1 := w') (v := vt) (by rfl) rfl ?_ ?_
              · go_simp
                (try simp only [i64_w])
                try rfl
              refine hK.out _ _ ⟨vc, g6, v7, g10, v11, vt, m6_, m10_, m12_, m13_, (vt), m17_, (by rw [ha.out]; exact putSel_upk 15 hb_ rfl rfl rfl), Q_HB5, fun _ h1_ => absurd ((hon 7 (by kernel_rfl)).symm.trans h1_) (by decide), fun _ h1_ => absurd ((hon 7 (by kernel_rfl)).symm.trans h1_) (by decide), fun _ h1_ => absurd ((hon 12 (by kernel_rfl)).symm.trans h1_) (by decide), fun _ h1_ => absurd ((hon 11 (by kernel_rfl)).symm.trans h1_) (by decide), fun h0_ => absurd ((hon 11 (by kernel_rfl)).symm.trans h0_) (by decide), fun _ h1_ => absurd ((hon 12 (by kernel_rfl)).symm.trans h1_) (by decide), Q_FT, Q_X6_, Q_X10_, Q_X12_, Q_X13_, fun _ => rfl, fun h0_ => absurd ((hoff 17 (by kernel_rfl)).symm.trans h0_) (by decide)⟩
            refine steps_cons ?_ ?_
            · rintro b a w' ⟨vc, g6, v7, g10, v11, vt, m6_, m10_, m12_, m13_, m15_, m17_, ha, Q_HB5, Q_FC, Q_FL, Q_FJ, Q_FN, Q_FR, Q_FO, Q_FT, Q_X6_, Q_X10_, Q_X12_, Q_X13_, Q_X15_, Q_X17_⟩ hb_ hon hoff
              refine ⟨_, rfl, fun K hK => ?_⟩
              have e64 : a.tmps[64]? = some (.int .i64 n1) := by rw [ha]; exact putSel_on (e := (14, 64, .int .i64 n1)) 14 rfl rfl (hon 14 (by kernel_rfl)) rfl
              replace ha := Aside0.mk ha
              have HB5 := Aside0.mk Q_HB5
              have FT := Aside0.mk (Q_FT (hon 12 (by kernel_rfl)))
              refine value_ (w1 := w') (v := .int .i64 n1) (by rfl) rfl ?_ ?_
              · go_simp
                (try simp only [i64_w])
                try rfl
              refine hK.out _ _ ⟨vc, g6, v7, g10, v11, vt, m6_, m10_, m12_, m13_, m15_, m17_, (by rw [ha.out]; exact putSel_upk 16 hb_ rfl rfl rfl), Q_HB5, fun _ h1_ => absurd ((hon 7 (by kernel_rfl)).symm.trans h1_) (by decide), fun _ h1_ => absurd ((hon 7 (by kernel_rfl)).symm.trans h1_) (by decide), fun _ h1_ => absurd ((hon 12 (by kernel_rfl)).symm.trans h1_) (by decide), fun _ h1_ => absurd ((hon 11 (by kernel_rfl)).symm.trans h1_) (by decide), fun h0_ => absurd ((hon 11 (by kernel_rfl)).symm.trans h0_) (by decide), fun _ h1_ => absurd ((hon 12 (by kernel_rfl)).symm.trans h1_) (by decide), Q_FT, Q_X6_, Q_X10_, Q_X12_, Q_X13_, Q_X15_, fun h0_ => absurd ((hoff 17 (by kernel_rfl)).symm.trans h0_) (by decide)⟩
            refine steps_cons ?_ ?_
            · rintro b a w' ⟨vc, g6, v7, g10, v11, vt, m6_, m10_, m12_, m13_, m15_, m17_, ha, Q_HB5, Q_FC, Q_FL, Q_FJ, Q_FN, Q_FR, Q_FO, Q_FT, Q_X6_, Q_X10_, Q_X12_, Q_X13_, Q_X15_, Q_X17_⟩ hb_ hon hoff
              refine ⟨_, rfl, fun K hK => ?_⟩
              have e65 : a.tmps[65]? = some (m15_) := by rw [ha]; exact putSel_on (e := (15, 65, m15_)) 15 rfl rfl (hon 15 (by kernel_rfl)) rfl
              rw [Q_X15_ (hon 15 (by kernel_rfl))] at e65
              replace ha := Aside0.mk ha
              have HB5 := Aside0.mk Q_HB5
              have FT := Aside0.mk (Q_FT (hon 12 (by kernel_rfl)))
              refine value_ (w1 := w') (v := vt) (by rfl) rfl ?_ ?_
              · go_simp
                (try simp only [i64_w])
                try rfl
              refine hK.out _ _ ⟨vc, g6, v7, g10, v11, vt, m6_, m10_, m12_, m13_, m15_, (vt), (by rw [ha.out]; exact putSel_upk 17 hb_ rfl rfl rfl), Q_HB5, fun _ h1_ => absurd ((hon 7 (by kernel_rfl)).symm.trans h1_) (by decide), fun _ h1_ => absurd ((hon 7 (by kernel_rfl)).symm.trans h1_) (by decide), fun _ h1_ => absurd ((hon 12 (by kernel_rfl)).symm.trans h1_) (by decide), fun _ h1_ => absurd ((hon 11 (by kernel_rfl)).symm.trans h1_) (by decide), fun h0_ => absurd ((hon 11 (by kernel_rfl)).symm.trans h0_) (by decide), fun _ h1_ => absurd ((hon 12 (by kernel_rfl)).symm.trans h1_) (by decide), Q_FT, Q_X6_, Q_X10_, Q_X12_, Q_X13_, Q_X15_, fun _ => rfl⟩
            exact steps_nil
          rintro b a w' hall ⟨vc, g6, v7, g10, v11, vt, m6_, m10_, m12_, m13_, m15_, m17_, ha, Q_HB5, Q_FC, Q_FL, Q_FJ, Q_FN, Q_FR, Q_FO, Q_FT, Q_X6_, Q_X10_, Q_X12_, Q_X13_, Q_X15_, Q_X17_⟩
          clear FR HB5
          have hb0_ := hall 0 (by kernel_rfl)
          have hb1_ := hall 1 (by kernel_rfl)
          have hb2_ := hall 2 (by kernel_rfl)
          have hb3_ := hall 3 (by kernel_rfl)
          have hb4_ := hall 4 (by kernel_rfl)
          have hb5_ := hall 5 (by kernel_rfl)
          have hb6_ := hall 6 (by kernel_rfl)
          have hb7_ := hall 7 (by kernel_rfl)
          have hb8_ := hall 8 (by kernel_rfl)
          have hb9_ := hall 9 (by kernel_rfl)
          have hb10_ := hall 10 (by kernel_rfl)
          have hb11_ := hall 11 (by kernel_rfl)
          have hb12_ := hall 12 (by kernel_rfl)
          have hb13_ := hall 13 (by kernel_rfl)
          have hb14_ := hall 14 (by kernel_rfl)
          have hb15_ := hall 15 (by kernel_rfl)
          have hb16_ := hall 16 (by kernel_rfl)
          have hb17_ := hall 17 (by kernel_rfl)
          subst ha
          obtain rfl := Q_X6_ hb6_
          obtain rfl := Q_X10_ hb10_
          obtain rfl := Q_X12_ hb12_
          obtain rfl := Q_X13_ hb13_
          obtain rfl := Q_X15_ hb15_
          obtain rfl := Q_X17_ hb17_
          simp only [putSel, hb0_, hb1_, hb2_, hb3_, hb4_, hb5_, hb6_, hb7_, hb8_, hb9_, hb10_, hb11_, hb12_, hb13_, hb14_, hb15_, hb16_, hb17_, if_true, Act.put, List.setIfInBounds_toArray, List.set_cons_zero, List.set_cons_succ]
          have HB5 := Aside0.mk Q_HB5
          clear Q_HB5
          clear Q_FC
          clear Q_FL
          clear Q_FJ
          clear Q_FN
          clear Q_FR
          clear Q_FO
          have FT := Aside0.mk (Q_FT hb12_)
          clear Q_FT
          clear hall hb0_ hb1_ hb2_ hb3_ hb4_ hb5_ hb6_ hb7_ hb8_ hb9_ hb10_ hb11_ hb12_ hb13_ hb14_ hb15_ hb16_ hb17_
          have HBz := Aside0.mk (HB9.out.trans (HB5.out.mono HB9.out.size))
          have HRz := Aside0.mk (Kd.R_below HR9.out HB5.out)
          have HTz := Aside0.mk (Kd.R_lower FT.out HBB9.out)
          clear FT HB5 HR9 HB9 CA CB HT HJC HIH HCO9 hHeld HT_ HW_
          by_cases h0 : acc2.1 < 0
          · have hd0 : decide (acc2.1 < 0) = true := decide_eq_true h0
            have HX := Aside0.mk (show bIn F pa (O2.drop (j + 1)) (n1, r2') = some acc' by have := HIN2.out; unfold btr at this; rw [if_pos (Or.inl h0)] at this; exact this)
            clear h0
            go_wp2_with (fail)
            all_goals
              go_roundg (L2 - (j + 1))
              case measure => have := HLT2.out; omega
              case rel => exact ⟨j + 1, (n1, r2'), HLT2.out.1, Nat.le_refl _, rfl, by go_num, HX, HTz, HBz⟩
          · have hd0 : decide (acc2.1 < 0) = false := decide_eq_false h0
            by_cases h1_ : n1 < acc2.1
            · have hd1 : decide (n1 < acc2.1) = true := decide_eq_true h1_
              have HX := Aside0.mk (show bIn F pa (O2.drop (j + 1)) (n1, r2') = some acc' by have := HIN2.out; unfold btr at this; rw [if_pos (Or.inr h1_)] at this; exact this)
              clear h0 h1_
              go_wp2_with (fail)
              all_goals
                go_roundg (L2 - (j + 1))
                case measure => have := HLT2.out; omega
                case rel => exact ⟨j + 1, (n1, r2'), HLT2.out.1, Nat.le_refl _, rfl, by go_num, HX, HTz, HBz⟩
            · have hd1 : decide (n1 < acc2.1) = false := decide_eq_false h1_
              have HX := Aside0.mk (show bIn F pa (O2.drop (j + 1)) acc2 = some acc' by have := HIN2.out; unfold btr at this; rw [if_neg (fun h_ => h_.elim h0 h1_)] at this; exact this)
              clear h0 h1_
              go_wp2_with (fail)
              all_goals
                go_roundg (L2 - (j + 1))
                case measure => have := HLT2.out; omega
                case rel => exact ⟨j + 1, acc2, HLT2.out.1, Nat.le_refl _, rfl, by go_num, HX, HRz, HBz⟩
        · have hltb2 : decide ((j : Int) < (L2 : Int)) = false := decide_eq_false (by omega)
          have hltc2 : decide (j < L2) = false := decide_eq_false hlt2
          have hfin : acc2 = acc' := by
            have := HA2.out
            rw [List.drop_of_length_le (by have := HLO.out; omega)] at this
            exact Option.some.inj this
          subst hfin
          have HBz := Aside0.mk (HB7.out.trans (HBw2.out.mono HB7.out.size))
          clear hlt2 hgg2 hj HA2
          go_wp2_with (fail)
          all_goals
            go_roundg (O.length - (i + 1))
            case measure => have := HLT.out; omega
            case rel => exact ⟨i + 1, acc2, HLT.out.1, Nat.le_refl _, rfl, by go_num, ⟨by rw [HO2.out]; exact HOUT.out⟩, HR2, HBz⟩
    · have hltb : decide ((i : Int) < (O.length : Int)) = false := decide_eq_false (by omega)
      have hltc : decide (i < O.length) = false := decide_eq_false hlt
      have hfin : acc = (r1, r2) := by
        have := HA.out
        rw [List.drop_of_length_le (by omega)] at this
        exact Option.some.inj this
      subst hfin
      clear hlt hgg hi HA
      go_wp2
      go_ret2
      exact ⟨_, rfl, HR.out, HBw.out⟩
theorem best_at (k : Nat) (t : List (List Int)) : ∀ m, BestAt k t m
  | 0 => best_zero k t
  | m + 1 => fun J O AT cT vJ AO cO B r1 r2 w hB ht hcT hJ hO hcO hok hm h => by
    obtain ⟨AJ, cJ, rfl⟩ := Kd.R_slice hJ
    exact best_top k t m (best_at k t m) J O AT cT AJ cJ AO cO B r1 r2 w hB ht hcT (Kd.R_reads' hJ).2.2 hO hcO hok hm h
/-- best's contract. -/
theorem track_best.calls (k : Nat) (A0 : Option Addr) (c0 : Nat) (l0 : List (List Int)) (A1 : Option Addr) (c1 : Nat) (l1 : List S67) (A2 : Option Addr) (c2 : Nat) (l2 : List Int) (r1 : Int) (r2 : List S67) (w : World)
    (hr0 : Kd.C (Kd.slice 3 (Kd.int .i64)) w A0 l0.length l0) (hc0 : l0.length ≤ c0) (hr1 : Kd.C k67 w A1 l1.length l1) (hc1 : l1.length ≤ c1) (hr2 : Kd.C (Kd.int .i64) w A2 l2.length l2) (hc2 : l2.length ≤ c2) (h : track_best.f k l0 l1 l2 = some (r1, r2)) :
    Calls Try.prog 64 #[.slice A0 l0.length c0, .slice A1 l1.length c1, .slice A2 l2.length c2] w fun e w' => ∃ v1_ : Value, e = .returned (.tuple #[.int .i64 r1, v1_]) ∧ Kd.R k67 67 w' w.heap.size (fun _ => True) v1_ r2 ∧ Below w.heap.size w w' := by
  unfold track_best.f at h
  split at h
  case isFalse => cases h
  rename_i hk
  rw [show l2.length - 1 = (l2.length - 2) + 1 by omega] at h
  exact best_top k l0 (l2.length - 2) (best_at k l0 _) l1 l2 A0 c0 A1 c1 A2 c2 w.heap.size r1 r2 w (Nat.le_refl _) hr0 hc0 hr1 hr2 hc2 hk.1 (by omega) h
end Go.Proofs.Ytcphmeeighhdjaa.P
