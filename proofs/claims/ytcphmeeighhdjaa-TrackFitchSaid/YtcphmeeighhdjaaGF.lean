/- The contract of sankoff: the tables of all nodes. -/
import Derived.Test.YtcphmeeighhdjaaGE
import Derived.Deep.RegionHeld3
namespace Go.Proofs.Ytcphmeeighhdjaa.P
set_option linter.unusedVariables false
open Go Go.RowKit Go.Proofs.YtcphmeeighhdjaaW.PrintWords Go.Proofs.YtcphmeeighhdjaaW.PrintLast Go.Proofs.YtcphmeeighhdjaaW.PrintMore
def sankoff.T5 : Bool × List (List Nat × List Nat) := (true, [([], []), ([], []), ([1], [1]), ([2], [2]), ([3], [3]), ([0, 4], [0, 4]), ([], []), ([6], [6]), ([7], [7]), ([8], [8]), ([9, 9], [9]), ([5, 10], [5, 10]), ([], []), ([12, 11, 5, 0, 1, 2, 3, 4, 5, 6, 7, 8, 9, 10, 11, 12], [11, 12])])
def sankoff.B5 : List Nat := [0, 0, 2, 6, 14, 31, 0, 64, 192, 448, 960, 2047, 0, 8191]
theorem sankoff.tab5 : rtab .any (opsOf Try.f74 5) = sankoff.T5 := by kernel_rfl
theorem sankoff.bits5 : waitsOk sankoff.T5.2 sankoff.B5 = true := by kernel_rfl
def sankoff.T13 : Bool × List (List Nat × List Nat) := (true, [([], []), ([], []), ([1], [1]), ([2], [2]), ([3], [3]), ([0, 4], [0, 4]), ([], []), ([6], [6]), ([7], [7]), ([8], [8]), ([9, 9], [9]), ([5, 10], [5, 10]), ([], []), ([12, 11, 5, 0, 1, 2, 3, 4, 5, 6, 7, 8, 9, 10, 11, 12], [11, 12])])
def sankoff.B13 : List Nat := [0, 0, 2, 6, 14, 31, 0, 64, 192, 448, 960, 2047, 0, 8191]
theorem sankoff.tab13 : rtab .any (opsOf Try.f74 13) = sankoff.T13 := by kernel_rfl
theorem sankoff.bits13 : waitsOk sankoff.T13.2 sankoff.B13 = true := by kernel_rfl
def sankoff.T6 : Bool × List (List Nat × List Nat) := (true, [([], []), ([0], [0]), ([], []), ([], []), ([3], [3]), ([], []), ([1, 2, 0, 1, 2], [1, 2]), ([6, 0, 1, 2], [6]), ([4, 5, 0, 1, 2, 3, 4, 5, 6, 7], [4, 5]), ([8, 7, 0, 1, 2, 3, 4, 5, 6, 7], [8])])
def sankoff.B6 : List Nat := [0, 1, 0, 0, 8, 0, 7, 71, 255, 511]
theorem sankoff.tab6 : rtab .any (opsOf Try.f74 6) = sankoff.T6 := by kernel_rfl
theorem sankoff.bits6 : waitsOk sankoff.T6.2 sankoff.B6 = true := by kernel_rfl
def sankoff.T20 : Bool × List (List Nat × List Nat) := (true, [([], []), ([0], [0]), ([], []), ([], []), ([3], [3]), ([], []), ([], []), ([], []), ([6, 7], [6, 7]), ([], []), ([], []), ([9, 10], [9, 10]), ([1, 2, 0, 1, 2, 6, 7, 8], [1, 2]), ([12, 8, 0, 1, 2, 6, 7, 8], [8, 12]), ([4, 5, 0, 1, 2, 3, 4, 5, 6, 7, 8, 9, 10, 11, 12, 13], [4, 5]), ([14, 11, 13, 0, 1, 2, 3, 4, 5, 6, 7, 8, 9, 10, 11, 12, 13], [11, 14])])
def sankoff.B20 : List Nat := [0, 1, 0, 0, 8, 0, 0, 0, 192, 0, 0, 1536, 455, 4551, 16383, 32767]
theorem sankoff.tab20 : rtab .any (opsOf Try.f74 20) = sankoff.T20 := by kernel_rfl
theorem sankoff.bits20 : waitsOk sankoff.T20.2 sankoff.B20 = true := by kernel_rfl
set_option maxRecDepth 100000 in
set_option maxHeartbeats 8000000 in
theorem sankoff_calls (w : World) (G : Nat) (n : Int) (AJ : Option Addr) (cJ : Nat) (J : List S67) (AL : Option Addr) (cL : Nat) (L : List Int) (k : Nat) (B : Nat) (AC : Option Addr) (cC : Nat) (C : List (List Int))
    (hp : Prob w G n AJ cJ J AL cL L k B AC cC C) (hk : k ≤ 8) (hL : (∀ s ∈ L, 0 ≤ s ∧ s < k) ∧ L.length ≤ 100) (AF : Option Addr) (cF : Nat) (F : List Int) (rF : Kd.C (Kd.int .i64) w AF F.length F) (hF : F.length = J.length)
    (hC : C.length = k ∧ ∀ i : Nat, i < k → (rd_L3 C i).length = k) (hJ : (∀ i : Nat, i < J.length → 0 ≤ (rd_T67 J i).f0 ∧ (rd_T67 J i).f0 < L.length + i ∧ 0 ≤ (rd_T67 J i).f1 ∧ (rd_T67 J i).f1 < L.length + i) ∧ J.length ≤ 100) :
    Calls Try.prog 74 #[.pointer (some ⟨G, 0, none⟩), .slice AF F.length cF] w fun e w' => ∃ v, e = .returned v ∧ Kd.N k111 111 w' w.heap.size (fun _ => True) v (sankTo k C F J L J.length) ∧ Below w.heap.size w w' := by
  have HRF := Aside0.mk rF
  obtain ⟨w1, hw1⟩ : ∃ w1, w.alloc (.cells #[.pointer (some ⟨G, 0, none⟩)] 90) = w1 := ⟨_, rfl⟩
  have hb1 : Below w.heap.size w w1 := by rw [← hw1]; exact below_alloc (Below.refl _ _) _
  have hbp : w1.cell? ⟨w.heap.size, 0, none⟩ = some (.pointer (some ⟨G, 0, none⟩)) := by rw [← hw1]; simp
  have hp1 := hp.below hb1
  have q1 := hp1.c1
  have q2 := hp1.c2
  have q3 := hp1.c3
  have HQ := Aside0.mk (And.intro hb1 (And.intro hp1 hbp))
  have HK := Aside0.mk (And.intro hk hL)
  have HJ := Aside0.mk hJ
  have HC := Aside0.mk (And.intro hC hF)
  clear hp hb1 hp1 rF hk hL hJ hC hF
  go_enter Try.func74, Try.ntmps74
  go_wp2_with (fail)
  clear hw1
  go_loopg [5, 7, 8, 23] L.length (fun gg v5 v7 v8 v23 w' => ∃ (m : Nat), m ≤ L.length ∧ L.length - m ≤ gg ∧ v23 = .int .i64 m ∧ Aside0 (Below w1.heap.size w1 w') ∧ Aside0 (Kd.N k111 111 w' w1.heap.size (fun j => w1.heap.size ≤ j) v5 ((L.take m).map (leafTab k))))
  case atStart => exact ⟨0, Nat.zero_le _, by omega, rfl, ⟨Below.refl _ _⟩, ⟨Kd.N_nil _ _ _ _ _⟩⟩
  case round =>
    obtain ⟨m, hm, hgg, rfl, HB, HN⟩ := hrel
    by_cases hlt : m < L.length
    · have hltb : decide ((m : Int) < (L.length : Int)) = true := decide_eq_true (by omega)
      have hltc : decide (m < L.length) = true := decide_eq_true hlt
      have hltz : ((m : Int) < (L.length : Int)) = True := eq_true (by omega)
      obtain ⟨ad, e1, hx⟩ := Kd.at_int HQ.out.2.1.rL m (by omega) (by omega)
      cases e1
      rw [Int.toNat_natCast] at hx
      obtain ⟨s, hs⟩ : ∃ s : Nat, rd L m = (s : Int) := ⟨(rd L m).toNat, by have := (HK.out.2.1 _ (rd_mem L m (by omega) (by omega))).1; omega⟩
      have HS := Aside0.mk (show s < k by have := (HK.out.2.1 _ (rd_mem L m (by omega) (by omega))).2; omega)
      rw [hs] at hx
      replace hx := (HB.out.cell (World.block_lt_of_cell? _ _ hx)).trans hx
      have z0 := (HB.out.cell (World.block_lt_of_cell? _ _ hbp)).trans hbp
      have z3 := (HB.out.cell (World.block_lt_of_cell? _ _ q3)).trans q3
      have HLT := Aside0.mk hlt
      clear hbp q1 q2 q3
      go_wp2_with (fail)
      obtain ⟨i0, hi, hz0, hsz, hby⟩ := info_parts info3
      have hmk := fun W : World => run_make (P := Try.prog) (w := W) 25 3 i0 (.int .i64 0) Try.underlying25 hi hz0 .i64 .i64 (k : Int) (k : Int) (by omega) (by omega) (by have := HK.out.1; rw [hby]; omega) (by have := HK.out.1; omega)
      simp only [Int.toNat_natCast, hsz, Nat.mul_one] at hmk
      obtain ⟨i1, hi1, hz1, hsz1, hby1⟩ := info_parts info111
      have HREP := Aside0.mk (fun (W : World) (g : Nat) (h : W.cell? ⟨g, 0, none⟩ = some (.int .i64 1073741824)) => repeat_calls 1073741824 k HK.out.1 (some ⟨g, 0, none⟩) 1 W (lit1 W g _ h))
      replace z0 := cellD z0
      replace z3 := cellD z3
      have HB4 := Aside0.mk (below_drew1 HB.out)
      have HN4 := Aside0.mk (Kd.N_drew HN.out)
      clear HB HN hx
      refine start_ (n := 14) (S := fun w' => True) (ds := []) #[false, false, false, false, false, false, false, false, false, false, false, false, false, false] (by kernel_rfl) rfl rfl trivial (fun hHeld => ?_)
      refine with_tabW sankoff.tab5 sankoff.bits5 (fun HT_ HW_ => ?_)
      generalize wr.drew = w3 at z0 z3 HB4 HN4 hHeld ⊢
      have HB5 := Aside0.mk (Below.refl w3.heap.size w3)
      refine inv_at [0, 1, 2, 3, 4, 5, 6, 7, 8, 9, 10, 11, 12, 13] (fun a0_ b a w' => ∃ (g27 : Nat) (g32 : Nat) (g37 : Nat) (g8 : Nat) (m0_ : Value) (m5_ : Value) (m10_ : Value) (m11_ : Value) (m12_ : Value), a = putSel a0_ b [(0, 27, m0_), (1, 28, .pointer (some ⟨G, 0, none⟩)), (2, 29, .pointer (some ⟨G, 0, none⟩)), (3, 30, .pointer (some ⟨G, 3, none⟩)), (4, 31, .int .i64 (k : Int)), (5, 32, m5_), (6, 33, .pointer (some ⟨G, 0, none⟩)), (7, 34, .pointer (some ⟨G, 0, none⟩)), (8, 35, .pointer (some ⟨G, 3, none⟩)), (9, 36, .int .i64 (k : Int)), (10, 37, m10_), (11, 38, m11_), (12, 8, m12_)] ∧ (Below w3.heap.size w3 w') ∧ (b 0 = true → b 5 = false → w'.cell? ⟨g27, 0, none⟩ = some (.int .i64 1073741824)) ∧ (b 5 = true → Blk w' w3.heap.size g32 (ints (List.replicate k 1073741824))) ∧ (b 10 = true → Blk w' w3.heap.size g37 (ints (List.replicate k 0))) ∧ (b 12 = true → b 13 = false → Blk w' w3.heap.size g8 (tabO (.slice none 0 0) (.slice none 0 0))) ∧ (b 13 = true → Blk w' w3.heap.size g8 (tabO (.slice (some ⟨g32, 0, none⟩) k k) (.slice (some ⟨g37, 0, none⟩) k k))) ∧ (b 5 = true → b 10 = true → g32 ≠ g37) ∧ (b 5 = true → b 12 = true → g32 ≠ g8) ∧ (b 10 = true → b 12 = true → g37 ≠ g8) ∧ (b 0 = true → (m0_ : Value) = .slice (some ⟨g27, 0, none⟩) 1 1) ∧ (b 5 = true → (m5_ : Value) = .slice (some ⟨g32, 0, none⟩) k k) ∧ (b 10 = true → (m10_ : Value) = .slice (some ⟨g37, 0, none⟩) k k) ∧ (b 11 = true → (m11_ : Value) = .agg #[.slice (some ⟨g32, 0, none⟩) k k, .slice (some ⟨g37, 0, none⟩) k k]) ∧ (b 12 = true → (m12_ : Value) = .pointer (some ⟨g8, 0, none⟩))) HT_.out HW_.out (by kernel_rfl) (by kernel_rfl) ?_ ?_ ?_
      · exact ⟨0, 0, 0, 0, .bool false, .bool false, .bool false, .bool false, .bool false, by simp only [putSel, Bool.false_eq_true, if_false], HB5.out, fun h_ => absurd h_ (by decide), fun h_ => absurd h_ (by decide), fun h_ => absurd h_ (by decide), fun h_ => absurd h_ (by decide), fun h_ => absurd h_ (by decide), fun h_ => absurd h_ (by decide), fun h_ => absurd h_ (by decide), fun h_ => absurd h_ (by decide), fun h_ => absurd h_ (by decide), fun h_ => absurd h_ (by decide), fun h_ => absurd h_ (by decide), fun h_ => absurd h_ (by decide), fun h_ => absurd h_ (by decide)⟩
      · skip
        clear HB5
        refine steps_cons ?_ ?_
        · rintro b a w' ⟨g27, g32, g37, g8, m0_, m5_, m10_, m11_, m12_, ha, Q_HB5, Q_FL, Q_FR, Q_FM, Q_FT, Q_FS, Q_N1, Q_N2, Q_N3, Q_X0_, Q_X5_, Q_X10_, Q_X11_, Q_X12_⟩ hb_ hon hoff
          refine ⟨_, rfl, fun K hK => ?_⟩
          replace ha := Aside0.mk ha
          have HB5 := Aside0.mk Q_HB5
          refine value_ (w1 := ?_) (v := ?_) (by rfl) rfl ?_ ?_
          rotate_left 2
          · go_simp
            constructor
            · rfl
            · rfl
          refine hK.out _ _ ⟨w'.heap.size, g32, g37, g8, (.slice (some ⟨w'.heap.size, 0, none⟩) 1 1), m5_, m10_, m11_, m12_, (by rw [ha.out]; exact putSel_upk 0 hb_ rfl rfl rfl), (below_alloc HB5.out _), fun _ _ => (by simp), fun h0_ => absurd ((hoff 5 (by kernel_rfl)).symm.trans h0_) (by decide), fun h0_ => ((Q_FM h0_).alloc _), fun h0_ h1_ => ((Q_FT h0_ h1_).alloc _), fun h0_ => absurd ((hoff 13 (by kernel_rfl)).symm.trans h0_) (by decide), fun h0_ _ => absurd ((hoff 5 (by kernel_rfl)).symm.trans h0_) (by decide), fun h0_ _ => absurd ((hoff 5 (by kernel_rfl)).symm.trans h0_) (by decide), Q_N3, fun _ => rfl, fun h0_ => absurd ((hoff 5 (by kernel_rfl)).symm.trans h0_) (by decide), Q_X10_, fun h0_ => absurd ((hoff 11 (by kernel_rfl)).symm.trans h0_) (by decide), Q_X12_⟩
        refine steps_cons ?_ ?_
        · rintro b a w' ⟨g27, g32, g37, g8, m0_, m5_, m10_, m11_, m12_, ha, Q_HB5, Q_FL, Q_FR, Q_FM, Q_FT, Q_FS, Q_N1, Q_N2, Q_N3, Q_X0_, Q_X5_, Q_X10_, Q_X11_, Q_X12_⟩ hb_ hon hoff
          refine ⟨_, rfl, fun K hK => ?_⟩
          have e2 : a.tmps[2]? = some (.pointer (some ⟨w.heap.size, 0, none⟩)) := by rw [ha]; exact (putSel_off rfl).trans rfl
          replace ha := Aside0.mk ha
          have HB5 := Aside0.mk Q_HB5
          have z0_ := (HB5.out.cell (World.block_lt_of_cell? _ _ z0)).trans z0
          refine value_ (w1 := w') (v := .pointer (some ⟨G, 0, none⟩)) (by rfl) rfl ?_ ?_
          · go_simp
            (try simp only [i64_w])
            try rfl
          refine hK.out _ _ ⟨g27, g32, g37, g8, m0_, m5_, m10_, m11_, m12_, (by rw [ha.out]; exact putSel_upk 1 hb_ rfl rfl rfl), Q_HB5, Q_FL, fun h0_ => absurd ((hoff 5 (by kernel_rfl)).symm.trans h0_) (by decide), Q_FM, Q_FT, fun h0_ => absurd ((hoff 13 (by kernel_rfl)).symm.trans h0_) (by decide), fun h0_ _ => absurd ((hoff 5 (by kernel_rfl)).symm.trans h0_) (by decide), fun h0_ _ => absurd ((hoff 5 (by kernel_rfl)).symm.trans h0_) (by decide), Q_N3, Q_X0_, fun h0_ => absurd ((hoff 5 (by kernel_rfl)).symm.trans h0_) (by decide), Q_X10_, fun h0_ => absurd ((hoff 11 (by kernel_rfl)).symm.trans h0_) (by decide), Q_X12_⟩
        refine steps_cons ?_ ?_
        · rintro b a w' ⟨g27, g32, g37, g8, m0_, m5_, m10_, m11_, m12_, ha, Q_HB5, Q_FL, Q_FR, Q_FM, Q_FT, Q_FS, Q_N1, Q_N2, Q_N3, Q_X0_, Q_X5_, Q_X10_, Q_X11_, Q_X12_⟩ hb_ hon hoff
          refine ⟨_, rfl, fun K hK => ?_⟩
          have e28 : a.tmps[28]? = some (.pointer (some ⟨G, 0, none⟩)) := by rw [ha]; exact putSel_on (e := (1, 28, .pointer (some ⟨G, 0, none⟩))) 1 rfl rfl (hon 1 (by kernel_rfl)) rfl
          replace ha := Aside0.mk ha
          have HB5 := Aside0.mk Q_HB5
          refine value_ (w1 := w') (v := .pointer (some ⟨G, 0, none⟩)) (by rfl) rfl ?_ ?_
          · go_simp
            (try simp only [i64_w])
            try rfl
          refine hK.out _ _ ⟨g27, g32, g37, g8, m0_, m5_, m10_, m11_, m12_, (by rw [ha.out]; exact putSel_upk 2 hb_ rfl rfl rfl), Q_HB5, Q_FL, fun h0_ => absurd ((hoff 5 (by kernel_rfl)).symm.trans h0_) (by decide), Q_FM, Q_FT, fun h0_ => absurd ((hoff 13 (by kernel_rfl)).symm.trans h0_) (by decide), fun h0_ _ => absurd ((hoff 5 (by kernel_rfl)).symm.trans h0_) (by decide), fun h0_ _ => absurd ((hoff 5 (by kernel_rfl)).symm.trans h0_) (by decide), Q_N3, Q_X0_, fun h0_ => absurd ((hoff 5 (by kernel_rfl)).symm.trans h0_) (by decide), Q_X10_, fun h0_ => absurd ((hoff 11 (by kernel_rfl)).symm.trans h0_) (by decide), Q_X12_⟩
        refine steps_cons ?_ ?_
        · rintro b a w' ⟨g27, g32, g37, g8, m0_, m5_, m10_, m11_, m12_, ha, Q_HB5, Q_FL, Q_FR, Q_FM, Q_FT, Q_FS, Q_N1, Q_N2, Q_N3, Q_X0_, Q_X5_, Q_X10_, Q_X11_, Q_X12_⟩ hb_ hon hoff
          refine ⟨_, rfl, fun K hK => ?_⟩
          have e29 : a.tmps[29]? = some (.pointer (some ⟨G, 0, none⟩)) := by rw [ha]; exact putSel_on (e := (2, 29, .pointer (some ⟨G, 0, none⟩))) 2 rfl rfl (hon 2 (by kernel_rfl)) rfl
          replace ha := Aside0.mk ha
          have HB5 := Aside0.mk Q_HB5
          refine value_ (w1 := w') (v := .pointer (some ⟨G, 3, none⟩)) (by rfl) rfl ?_ ?_
          · go_simp
            (try simp only [i64_w])
            try rfl
          refine hK.out _ _ ⟨g27, g32, g37, g8, m0_, m5_, m10_, m11_, m12_, (by rw [ha.out]; exact putSel_upk 3 hb_ rfl rfl rfl), Q_HB5, Q_FL, fun h0_ => absurd ((hoff 5 (by kernel_rfl)).symm.trans h0_) (by decide), Q_FM, Q_FT, fun h0_ => absurd ((hoff 13 (by kernel_rfl)).symm.trans h0_) (by decide), fun h0_ _ => absurd ((hoff 5 (by kernel_rfl)).symm.trans h0_) (by decide), fun h0_ _ => absurd ((hoff 5 (by kernel_rfl)).symm.trans h0_) (by decide), Q_N3, Q_X0_, fun h0_ => absurd ((hoff 5 (by kernel_rfl)).symm.trans h0_) (by decide), Q_X10_, fun h0_ => absurd ((hoff 11 (by kernel_rfl)).symm.trans h0_) (by decide), Q_X12_⟩
        refine steps_cons ?_ ?_
        · rintro b a w' ⟨g27, g32, g37, g8, m0_, m5_, m10_, m11_, m12_, ha, Q_HB5, Q_FL, Q_FR, Q_FM, Q_FT, Q_FS, Q_N1, Q_N2, Q_N3, Q_X0_, Q_X5_, Q_X10_, Q_X11_, Q_X12_⟩ hb_ hon hoff
          refine ⟨_, rfl, fun K hK => ?_⟩
          have e30 : a.tmps[30]? = some (.pointer (some ⟨G, 3, none⟩)) := by rw [ha]; exact putSel_on (e := (3, 30, .pointer (some ⟨G, 3, none⟩))) 3 rfl rfl (hon 3 (by kernel_rfl)) rfl
          replace ha := Aside0.mk ha
          have HB5 := Aside0.mk Q_HB5
          have z3_ := (HB5.out.cell (World.block_lt_of_cell? _ _ z3)).trans z3
          refine value_ (w1 := w') (v := .int .i64 (k : Int)) (by rfl) rfl ?_ ?_
          · go_simp
            (try simp only [i64_w])
            try rfl
          refine hK.out _ _ ⟨g27, g32, g37, g8, m0_, m5_, m10_, m11_, m12_, (by rw [ha.out]; exact putSel_upk 4 hb_ rfl rfl rfl), Q_HB5, Q_FL, fun h0_ => absurd ((hoff 5 (by kernel_rfl)).symm.trans h0_) (by decide), Q_FM, Q_FT, fun h0_ => absurd ((hoff 13 (by kernel_rfl)).symm.trans h0_) (by decide), fun h0_ _ => absurd ((hoff 5 (by kernel_rfl)).symm.trans h0_) (by decide), fun h0_ _ => absurd ((hoff 5 (by kernel_rfl)).symm.trans h0_) (by decide), Q_N3, Q_X0_, fun h0_ => absurd ((hoff 5 (by kernel_rfl)).symm.trans h0_) (by decide), Q_X10_, fun h0_ => absurd ((hoff 11 (by kernel_rfl)).symm.trans h0_) (by decide), Q_X12_⟩
        refine steps_cons ?_ ?_
        · rintro b a w' ⟨g27, g32, g37, g8, m0_, m5_, m10_, m11_, m12_, ha, Q_HB5, Q_FL, Q_FR, Q_FM, Q_FT, Q_FS, Q_N1, Q_N2, Q_N3, Q_X0_, Q_X5_, Q_X10_, Q_X11_, Q_X12_⟩ hb_ hon hoff
          refine ⟨_, rfl, fun K hK => ?_⟩
          have e27 : a.tmps[27]? = some (m0_) := by rw [ha]; exact putSel_on (e := (0, 27, m0_)) 0 rfl rfl (hon 0 (by kernel_rfl)) rfl
          rw [Q_X0_ (hon 0 (by kernel_rfl))] at e27
          have e31 : a.tmps[31]? = some (.int .i64 (k : Int)) := by rw [ha]; exact putSel_on (e := (4, 31, .int .i64 (k : Int))) 4 rfl rfl (hon 4 (by kernel_rfl)) rfl
          replace ha := Aside0.mk ha
          have HB5 := Aside0.mk Q_HB5
          have FL := Aside0.mk (Q_FL (hon 0 (by kernel_rfl)) hb_)
          refine goes_ Try.func73 (by kernel_rfl) rfl #[.slice (some ⟨g27, 0, none⟩) 1 1, .int .i64 (k : Int)] (by rfl) rfl rfl (by first | (simp only [List.map_toArray, List.map_cons, List.map_nil, Act.eval, Array.getD_eq_getD_getElem?, Option.getD_some, e27, e31]; done) | (simp only [List.map_toArray, List.map_cons, List.map_nil, Act.eval, Array.getD_eq_getD_getElem?, Option.getD_some, e27, e31]; rfl)) ?_
          with_reducible refine (HREP.out w' g27 FL.out).mono ?_
          rintro e w4 ⟨gr, rfl, _, hb, hO, hG⟩
          refine ⟨_, rfl, ?_⟩
          refine hK.out _ _ ⟨g27, gr, g37, g8, m0_, (.slice (some ⟨gr, 0, none⟩) k k), m10_, m11_, m12_, (by rw [ha.out]; exact putSel_upk 5 hb_ rfl rfl rfl), (HB5.out.trans (hb.mono HB5.out.size)), fun _ h1_ => absurd ((up_self b 5).symm.trans h1_) (by decide), fun _ => ⟨hO, Nat.le_trans HB5.out.size hG⟩, fun h0_ => ((Q_FM h0_).below hb), fun h0_ h1_ => ((Q_FT h0_ h1_).below hb), fun h0_ => absurd ((hoff 13 (by kernel_rfl)).symm.trans h0_) (by decide), fun _ h_ => (fun e_ => absurd (Q_FM h_).lt (by omega)), fun _ h_ => (fun e_ => absurd (Q_FT h_ (hoff 13 (by kernel_rfl))).lt (by omega)), Q_N3, Q_X0_, fun _ => rfl, Q_X10_, fun h0_ => absurd ((hoff 11 (by kernel_rfl)).symm.trans h0_) (by decide), Q_X12_⟩
        refine steps_cons ?_ ?_
        · rintro b a w' ⟨g27, g32, g37, g8, m0_, m5_, m10_, m11_, m12_, ha, Q_HB5, Q_FL, Q_FR, Q_FM, Q_FT, Q_FS, Q_N1, Q_N2, Q_N3, Q_X0_, Q_X5_, Q_X10_, Q_X11_, Q_X12_⟩ hb_ hon hoff
          refine ⟨_, rfl, fun K hK => ?_⟩
          have e2 : a.tmps[2]? = some (.pointer (some ⟨w.heap.size, 0, none⟩)) := by rw [ha]; exact (putSel_off rfl).trans rfl
          replace ha := Aside0.mk ha
          have HB5 := Aside0.mk Q_HB5
          have z0_ := (HB5.out.cell (World.block_lt_of_cell? _ _ z0)).trans z0
          refine value_ (w1 := w') (v := .pointer (some ⟨G, 0, none⟩)) (by rfl) rfl ?_ ?_
          · go_simp
            (try simp only [i64_w])
            try rfl
          refine hK.out _ _ ⟨g27, g32, g37, g8, m0_, m5_, m10_, m11_, m12_, (by rw [ha.out]; exact putSel_upk 6 hb_ rfl rfl rfl), Q_HB5, Q_FL, Q_FR, fun h0_ => absurd ((hoff 10 (by kernel_rfl)).symm.trans h0_) (by decide), Q_FT, fun h0_ => absurd ((hoff 13 (by kernel_rfl)).symm.trans h0_) (by decide), fun _ h1_ => absurd ((hoff 10 (by kernel_rfl)).symm.trans h1_) (by decide), Q_N2, fun h0_ _ => absurd ((hoff 10 (by kernel_rfl)).symm.trans h0_) (by decide), Q_X0_, Q_X5_, fun h0_ => absurd ((hoff 10 (by kernel_rfl)).symm.trans h0_) (by decide), fun h0_ => absurd ((hoff 11 (by kernel_rfl)).symm.trans h0_) (by decide), Q_X12_⟩
        refine steps_cons ?_ ?_
        · rintro b a w' ⟨g27, g32, g37, g8, m0_, m5_, m10_, m11_, m12_, ha, Q_HB5, Q_FL, Q_FR, Q_FM, Q_FT, Q_FS, Q_N1, Q_N2, Q_N3, Q_X0_, Q_X5_, Q_X10_, Q_X11_, Q_X12_⟩ hb_ hon hoff
          refine ⟨_, rfl, fun K hK => ?_⟩
          have e33 : a.tmps[33]? = some (.pointer (some ⟨G, 0, none⟩)) := by rw [ha]; exact putSel_on (e := (6, 33, .pointer (some ⟨G, 0, none⟩))) 6 rfl rfl (hon 6 (by kernel_rfl)) rfl
          replace ha := Aside0.mk ha
          have HB5 := Aside0.mk Q_HB5
          refine value_ (w1 := w') (v := .pointer (some ⟨G, 0, none⟩)) (by rfl) rfl ?_ ?_
          · go_simp
            (try simp only [i64_w])
            try rfl
          refine hK.out _ _ ⟨g27, g32, g37, g8, m0_, m5_, m10_, m11_, m12_, (by rw [ha.out]; exact putSel_upk 7 hb_ rfl rfl rfl), Q_HB5, Q_FL, Q_FR, fun h0_ => absurd ((hoff 10 (by kernel_rfl)).symm.trans h0_) (by decide), Q_FT, fun h0_ => absurd ((hoff 13 (by kernel_rfl)).symm.trans h0_) (by decide), fun _ h1_ => absurd ((hoff 10 (by kernel_rfl)).symm.trans h1_) (by decide), Q_N2, fun h0_ _ => absurd ((hoff 10 (by kernel_rfl)).symm.trans h0_) (by decide), Q_X0_, Q_X5_, fun h0_ => absurd ((hoff 10 (by kernel_rfl)).symm.trans h0_) (by decide), fun h0_ => absurd ((hoff 11 (by kernel_rfl)).symm.trans h0_) (by decide), Q_X12_⟩
        refine steps_cons ?_ ?_
        · rintro b a w' ⟨g27, g32, g37, g8, m0_, m5_, m10_, m11_, m12_, ha, Q_HB5, Q_FL, Q_FR, Q_FM, Q_FT, Q_FS, Q_N1, Q_N2, Q_N3, Q_X0_, Q_X5_, Q_X10_, Q_X11_, Q_X12_⟩ hb_ hon hoff
          refine ⟨_, rfl, fun K hK => ?_⟩
          have e34 : a.tmps[34]? = some (.pointer (some ⟨G, 0, none⟩)) := by rw [ha]; exact putSel_on (e := (7, 34, .pointer (some ⟨G, 0, none⟩))) 7 rfl rfl (hon 7 (by kernel_rfl)) rfl
          replace ha := Aside0.mk ha
          have HB5 := Aside0.mk Q_HB5
          refine value_ (w1 := w') (v := .pointer (some ⟨G, 3, none⟩)) (by rfl) rfl ?_ ?_
          · go_simp
            (try simp only [i64_w])
            try rfl
          refine hK.out _ _ ⟨g27, g32, g37, g8, m0_, m5_, m10_, m11_, m12_, (by rw [ha.out]; exact putSel_upk 8 hb_ rfl rfl rfl), Q_HB5, Q_FL, Q_FR, fun h0_ => absurd ((hoff 10 (by kernel_rfl)).symm.trans h0_) (by decide), Q_FT, fun h0_ => absurd ((hoff 13 (by kernel_rfl)).symm.trans h0_) (by decide), fun _ h1_ => absurd ((hoff 10 (by kernel_rfl)).symm.trans h1_) (by decide), Q_N2, fun h0_ _ => absurd ((hoff 10 (by kernel_rfl)).symm.trans h0_) (by decide), Q_X0_, Q_X5_, fun h0_ => absurd ((hoff 10 (by kernel_rfl)).symm.trans h0_) (by decide), fun h0_ => absurd ((hoff 11 (by kernel_rfl)).symm.trans h0_) (by decide), Q_X12_⟩
        refine steps_cons ?_ ?_
        · rintro b a w' ⟨g27, g32, g37, g8, m0_, m5_, m10_, m11_, m12_, ha, Q_HB5, Q_FL, Q_FR, Q_FM, Q_FT, Q_FS, Q_N1, Q_N2, Q_N3, Q_X0_, Q_X5_, Q_X10_, Q_X11_, Q_X12_⟩ hb_ hon hoff
          refine ⟨_, rfl, fun K hK => ?_⟩
          have e35 : a.tmps[35]? = some (.pointer (some ⟨G, 3, none⟩)) := by rw [ha]; exact putSel_on (e := (8, 35, .pointer (some ⟨G, 3, none⟩))) 8 rfl rfl (hon 8 (by kernel_rfl)) rfl
          replace ha := Aside0.mk ha
          have HB5 := Aside0.mk Q_HB5
          have z3_ := (HB5.out.cell (World.block_lt_of_cell? _ _ z3)).trans z3
          refine value_ (w1 := w') (v := .int .i64 (k : Int)) (by rfl) rfl ?_ ?_
          · go_simp
            (try simp only [i64_w])
            try rfl
          refine hK.out _ _ ⟨g27, g32, g37, g8, m0_, m5_, m10_, m11_, m12_, (by rw [ha.out]; exact putSel_upk 9 hb_ rfl rfl rfl), Q_HB5, Q_FL, Q_FR, fun h0_ => absurd ((hoff 10 (by kernel_rfl)).symm.trans h0_) (by decide), Q_FT, fun h0_ => absurd ((hoff 13 (by kernel_rfl)).symm.trans h0_) (by decide), fun _ h1_ => absurd ((hoff 10 (by kernel_rfl)).symm.trans h1_) (by decide), Q_N2, fun h0_ _ => absurd ((hoff 10 (by kernel_rfl)).symm.trans h0_) (by decide), Q_X0_, Q_X5_, fun h0_ => absurd ((hoff 10 (by kernel_rfl)).symm.trans h0_) (by decide), fun h0_ => absurd ((hoff 11 (by kernel_rfl)).symm.trans h0_) (by decide), Q_X12_⟩
        refine steps_cons ?_ ?_
        · rintro b a w' ⟨g27, g32, g37, g8, m0_, m5_, m10_, m11_, m12_, ha, Q_HB5, Q_FL, Q_FR, Q_FM, Q_FT, Q_FS, Q_N1, Q_N2, Q_N3, Q_X0_, Q_X5_, Q_X10_, Q_X11_, Q_X12_⟩ hb_ hon hoff
          refine ⟨_, rfl, fun K hK => ?_⟩
          have e36 : a.tmps[36]? = some (.int .i64 (k : Int)) := by rw [ha]; exact putSel_on (e := (9, 36, .int .i64 (k : Int))) 9 rfl rfl (hon 9 (by kernel_rfl)) rfl
          replace ha := Aside0.mk ha
          have HB5 := Aside0.mk Q_HB5
          refine value_ (w1 := ?_) (v := ?_) (by rfl) rfl ?_ ?_
          rotate_left 2
          · go_simp
            constructor
            · rfl
            · rfl
          refine hK.out _ _ ⟨g27, g32, w'.heap.size, g8, m0_, m5_, (.slice (some ⟨w'.heap.size, 0, none⟩) k k), m11_, m12_, (by rw [ha.out]; exact putSel_upk 10 hb_ rfl rfl rfl), (below_alloc HB5.out _), fun h0_ h1_ => (cellA (Q_FL h0_ h1_)), fun h0_ => ((Q_FR h0_).alloc _), fun _ => (by rw [madeInts]; exact Blk.new _ _ HB5.out.size _), fun h0_ h1_ => ((Q_FT h0_ h1_).alloc _), fun h0_ => absurd ((hoff 13 (by kernel_rfl)).symm.trans h0_) (by decide), fun h_ _ => (fun e_ => absurd (Q_FR h_).lt (by omega)), Q_N2, fun _ h_ => (fun e_ => absurd (Q_FT h_ (hoff 13 (by kernel_rfl))).lt (by omega)), Q_X0_, Q_X5_, fun _ => rfl, fun h0_ => absurd ((hoff 11 (by kernel_rfl)).symm.trans h0_) (by decide), Q_X12_⟩
        refine steps_cons ?_ ?_
        · rintro b a w' ⟨g27, g32, g37, g8, m0_, m5_, m10_, m11_, m12_, ha, Q_HB5, Q_FL, Q_FR, Q_FM, Q_FT, Q_FS, Q_N1, Q_N2, Q_N3, Q_X0_, Q_X5_, Q_X10_, Q_X11_, Q_X12_⟩ hb_ hon hoff
          refine ⟨_, rfl, fun K hK => ?_⟩
          have e32 : a.tmps[32]? = some (m5_) := by rw [ha]; exact putSel_on (e := (5, 32, m5_)) 5 rfl rfl (hon 5 (by kernel_rfl)) rfl
          rw [Q_X5_ (hon 5 (by kernel_rfl))] at e32
          have e37 : a.tmps[37]? = some (m10_) := by rw [ha]; exact putSel_on (e := (10, 37, m10_)) 10 rfl rfl (hon 10 (by kernel_rfl)) rfl
          rw [Q_X10_ (hon 10 (by kernel_rfl))] at e37
          replace ha := Aside0.mk ha
          have HB5 := Aside0.mk Q_HB5
          have FR := Aside0.mk (Q_FR (hon 5 (by kernel_rfl)))
          have FM := Aside0.mk (Q_FM (hon 10 (by kernel_rfl)))
          have N1 := Aside0.mk (Q_N1 (hon 5 (by kernel_rfl)) (hon 10 (by kernel_rfl)))
          refine value_ (w1 := w') (v := .agg #[.slice (some ⟨g32, 0, none⟩) k k, .slice (some ⟨g37, 0, none⟩) k k]) (by rfl) rfl ?_ ?_
          · go_simp
            (try simp only [i64_w])
            try rfl
          refine hK.out _ _ ⟨g27, g32, g37, g8, m0_, m5_, m10_, (.agg #[.slice (some ⟨g32, 0, none⟩) k k, .slice (some ⟨g37, 0, none⟩) k k]), m12_, (by rw [ha.out]; exact putSel_upk 11 hb_ rfl rfl rfl), Q_HB5, fun _ h1_ => absurd ((hon 5 (by kernel_rfl)).symm.trans h1_) (by decide), Q_FR, Q_FM, Q_FT, fun h0_ => absurd ((hoff 13 (by kernel_rfl)).symm.trans h0_) (by decide), Q_N1, Q_N2, Q_N3, Q_X0_, Q_X5_, Q_X10_, fun _ => rfl, Q_X12_⟩
        refine steps_cons ?_ ?_
        · rintro b a w' ⟨g27, g32, g37, g8, m0_, m5_, m10_, m11_, m12_, ha, Q_HB5, Q_FL, Q_FR, Q_FM, Q_FT, Q_FS, Q_N1, Q_N2, Q_N3, Q_X0_, Q_X5_, Q_X10_, Q_X11_, Q_X12_⟩ hb_ hon hoff
          refine ⟨_, rfl, fun K hK => ?_⟩
          replace ha := Aside0.mk ha
          have HB5 := Aside0.mk Q_HB5
          refine value_ (w1 := ?_) (v := ?_) (by rfl) rfl ?_ ?_
          rotate_left 2
          · go_simp
            constructor
            · rfl
            · rfl
          refine hK.out _ _ ⟨g27, g32, g37, w'.heap.size, m0_, m5_, m10_, m11_, (.pointer (some ⟨w'.heap.size, 0, none⟩)), (by rw [ha.out]; exact putSel_upk 12 hb_ rfl rfl rfl), (below_alloc HB5.out _), fun h0_ h1_ => (cellA (Q_FL h0_ h1_)), fun h0_ => ((Q_FR h0_).alloc _), fun h0_ => ((Q_FM h0_).alloc _), fun _ _ => (Blk.new _ _ HB5.out.size _), fun h0_ => absurd ((hoff 13 (by kernel_rfl)).symm.trans h0_) (by decide), Q_N1, fun h_ _ => (fun e_ => absurd (Q_FR h_).lt (by omega)), fun h_ _ => (fun e_ => absurd (Q_FM h_).lt (by omega)), Q_X0_, Q_X5_, Q_X10_, Q_X11_, fun _ => rfl⟩
        refine steps_cons ?_ ?_
        · rintro b a w' ⟨g27, g32, g37, g8, m0_, m5_, m10_, m11_, m12_, ha, Q_HB5, Q_FL, Q_FR, Q_FM, Q_FT, Q_FS, Q_N1, Q_N2, Q_N3, Q_X0_, Q_X5_, Q_X10_, Q_X11_, Q_X12_⟩ hb_ hon hoff
          refine ⟨_, rfl, fun K hK => ?_⟩
          have e8 : a.tmps[8]? = some (m12_) := by rw [ha]; exact putSel_on (e := (12, 8, m12_)) 12 rfl rfl (hon 12 (by kernel_rfl)) rfl
          rw [Q_X12_ (hon 12 (by kernel_rfl))] at e8
          have e38 : a.tmps[38]? = some (m11_) := by rw [ha]; exact putSel_on (e := (11, 38, m11_)) 11 rfl rfl (hon 11 (by kernel_rfl)) rfl
          rw [Q_X11_ (hon 11 (by kernel_rfl))] at e38
          replace ha := Aside0.mk ha
          have HB5 := Aside0.mk Q_HB5
          have FR := Aside0.mk (Q_FR (hon 5 (by kernel_rfl)))
          have FM := Aside0.mk (Q_FM (hon 10 (by kernel_rfl)))
          have FT := Aside0.mk (Q_FT (hon 12 (by kernel_rfl)) hb_)
          have N1 := Aside0.mk (Q_N1 (hon 5 (by kernel_rfl)) (hon 10 (by kernel_rfl)))
          have N2 := Aside0.mk (Q_N2 (hon 5 (by kernel_rfl)) (hon 12 (by kernel_rfl)))
          have N3 := Aside0.mk (Q_N3 (hon 10 (by kernel_rfl)) (hon 12 (by kernel_rfl)))
          have t0_ := FT.out.c0
          have t1_ := (FT.out.s0 (.slice (some ⟨g32, 0, none⟩) k k)).c1
          have f0_ := FT.out.fz 0
          have f1_ := (FT.out.s0 (.slice (some ⟨g32, 0, none⟩) k k)).fz 1
          refine skip_ (w1 := ?_) (by rfl) rfl ?_ ?_
          rotate_left
          · go_simp
            rfl
          refine hK.out _ _ ⟨g27, g32, g37, g8, m0_, m5_, m10_, m11_, m12_, (by rw [ha.out]; exact putSel_none (v := undef) rfl), (below_set (below_set HB5.out FT.out.2) FT.out.2), fun _ h1_ => absurd ((hon 5 (by kernel_rfl)).symm.trans h1_) (by decide), fun _ => ((FR.out.far N2.out _).far N2.out _), fun _ => ((FM.out.far N3.out _).far N3.out _), fun _ h1_ => absurd ((up_self b 13).symm.trans h1_) (by decide), fun _ => ((FT.out.s0 _).s1 _), Q_N1, Q_N2, Q_N3, Q_X0_, Q_X5_, Q_X10_, Q_X11_, Q_X12_⟩
        exact steps_nil
      rintro b a w' hall ⟨g27, g32, g37, g8, m0_, m5_, m10_, m11_, m12_, ha, Q_HB5, Q_FL, Q_FR, Q_FM, Q_FT, Q_FS, Q_N1, Q_N2, Q_N3, Q_X0_, Q_X5_, Q_X10_, Q_X11_, Q_X12_⟩
      clear HB5
      have hb0_ := hall 0 (by kernel_rfl)
      have hb1_ := hall 1 (by kernel_rfl)
      have hb2_ := hall 2 (by kernel_rfl)
      have hb3_ := hall 3 (by kernel_rfl)
      have hb4_ := hall 4 (by kernel_rfl)
      have hb5_ := hall 5 (by kernel_rfl)
      have hb6_ := hall 6 (by kernel_rfl)
      have hb7_ := hall 7 (by kernel_rfl)
      have hb8_ := hall 8 (by kernel_rfl)
      have hb9_ := hall 9 (by kernel_rfl)
      have hb10_ := hall 10 (by kernel_rfl)
      have hb11_ := hall 11 (by kernel_rfl)
      have hb12_ := hall 12 (by kernel_rfl)
      have hb13_ := hall 13 (by kernel_rfl)
      subst ha
      obtain rfl := Q_X0_ hb0_
      obtain rfl := Q_X5_ hb5_
      obtain rfl := Q_X10_ hb10_
      obtain rfl := Q_X11_ hb11_
      obtain rfl := Q_X12_ hb12_
      simp only [putSel, hb0_, hb1_, hb2_, hb3_, hb4_, hb5_, hb6_, hb7_, hb8_, hb9_, hb10_, hb11_, hb12_, if_true, Act.put, List.setIfInBounds_toArray, List.set_cons_zero, List.set_cons_succ]
      have HB5 := Aside0.mk Q_HB5
      clear Q_HB5
      clear Q_FL
      have FR := Aside0.mk (Q_FR hb5_)
      clear Q_FR
      have FM := Aside0.mk (Q_FM hb10_)
      clear Q_FM
      clear Q_FT
      have FS := Aside0.mk (Q_FS hb13_)
      clear Q_FS
      have N1 := Aside0.mk (Q_N1 hb5_ hb10_)
      clear Q_N1
      have N2 := Aside0.mk (Q_N2 hb5_ hb12_)
      clear Q_N2
      have N3 := Aside0.mk (Q_N3 hb10_ hb12_)
      clear Q_N3
      clear hall hb0_ hb1_ hb2_ hb3_ hb4_ hb5_ hb6_ hb7_ hb8_ hb9_ hb10_ hb11_ hb12_ hb13_
      clear HREP hmk hi hz0 hsz hby hi1 hz1 hsz1 hby1 hHeld HT_ HW_ z0 z3
      go_wp2_with (fail)
      refine start_ (n := 10) (S := fun w' => True) (ds := []) #[false, false, false, false, false, false, false, false, false, false] (by kernel_rfl) rfl rfl trivial (fun hHeld => ?_)
      refine with_tabW sankoff.tab6 sankoff.bits6 (fun HT_ HW_ => ?_)
      replace HB5 := Aside0.mk (below_drew1 HB5.out)
      replace FR := Aside0.mk (Blk.drew FR.out)
      replace FM := Aside0.mk (Blk.drew FM.out)
      replace FS := Aside0.mk (Blk.drew FS.out)
      generalize w'.drew = w5 at HB5 FR FM FS hHeld ⊢
      have FR0 := FR
      have FM0 := FM
      refine inv_at [0, 1, 2, 3, 4, 5, 6, 7, 8, 9] (fun a0_ b a w' => a = putSel a0_ b [(0, 39, .pointer (some ⟨g8, 0, none⟩)), (1, 40, .slice (some ⟨g32, 0, none⟩) k k), (2, 41, .int .i64 (s : Int)), (3, 42, .pointer (some ⟨g8, 1, none⟩)), (4, 43, .slice (some ⟨g37, 0, none⟩) k k), (5, 44, .int .i64 (s : Int)), (6, 45, .pointer (some ⟨g32, s, none⟩)), (8, 46, .pointer (some ⟨g37, s, none⟩))] ∧ (Below w3.heap.size w3 w') ∧ (Blk w' w3.heap.size g8 (tabO (.slice (some ⟨g32, 0, none⟩) k k) (.slice (some ⟨g37, 0, none⟩) k k))) ∧ (b 7 = false → Blk w' w3.heap.size g32 (ints (List.replicate k 1073741824))) ∧ (b 7 = true → Blk w' w3.heap.size g32 (ints ((List.replicate k 1073741824).set s (0)))) ∧ (b 9 = false → Blk w' w3.heap.size g37 (ints (List.replicate k 0))) ∧ (b 9 = true → Blk w' w3.heap.size g37 (ints ((List.replicate k 0).set s (1))))) HT_.out HW_.out (by kernel_rfl) (by kernel_rfl) ?_ ?_ ?_
      · exact ⟨by simp only [putSel, Bool.false_eq_true, if_false], HB5.out, FS.out, fun _ => FR.out, fun h_ => absurd h_ (by decide), fun _ => FM.out, fun h_ => absurd h_ (by decide)⟩
      · skip
        clear FM0 FR0 FS HB5
        refine steps_cons ?_ ?_
        · rintro b a w' ⟨ha, Q_HB5, Q_FS, Q_FR0, Q_FR1, Q_FM0, Q_FM1⟩ hb_ hon hoff
          refine ⟨_, rfl, fun K hK => ?_⟩
          have e8 : a.tmps[8]? = some (.pointer (some ⟨g8, 0, none⟩)) := by rw [ha]; exact (putSel_off rfl).trans rfl
          replace ha := Aside0.mk ha
          have HB5 := Aside0.mk Q_HB5
          have FS := Aside0.mk Q_FS
          have FR0 := Aside0.mk (Q_FR0 (hoff 7 (by kernel_rfl)))
          have FM0 := Aside0.mk (Q_FM0 (hoff 9 (by kernel_rfl)))
          refine value_ (w1 := w') (v := .pointer (some ⟨g8, 0, none⟩)) (by rfl) rfl ?_ ?_
          · go_simp
            (try simp only [i64_w])
            try rfl
          refine hK.out _ _ ⟨(by rw [ha.out]; exact putSel_upk 0 hb_ rfl rfl rfl), Q_HB5, Q_FS, Q_FR0, fun h0_ => absurd ((hoff 7 (by kernel_rfl)).symm.trans h0_) (by decide), Q_FM0, fun h0_ => absurd ((hoff 9 (by kernel_rfl)).symm.trans h0_) (by decide)⟩
        refine steps_cons ?_ ?_
        · rintro b a w' ⟨ha, Q_HB5, Q_FS, Q_FR0, Q_FR1, Q_FM0, Q_FM1⟩ hb_ hon hoff
          refine ⟨_, rfl, fun K hK => ?_⟩
          have e39 : a.tmps[39]? = some (.pointer (some ⟨g8, 0, none⟩)) := by rw [ha]; exact putSel_on (e := (0, 39, .pointer (some ⟨g8, 0, none⟩))) 0 rfl rfl (hon 0 (by kernel_rfl)) rfl
          replace ha := Aside0.mk ha
          have HB5 := Aside0.mk Q_HB5
          have FS := Aside0.mk Q_FS
          have FR0 := Aside0.mk (Q_FR0 (hoff 7 (by kernel_rfl)))
          have FM0 := Aside0.mk (Q_FM0 (hoff 9 (by kernel_rfl)))
          have c0_ := FS.out.c0
          have c1_ := FS.out.c1
          refine value_ (w1 := w') (v := .slice (some ⟨g32, 0, none⟩) k k) (by rfl) rfl ?_ ?_
          · go_simp
            (try simp only [i64_w])
            try rfl
          refine hK.out _ _ ⟨(by rw [ha.out]; exact putSel_upk 1 hb_ rfl rfl rfl), Q_HB5, Q_FS, Q_FR0, fun h0_ => absurd ((hoff 7 (by kernel_rfl)).symm.trans h0_) (by decide), Q_FM0, fun h0_ => absurd ((hoff 9 (by kernel_rfl)).symm.trans h0_) (by decide)⟩
        refine steps_cons ?_ ?_
        · rintro b a w' ⟨ha, Q_HB5, Q_FS, Q_FR0, Q_FR1, Q_FM0, Q_FM1⟩ hb_ hon hoff
          refine ⟨_, rfl, fun K hK => ?_⟩
          have e7 : a.tmps[7]? = some (.int .i64 (s : Int)) := by rw [ha]; exact (putSel_off rfl).trans rfl
          replace ha := Aside0.mk ha
          have HB5 := Aside0.mk Q_HB5
          have FS := Aside0.mk Q_FS
          have FR0 := Aside0.mk (Q_FR0 (hoff 7 (by kernel_rfl)))
          have FM0 := Aside0.mk (Q_FM0 (hoff 9 (by kernel_rfl)))
          refine value_ (w1 := w') (v := .int .i64 (s : Int)) (by rfl) rfl ?_ ?_
          · go_simp
            (try simp only [i64_w])
            try rfl
          refine hK.out _ _ ⟨(by rw [ha.out]; exact putSel_upk 2 hb_ rfl rfl rfl), Q_HB5, Q_FS, Q_FR0, fun h0_ => absurd ((hoff 7 (by kernel_rfl)).symm.trans h0_) (by decide), Q_FM0, fun h0_ => absurd ((hoff 9 (by kernel_rfl)).symm.trans h0_) (by decide)⟩
        refine steps_cons ?_ ?_
        · rintro b a w' ⟨ha, Q_HB5, Q_FS, Q_FR0, Q_FR1, Q_FM0, Q_FM1⟩ hb_ hon hoff
          refine ⟨_, rfl, fun K hK => ?_⟩
          have e8 : a.tmps[8]? = some (.pointer (some ⟨g8, 0, none⟩)) := by rw [ha]; exact (putSel_off rfl).trans rfl
          replace ha := Aside0.mk ha
          have HB5 := Aside0.mk Q_HB5
          have FS := Aside0.mk Q_FS
          have FM0 := Aside0.mk (Q_FM0 (hoff 9 (by kernel_rfl)))
          refine value_ (w1 := w') (v := .pointer (some ⟨g8, 1, none⟩)) (by rfl) rfl ?_ ?_
          · go_simp
            (try simp only [i64_w])
            try rfl
          refine hK.out _ _ ⟨(by rw [ha.out]; exact putSel_upk 3 hb_ rfl rfl rfl), Q_HB5, Q_FS, Q_FR0, Q_FR1, Q_FM0, fun h0_ => absurd ((hoff 9 (by kernel_rfl)).symm.trans h0_) (by decide)⟩
        refine steps_cons ?_ ?_
        · rintro b a w' ⟨ha, Q_HB5, Q_FS, Q_FR0, Q_FR1, Q_FM0, Q_FM1⟩ hb_ hon hoff
          refine ⟨_, rfl, fun K hK => ?_⟩
          have e42 : a.tmps[42]? = some (.pointer (some ⟨g8, 1, none⟩)) := by rw [ha]; exact putSel_on (e := (3, 42, .pointer (some ⟨g8, 1, none⟩))) 3 rfl rfl (hon 3 (by kernel_rfl)) rfl
          replace ha := Aside0.mk ha
          have HB5 := Aside0.mk Q_HB5
          have FS := Aside0.mk Q_FS
          have FM0 := Aside0.mk (Q_FM0 (hoff 9 (by kernel_rfl)))
          have c0_ := FS.out.c0
          have c1_ := FS.out.c1
          refine value_ (w1 := w') (v := .slice (some ⟨g37, 0, none⟩) k k) (by rfl) rfl ?_ ?_
          · go_simp
            (try simp only [i64_w])
            try rfl
          refine hK.out _ _ ⟨(by rw [ha.out]; exact putSel_upk 4 hb_ rfl rfl rfl), Q_HB5, Q_FS, Q_FR0, Q_FR1, Q_FM0, fun h0_ => absurd ((hoff 9 (by kernel_rfl)).symm.trans h0_) (by decide)⟩
        refine steps_cons ?_ ?_
        · rintro b a w' ⟨ha, Q_HB5, Q_FS, Q_FR0, Q_FR1, Q_FM0, Q_FM1⟩ hb_ hon hoff
          refine ⟨_, rfl, fun K hK => ?_⟩
          have e7 : a.tmps[7]? = some (.int .i64 (s : Int)) := by rw [ha]; exact (putSel_off rfl).trans rfl
          replace ha := Aside0.mk ha
          have HB5 := Aside0.mk Q_HB5
          have FS := Aside0.mk Q_FS
          have FM0 := Aside0.mk (Q_FM0 (hoff 9 (by kernel_rfl)))
          refine value_ (w1 := w') (v := .int .i64 (s : Int)) (by rfl) rfl ?_ ?_
          · go_simp
            (try simp only [i64_w])
            try rfl
          refine hK.out _ _ ⟨(by rw [ha.out]; exact putSel_upk 5 hb_ rfl rfl rfl), Q_HB5, Q_FS, Q_FR0, Q_FR1, Q_FM0, fun h0_ => absurd ((hoff 9 (by kernel_rfl)).symm.trans h0_) (by decide)⟩
        refine steps_cons ?_ ?_
        · rintro b a w' ⟨ha, Q_HB5, Q_FS, Q_FR0, Q_FR1, Q_FM0, Q_FM1⟩ hb_ hon hoff
          refine ⟨_, rfl, fun K hK => ?_⟩
          have e40 : a.tmps[40]? = some (.slice (some ⟨g32, 0, none⟩) k k) := by rw [ha]; exact putSel_on (e := (1, 40, .slice (some ⟨g32, 0, none⟩) k k)) 1 rfl rfl (hon 1 (by kernel_rfl)) rfl
          have e41 : a.tmps[41]? = some (.int .i64 (s : Int)) := by rw [ha]; exact putSel_on (e := (2, 41, .int .i64 (s : Int))) 2 rfl rfl (hon 2 (by kernel_rfl)) rfl
          replace ha := Aside0.mk ha
          have HB5 := Aside0.mk Q_HB5
          have FS := Aside0.mk Q_FS
          have FR0 := Aside0.mk (Q_FR0 (hoff 7 (by kernel_rfl)))
          have FM0 := Aside0.mk (Q_FM0 (hoff 9 (by kernel_rfl)))
          have hs_ := HS.out
          have hsb_ := decide_eq_true hs_
          refine value_ (w1 := w') (v := .pointer (some ⟨g32, s, none⟩)) (by rfl) rfl ?_ ?_
          · go_simp
            (try simp only [i64_w])
            try rfl
          refine hK.out _ _ ⟨(by rw [ha.out]; exact putSel_upk 6 hb_ rfl rfl rfl), Q_HB5, Q_FS, Q_FR0, fun h0_ => absurd ((hoff 7 (by kernel_rfl)).symm.trans h0_) (by decide), Q_FM0, fun h0_ => absurd ((hoff 9 (by kernel_rfl)).symm.trans h0_) (by decide)⟩
        refine steps_cons ?_ ?_
        · rintro b a w' ⟨ha, Q_HB5, Q_FS, Q_FR0, Q_FR1, Q_FM0, Q_FM1⟩ hb_ hon hoff
          refine ⟨_, rfl, fun K hK => ?_⟩
          have e45 : a.tmps[45]? = some (.pointer (some ⟨g32, s, none⟩)) := by rw [ha]; exact putSel_on (e := (6, 45, .pointer (some ⟨g32, s, none⟩))) 6 rfl rfl (hon 6 (by kernel_rfl)) rfl
          replace ha := Aside0.mk ha
          have HB5 := Aside0.mk Q_HB5
          have FS := Aside0.mk Q_FS
          have FR0 := Aside0.mk (Q_FR0 hb_)
          have FM0 := Aside0.mk (Q_FM0 (hoff 9 (by kernel_rfl)))
          have c_ := FR0.out.at s (by rw [List.length_replicate]; exact HS.out)
          have f_ := FR0.out.frozen s
          refine skip_ (w1 := ?_) (by rfl) rfl ?_ ?_
          rotate_left
          · go_simp
            rfl
          refine hK.out _ _ ⟨(by rw [ha.out]; exact putSel_none (v := undef) rfl), (below_set HB5.out FR0.out.2), (FS.out.far (Ne.symm N2.out) _), fun h0_ => absurd ((up_self b 7).symm.trans h0_) (by decide), fun _ => (FR0.out.put _ _), fun _ => (FM0.out.far (Ne.symm N1.out) _), fun h0_ => absurd ((hoff 9 (by kernel_rfl)).symm.trans h0_) (by decide)⟩
        refine steps_cons ?_ ?_
        · rintro b a w' ⟨ha, Q_HB5, Q_FS, Q_FR0, Q_FR1, Q_FM0, Q_FM1⟩ hb_ hon hoff
          refine ⟨_, rfl, fun K hK => ?_⟩
          have e43 : a.tmps[43]? = some (.slice (some ⟨g37, 0, none⟩) k k) := by rw [ha]; exact putSel_on (e := (4, 43, .slice (some ⟨g37, 0, none⟩) k k)) 4 rfl rfl (hon 4 (by kernel_rfl)) rfl
          have e44 : a.tmps[44]? = some (.int .i64 (s : Int)) := by rw [ha]; exact putSel_on (e := (5, 44, .int .i64 (s : Int))) 5 rfl rfl (hon 5 (by kernel_rfl)) rfl
          replace ha := Aside0.mk ha
          have HB5 := Aside0.mk Q_HB5
          have FS := Aside0.mk Q_FS
          have FR1 := Aside0.mk (Q_FR1 (hon 7 (by kernel_rfl)))
          have FM0 := Aside0.mk (Q_FM0 (hoff 9 (by kernel_rfl)))
          have hs_ := HS.out
          have hsb_ := decide_eq_true hs_
          refine value_ (w1 := w') (v := .pointer (some ⟨g37, s, none⟩)) (by rfl) rfl ?_ ?_
          · go_simp
            (try simp only [i64_w])
            try rfl
          refine hK.out _ _ ⟨(by rw [ha.out]; exact putSel_upk 7 hb_ rfl rfl rfl), Q_HB5, Q_FS, fun h0_ => absurd ((hon 7 (by kernel_rfl)).symm.trans h0_) (by decide), Q_FR1, Q_FM0, fun h0_ => absurd ((hoff 9 (by kernel_rfl)).symm.trans h0_) (by decide)⟩
        refine steps_cons ?_ ?_
        · rintro b a w' ⟨ha, Q_HB5, Q_FS, Q_FR0, Q_FR1, Q_FM0, Q_FM1⟩ hb_ hon hoff
          refine ⟨_, rfl, fun K hK => ?_⟩
          have e46 : a.tmps[46]? = some (.pointer (some ⟨g37, s, none⟩)) := by rw [ha]; exact putSel_on (e := (8, 46, .pointer (some ⟨g37, s, none⟩))) 7 rfl rfl (hon 8 (by kernel_rfl)) rfl
          replace ha := Aside0.mk ha
          have HB5 := Aside0.mk Q_HB5
          have FS := Aside0.mk Q_FS
          have FR1 := Aside0.mk (Q_FR1 (hon 7 (by kernel_rfl)))
          have FM0 := Aside0.mk (Q_FM0 hb_)
          have c_ := FM0.out.at s (by rw [List.length_replicate]; exact HS.out)
          have f_ := FM0.out.frozen s
          refine skip_ (w1 := ?_) (by rfl) rfl ?_ ?_
          rotate_left
          · go_simp
            rfl
          refine hK.out _ _ ⟨(by rw [ha.out]; exact putSel_none (v := undef) rfl), (below_set HB5.out FM0.out.2), (FS.out.far (Ne.symm N3.out) _), fun h0_ => absurd ((hon 7 (by kernel_rfl)).symm.trans h0_) (by decide), fun _ => (FR1.out.far N1.out _), fun h0_ => absurd ((up_self b 9).symm.trans h0_) (by decide), fun _ => (FM0.out.put _ _)⟩
        exact steps_nil
      rintro b a w' hall ⟨ha, Q_HB5, Q_FS, Q_FR0, Q_FR1, Q_FM0, Q_FM1⟩
      clear FM0 FR0 FS HB5
      have hb0_ := hall 0 (by kernel_rfl)
      have hb1_ := hall 1 (by kernel_rfl)
      have hb2_ := hall 2 (by kernel_rfl)
      have hb3_ := hall 3 (by kernel_rfl)
      have hb4_ := hall 4 (by kernel_rfl)
      have hb5_ := hall 5 (by kernel_rfl)
      have hb6_ := hall 6 (by kernel_rfl)
      have hb7_ := hall 7 (by kernel_rfl)
      have hb8_ := hall 8 (by kernel_rfl)
      have hb9_ := hall 9 (by kernel_rfl)
      subst ha
      simp only [putSel, hb0_, hb1_, hb2_, hb3_, hb4_, hb5_, hb6_, hb8_, if_true, Act.put, List.setIfInBounds_toArray, List.set_cons_zero, List.set_cons_succ]
      have HB5 := Aside0.mk Q_HB5
      clear Q_HB5
      have FS := Aside0.mk Q_FS
      clear Q_FS
      clear Q_FR0
      have FR1 := Aside0.mk (Q_FR1 hb7_)
      clear Q_FR1
      clear Q_FM0
      have FM1 := Aside0.mk (Q_FM1 hb9_)
      clear Q_FM1
      clear hall hb0_ hb1_ hb2_ hb3_ hb4_ hb5_ hb6_ hb7_ hb8_ hb9_
      have HTAB := Aside0.mk (tab_FK FR1.out FM1.out (by simp) (by simp) HK.out.1)
      have HNW := Aside0.mk (Kd.N_below HN4.out HB5.out)
      have HOW := Aside0.mk (Kd.N_lt HN4.out)
      have HBW := Aside0.mk (HB4.out.trans (HB5.out.mono HB4.out.size))
      have HGE := Aside0.mk HB4.out.size
      have hc0 := FS.out.c0
      have hc1 := FS.out.c1
      clear FR1 FM1 FS HB5 HN4 HB4 hHeld HT_ HW_ N1 N2 N3
      go_wp2_with (first | ((with_reducible refine gate_builtin (b := .append) (xs := #[.tmp 47, .tmp 49]) rfl ?_); at_builtin; refine Kd.N_append k111 (w0 := w1) w1.heap.size rfl (.tmp 47) (.tmp 49) 108 111 (.agg #[.slice none 0 0, .slice none 0 0]) 48 rfl Try.underlying108 info111 rfl (by decide) (by omega) u5 ((L.take m).map (leafTab k)) (leafTab k s) [.slice (some ⟨g32, 0, none⟩) k k, .slice (some ⟨g37, 0, none⟩) k k] (fun j => w1.heap.size ≤ j) (fun j => w3.heap.size ≤ j) rfl rfl HTAB.out ?aK ?aF HNW.out HBW.out HBW.out.size ?aL ?_; (case aK => exact (fun j hj => ⟨Nat.le_trans HGE.out hj, fun e_ => by have := HOW.out j e_.symm; omega⟩)); (case aF => exact (fun j hj => Nat.le_trans HBW.out.size hj)); (case aL => rw [List.length_map, List.length_take]; have := HK.out.2.2; omega); intro v1 w6 ho hb hg hat; have HN6 := Aside0.mk ho; have HB6 := Aside0.mk hb; clear ho hb hg hat))
      all_goals
        go_roundg (L.length - (m + 1))
        case measure => have := HLT.out; omega
        case rel => have hl1_ := HK.out.2.2; have hl2_ := HLT.out; exact ⟨m + 1, HLT.out, Nat.le_refl _, by rw [w64_succ m (by omega)], HB6, ⟨by rw [Pure.take_up L m HLT.out, List.map_append, List.map_singleton, ← Pure.rd_nat L m HLT.out, hs]; exact HN6.out⟩⟩
    · have hltb : decide ((m : Int) < (L.length : Int)) = false := decide_eq_false (by omega)
      have hltc : decide (m < L.length) = false := decide_eq_false hlt
      have hltz : ((m : Int) < (L.length : Int)) = False := eq_false (by omega)
      obtain rfl : m = L.length := by omega
      have z0 := (HB.out.cell (World.block_lt_of_cell? _ _ hbp)).trans hbp
      have z1 := (HB.out.cell (World.block_lt_of_cell? _ _ q1)).trans q1
      have HN0 := Aside0.mk (show Kd.N k111 111 wr w1.heap.size (fun j => w1.heap.size ≤ j) u5 (sankTo k C F J L 0) by have h := HN.out; rw [List.take_length] at h; exact h)
      clear HN hlt hm hgg
      go_wp2_with (fail)
      clear hltb hltc hltz z0 z1
      go_loopg [5, 10, 11, 12, 13, 14, 15, 16, 17, 58, 79] J.length (fun gg v5 v10 v11 v12 v13 v14 v15 v16 v17 v58 v79 w' => ∃ (m : Nat), m ≤ J.length ∧ J.length - m ≤ gg ∧ v58 = .int .i64 m ∧ Aside0 (Below w1.heap.size w1 w') ∧ Aside0 (Kd.N k111 111 w' w1.heap.size (fun j => w1.heap.size ≤ j) v5 (sankTo k C F J L m)))
      case atStart => exact ⟨0, Nat.zero_le _, by omega, rfl, HB, HN0⟩
      case round =>
        obtain ⟨m, hm, hgg, rfl, HBm, HNm⟩ := hrel
        clear HB HN0
        by_cases hlt : m < J.length
        · have hltb : decide ((m : Int) < (J.length : Int)) = true := decide_eq_true (by omega)
          have hltc : decide (m < J.length) = true := decide_eq_true hlt
          have hltz : ((m : Int) < (J.length : Int)) = True := eq_true (by omega)
          obtain ⟨ad, e1, hx, hy⟩ := at_T67 HQ.out.2.1.rJ m (by omega) (by omega)
          cases e1
          rw [Int.toNat_natCast] at hx hy
          obtain ⟨ja, ha⟩ : ∃ a : Nat, (rd_T67 J m).f0 = (a : Int) := ⟨(rd_T67 J m).f0.toNat, by have := HJ.out.1 m hlt; omega⟩
          obtain ⟨jb, hb⟩ : ∃ b : Nat, (rd_T67 J m).f1 = (b : Int) := ⟨(rd_T67 J m).f1.toNat, by have := HJ.out.1 m hlt; omega⟩
          have HAB := Aside0.mk (show ja < L.length + m ∧ jb < L.length + m by have := HJ.out.1 m hlt; omega)
          have HLT := Aside0.mk hlt
          rw [ha] at hx
          rw [hb] at hy
          obtain ⟨i2, hi2, hz2, hsz2, hby2⟩ := info_parts info67
          replace hx := (HBm.out.cell (World.block_lt_of_cell? _ _ hx)).trans hx
          replace hy := (HBm.out.cell (World.block_lt_of_cell? _ _ hy)).trans hy
          have z0 := (HBm.out.cell (World.block_lt_of_cell? _ _ hbp)).trans hbp
          have z3 := (HBm.out.cell (World.block_lt_of_cell? _ _ q3)).trans q3
          go_wp2_with (fail)
          obtain ⟨w2, hw2⟩ : ∃ w2, wr.alloc (Obj.cells #[.int .i64 (ja : Int), .int .i64 (jb : Int)] 67) = w2 := ⟨_, rfl⟩
          have HG11 := Aside0.mk (show Blk w2 w1.heap.size wr.heap.size (.cells #[.int .i64 (ja : Int), .int .i64 (jb : Int)] 67) by rw [← hw2]; exact Blk.new _ _ HBm.out.size _)
          have HB4 := Aside0.mk (show Below w1.heap.size w1 w2 by rw [← hw2]; exact below_alloc HBm.out _)
          have HN4 := Aside0.mk (show Kd.N k111 111 w2 w1.heap.size (fun j => w1.heap.size ≤ j) u5 (sankTo k C F J L m) by rw [← hw2]; exact Kd.N_alloc HNm.out _)
          replace z0 : w2.cell? ⟨w.heap.size, 0, none⟩ = some (.pointer (some ⟨G, 0, none⟩)) := by rw [← hw2]; exact cellA z0
          replace z3 : w2.cell? ⟨G, 3, none⟩ = some (.int .i64 k) := by rw [← hw2]; exact cellA z3
          rw [hw2]
          clear hw2 hx hy HBm HNm hi2 hz2 hsz2 hby2
          generalize wr.heap.size = g11 at HG11 ⊢
          obtain ⟨i0, hi, hz0, hsz, hby⟩ := info_parts info3
          have hmk := fun W : World => run_make (P := Try.prog) (w := W) 25 3 i0 (.int .i64 0) Try.underlying25 hi hz0 .i64 .i64 (k : Int) (k : Int) (by omega) (by omega) (by have := HK.out.1; rw [hby]; omega) (by have := HK.out.1; omega)
          simp only [Int.toNat_natCast, hsz, Nat.mul_one] at hmk
          obtain ⟨i1, hi1, hz1, hsz1, hby1⟩ := info_parts info111
          have HREP := Aside0.mk (fun (W : World) (g : Nat) (h : W.cell? ⟨g, 0, none⟩ = some (.int .i64 1073741824)) => repeat_calls 1073741824 k HK.out.1 (some ⟨g, 0, none⟩) 1 W (lit1 W g _ h))
          replace z0 := cellD z0
          replace z3 := cellD z3
          replace HB4 := Aside0.mk (below_drew1 HB4.out)
          replace HN4 := Aside0.mk (Kd.N_drew HN4.out)
          replace HG11 := Aside0.mk (Blk.drew HG11.out)
          refine start_ (n := 14) (S := fun w' => True) (ds := []) #[false, false, false, false, false, false, false, false, false, false, false, false, false, false] (by kernel_rfl) rfl rfl trivial (fun hHeld => ?_)
          refine with_tabW sankoff.tab13 sankoff.bits13 (fun HT_ HW_ => ?_)
          generalize w2.drew = w3 at z0 z3 HB4 HN4 HG11 hHeld ⊢
          have HB5 := Aside0.mk (Below.refl w3.heap.size w3)
          refine inv_at [0, 1, 2, 3, 4, 5, 6, 7, 8, 9, 10, 11, 12, 13] (fun a0_ b a w' => ∃ (g27 : Nat) (g32 : Nat) (g37 : Nat) (g8 : Nat) (m0_ : Value) (m5_ : Value) (m10_ : Value) (m11_ : Value) (m12_ : Value), a = putSel a0_ b [(0, 63, m0_), (1, 64, .pointer (some ⟨G, 0, none⟩)), (2, 65, .pointer (some ⟨G, 0, none⟩)), (3, 66, .pointer (some ⟨G, 3, none⟩)), (4, 67, .int .i64 (k : Int)), (5, 68, m5_), (6, 69, .pointer (some ⟨G, 0, none⟩)), (7, 70, .pointer (some ⟨G, 0, none⟩)), (8, 71, .pointer (some ⟨G, 3, none⟩)), (9, 72, .int .i64 (k : Int)), (10, 73, m10_), (11, 74, m11_), (12, 12, m12_)] ∧ (Below w3.heap.size w3 w') ∧ (b 0 = true → b 5 = false → w'.cell? ⟨g27, 0, none⟩ = some (.int .i64 1073741824)) ∧ (b 5 = true → Blk w' w3.heap.size g32 (ints (List.replicate k 1073741824))) ∧ (b 10 = true → Blk w' w3.heap.size g37 (ints (List.replicate k 0))) ∧ (b 12 = true → b 13 = false → Blk w' w3.heap.size g8 (tabO (.slice none 0 0) (.slice none 0 0))) ∧ (b 13 = true → Blk w' w3.heap.size g8 (tabO (.slice (some ⟨g32, 0, none⟩) k k) (.slice (some ⟨g37, 0, none⟩) k k))) ∧ (b 5 = true → b 10 = true → g32 ≠ g37) ∧ (b 5 = true → b 12 = true → g32 ≠ g8) ∧ (b 10 = true → b 12 = true → g37 ≠ g8) ∧ (b 0 = true → (m0_ : Value) = .slice (some ⟨g27, 0, none⟩) 1 1) ∧ (b 5 = true → (m5_ : Value) = .slice (some ⟨g32, 0, none⟩) k k) ∧ (b 10 = true → (m10_ : Value) = .slice (some ⟨g37, 0, none⟩) k k) ∧ (b 11 = true → (m11_ : Value) = .agg #[.slice (some ⟨g32, 0, none⟩) k k, .slice (some ⟨g37, 0, none⟩) k k]) ∧ (b 12 = true → (m12_ : Value) = .pointer (some ⟨g8, 0, none⟩))) HT_.out HW_.out (by kernel_rfl) (by kernel_rfl) ?_ ?_ ?_
          · exact ⟨0, 0, 0, 0, .bool false, .bool false, .bool false, .bool false, .bool false, by simp only [putSel, Bool.false_eq_true, if_false], HB5.out, fun h_ => absurd h_ (by decide), fun h_ => absurd h_ (by decide), fun h_ => absurd h_ (by decide), fun h_ => absurd h_ (by decide), fun h_ => absurd h_ (by decide), fun h_ => absurd h_ (by decide), fun h_ => absurd h_ (by decide), fun h_ => absurd h_ (by decide), fun h_ => absurd h_ (by decide), fun h_ => absurd h_ (by decide), fun h_ => absurd h_ (by decide), fun h_ => absurd h_ (by decide), fun h_ => absurd h_ (by decide)⟩
          · skip
            clear HB5
            refine steps_cons ?_ ?_
            · rintro b a w' ⟨g27, g32, g37, g8, m0_, m5_, m10_, m11_, m12_, ha, Q_HB5, Q_FL, Q_FR, Q_FM, Q_FT, Q_FS, Q_N1, Q_N2, Q_N3, Q_X0_, Q_X5_, Q_X10_, Q_X11_, Q_X12_⟩ hb_ hon hoff
              refine ⟨_, rfl, fun K hK => ?_⟩
              replace ha := Aside0.mk ha
              have HB5 := Aside0.mk Q_HB5
              refine value_ (w1 := ?_) (v := ?_) (by rfl) rfl ?_ ?_
              rotate_left 2
              · go_simp
                constructor
                · rfl
                · rfl
              refine hK.out _ _ ⟨w'.heap.size, g32, g37, g8, (.slice (some ⟨w'.heap.size, 0, none⟩) 1 1), m5_, m10_, m11_, m12_, (by rw [ha.out]; exact putSel_upk 0 hb_ rfl rfl rfl), (below_alloc HB5.out _), fun _ _ => (by simp), fun h0_ => absurd ((hoff 5 (by kernel_rfl)).symm.trans h0_) (by decide), fun h0_ => ((Q_FM h0_).alloc _), fun h0_ h1_ => ((Q_FT h0_ h1_).alloc _), fun h0_ => absurd ((hoff 13 (by kernel_rfl)).symm.trans h0_) (by decide), fun h0_ _ => absurd ((hoff 5 (by kernel_rfl)).symm.trans h0_) (by decide), fun h0_ _ => absurd ((hoff 5 (by kernel_rfl)).symm.trans h0_) (by decide), Q_N3, fun _ => rfl, fun h0_ => absurd ((hoff 5 (by kernel_rfl)).symm.trans h0_) (by decide), Q_X10_, fun h0_ => absurd ((hoff 11 (by kernel_rfl)).symm.trans h0_) (by decide), Q_X12_⟩
            refine steps_cons ?_ ?_
            · rintro b a w' ⟨g27, g32, g37, g8, m0_, m5_, m10_, m11_, m12_, ha, Q_HB5, Q_FL, Q_FR, Q_FM, Q_FT, Q_FS, Q_N1, Q_N2, Q_N3, Q_X0_, Q_X5_, Q_X10_, Q_X11_, Q_X12_⟩ hb_ hon hoff
              refine ⟨_, rfl, fun K hK => ?_⟩
              have e2 : a.tmps[2]? = some (.pointer (some ⟨w.heap.size, 0, none⟩)) := by rw [ha]; exact (putSel_off rfl).trans rfl
              replace ha := Aside0.mk ha
              have HB5 := Aside0.mk Q_HB5
              have z0_ := (HB5.out.cell (World.block_lt_of_cell? _ _ z0)).trans z0
              refine value_ (w1 := w') (v := .pointer (some ⟨G, 0, none⟩)) (by rfl) rfl ?_ ?_
              · go_simp
                (try simp only [i64_w])
                try rfl
              refine hK.out _ _ ⟨g27, g32, g37, g8, m0_, m5_, m10_, m11_, m12_, (by rw [ha.out]; exact putSel_upk 1 hb_ rfl rfl rfl), Q_HB5, Q_FL, fun h0_ => absurd ((hoff 5 (by kernel_rfl)).symm.trans h0_) (by decide), Q_FM, Q_FT, fun h0_ => absurd ((hoff 13 (by kernel_rfl)).symm.trans h0_) (by decide), fun h0_ _ => absurd ((hoff 5 (by kernel_rfl)).symm.trans h0_) (by decide), fun h0_ _ => absurd ((hoff 5 (by kernel_rfl)).symm.trans h0_) (by decide), Q_N3, Q_X0_, fun h0_ => absurd ((hoff 5 (by kernel_rfl)).symm.trans h0_) (by decide), Q_X10_, fun h0_ => absurd ((hoff 11 (by kernel_rfl)).symm.trans h0_) (by decide), Q_X12_⟩
            refine steps_cons ?_ ?_
            · rintro b a w' ⟨g27, g32, g37, g8, m0_, m5_, m10_, m11_, m12_, ha, Q_HB5, Q_FL, Q_FR, Q_FM, Q_FT, Q_FS, Q_N1, Q_N2, Q_N3, Q_X0_, Q_X5_, Q_X10_, Q_X11_, Q_X12_⟩ hb_ hon hoff
              refine ⟨_, rfl, fun K hK => ?_⟩
              have e64 : a.tmps[64]? = some (.pointer (some ⟨G, 0, none⟩)) := by rw [ha]; exact putSel_on (e := (1, 64, .pointer (some ⟨G, 0, none⟩))) 1 rfl rfl (hon 1 (by kernel_rfl)) rfl
              replace ha := Aside0.mk ha
              have HB5 := Aside0.mk Q_HB5
              refine value_ (w1 := w') (v := .pointer (some ⟨G, 0, none⟩)) (by rfl) rfl ?_ ?_
              · go_simp
                (try simp only [i64_w])
                try rfl
              refine hK.out _ _ ⟨g27, g32, g37, g8, m0_, m5_, m10_, m11_, m12_, (by rw [ha.out]; exact putSel_upk 2 hb_ rfl rfl rfl), Q_HB5, Q_FL, fun h0_ => absurd ((hoff 5 (by kernel_rfl)).symm.trans h0_) (by decide), Q_FM, Q_FT, fun h0_ => absurd ((hoff 13 (by kernel_rfl)).symm.trans h0_) (by decide), fun h0_ _ => absurd ((hoff 5 (by kernel_rfl)).symm.trans h0_) (by decide), fun h0_ _ => absurd ((hoff 5 (by kernel_rfl)).symm.trans h0_) (by decide), Q_N3, Q_X0_, fun h0_ => absurd ((hoff 5 (by kernel_rfl)).symm.trans h0_) (by decide), Q_X10_, fun h0_ => absurd ((hoff 11 (by kernel_rfl)).symm.trans h0_) (by decide), Q_X12_⟩
            refine steps_cons ?_ ?_
            · rintro b a w' ⟨g27, g32, g37, g8, m0_, m5_, m10_, m11_, m12_, ha, Q_HB5, Q_FL, Q_FR, Q_FM, Q_FT, Q_FS, Q_N1, Q_N2, Q_N3, Q_X0_, Q_X5_, Q_X10_, Q_X11_, Q_X12_⟩ hb_ hon hoff
              refine ⟨_, rfl, fun K hK => ?_⟩
              have e65 : a.tmps[65]? = some (.pointer (some ⟨G, 0, none⟩)) := by rw [ha]; exact putSel_on (e := (2, 65, .pointer (some ⟨G, 0, none⟩))) 2 rfl rfl (hon 2 (by kernel_rfl)) rfl
              replace ha := Aside0.mk ha
              have HB5 := Aside0.mk Q_HB5
              refine value_ (w1 := w') (v := .pointer (some ⟨G, 3, none⟩)) (by rfl) rfl ?_ ?_
              · go_simp
                (try simp only [i64_w])
                try rfl
              refine hK.out _ _ ⟨g27, g32, g37, g8, m0_, m5_, m10_, m11_, m12_, (by rw [ha.out]; exact putSel_upk 3 hb_ rfl rfl rfl), Q_HB5, Q_FL, fun h0_ => absurd ((hoff 5 (by kernel_rfl)).symm.trans h0_) (by decide), Q_FM, Q_FT, fun h0_ => absurd ((hoff 13 (by kernel_rfl)).symm.trans h0_) (by decide), fun h0_ _ => absurd ((hoff 5 (by kernel_rfl)).symm.trans h0_) (by decide), fun h0_ _ => absurd ((hoff 5 (by kernel_rfl)).symm.trans h0_) (by decide), Q_N3, Q_X0_, fun h0_ => absurd ((hoff 5 (by kernel_rfl)).symm.trans h0_) (by decide), Q_X10_, fun h0_ => absurd ((hoff 11 (by kernel_rfl)).symm.trans h0_) (by decide), Q_X12_⟩
            refine steps_cons ?_ ?_
            · rintro b a w' ⟨g27, g32, g37, g8, m0_, m5_, m10_, m11_, m12_, ha, Q_HB5, Q_FL, Q_FR, Q_FM, Q_FT, Q_FS, Q_N1, Q_N2, Q_N3, Q_X0_, Q_X5_, Q_X10_, Q_X11_, Q_X12_⟩ hb_ hon hoff
              refine ⟨_, rfl, fun K hK => ?_⟩
              have e66 : a.tmps[66]? = some (.pointer (some ⟨G, 3, none⟩)) := by rw [ha]; exact putSel_on (e := (3, 66, .pointer (some ⟨G, 3, none⟩))) 3 rfl rfl (hon 3 (by kernel_rfl)) rfl
              replace ha := Aside0.mk ha
              have HB5 := Aside0.mk Q_HB5
              have z3_ := (HB5.out.cell (World.block_lt_of_cell? _ _ z3)).trans z3
              refine value_ (w1 := w') (v := .int .i64 (k : Int)) (by rfl) rfl ?_ ?_
              · go_simp
                (try simp only [i64_w])
                try rfl
              refine hK.out _ _ ⟨g27, g32, g37, g8, m0_, m5_, m10_, m11_, m12_, (by rw [ha.out]; exact putSel_upk 4 hb_ rfl rfl rfl), Q_HB5, Q_FL, fun h0_ => absurd ((hoff 5 (by kernel_rfl)).symm.trans h0_) (by decide), Q_FM, Q_FT, fun h0_ => absurd ((hoff 13 (by kernel_rfl)).symm.trans h0_) (by decide), fun h0_ _ => absurd ((hoff 5 (by kernel_rfl)).symm.trans h0_) (by decide), fun h0_ _ => absurd ((hoff 5 (by kernel_rfl)).symm.trans h0_) (by decide), Q_N3, Q_X0_, fun h0_ => absurd ((hoff 5 (by kernel_rfl)).symm.trans h0_) (by decide), Q_X10_, fun h0_ => absurd ((hoff 11 (by kernel_rfl)).symm.trans h0_) (by decide), Q_X12_⟩
            refine steps_cons ?_ ?_
            · rintro b a w' ⟨g27, g32, g37, g8, m0_, m5_, m10_, m11_, m12_, ha, Q_HB5, Q_FL, Q_FR, Q_FM, Q_FT, Q_FS, Q_N1, Q_N2, Q_N3, Q_X0_, Q_X5_, Q_X10_, Q_X11_, Q_X12_⟩ hb_ hon hoff
              refine ⟨_, rfl, fun K hK => ?_⟩
              have e63 : a.tmps[63]? = some (m0_) := by rw [ha]; exact putSel_on (e := (0, 63, m0_)) 0 rfl rfl (hon 0 (by kernel_rfl)) rfl
              rw [Q_X0_ (hon 0 (by kernel_rfl))] at e63
              have e67 : a.tmps[67]? = some (.int .i64 (k : Int)) := by rw [ha]; exact putSel_on (e := (4, 67, .int .i64 (k : Int))) 4 rfl rfl (hon 4 (by kernel_rfl)) rfl
              replace ha := Aside0.mk ha
              have HB5 := Aside0.mk Q_HB5
              have FL := Aside0.mk (Q_FL (hon 0 (by kernel_rfl)) hb_)
              refine goes_ Try.func73 (by kernel_rfl) rfl #[.slice (some ⟨g27, 0, none⟩) 1 1, .int .i64 (k : Int)] (by rfl) rfl rfl (by first | (simp only [List.map_toArray, List.map_cons, List.map_nil, Act.eval, Array.getD_eq_getD_getElem?, Option.getD_some, e63, e67]; done) | (simp only [List.map_toArray, List.map_cons, List.map_nil, Act.eval, Array.getD_eq_getD_getElem?, Option.getD_some, e63, e67]; rfl)) ?_
              with_reducible refine (HREP.out w' g27 FL.out).mono ?_
              rintro e w4 ⟨gr, rfl, _, hb, hO, hG⟩
              refine ⟨_, rfl, ?_⟩
              refine hK.out _ _ ⟨g27, gr, g37, g8, m0_, (.slice (some ⟨gr, 0, none⟩) k k), m10_, m11_, m12_, (by rw [ha.out]; exact putSel_upk 5 hb_ rfl rfl rfl), (HB5.out.trans (hb.mono HB5.out.size)), fun _ h1_ => absurd ((up_self b 5).symm.trans h1_) (by decide), fun _ => ⟨hO, Nat.le_trans HB5.out.size hG⟩, fun h0_ => ((Q_FM h0_).below hb), fun h0_ h1_ => ((Q_FT h0_ h1_).below hb), fun h0_ => absurd ((hoff 13 (by kernel_rfl)).symm.trans h0_) (by decide), fun _ h_ => (fun e_ => absurd (Q_FM h_).lt (by omega)), fun _ h_ => (fun e_ => absurd (Q_FT h_ (hoff 13 (by kernel_rfl))).lt (by omega)), Q_N3, Q_X0_, fun _ => rfl, Q_X10_, fun h0_ => absurd ((hoff 11 (by kernel_rfl)).symm.trans h0_) (by decide), Q_X12_⟩
            refine steps_cons ?_ ?_
            · rintro b a w' ⟨g27, g32, g37, g8, m0_, m5_, m10_, m11_, m12_, ha, Q_HB5, Q_FL, Q_FR, Q_FM, Q_FT, Q_FS, Q_N1, Q_N2, Q_N3, Q_X0_, Q_X5_, Q_X10_, Q_X11_, Q_X12_⟩ hb_ hon hoff
              refine ⟨_, rfl, fun K hK => ?_⟩
              have e2 : a.tmps[2]? = some (.pointer (some ⟨w.heap.size, 0, none⟩)) := by rw [ha]; exact (putSel_off rfl).trans rfl
              replace ha := Aside0.mk ha
              have HB5 := Aside0.mk Q_HB5
              have z0_ := (HB5.out.cell (World.block_lt_of_cell? _ _ z0)).trans z0
              refine value_ (w1 := w') (v := .pointer (some ⟨G, 0, none⟩)) (by rfl) rfl ?_ ?_
              · go_simp
                (try simp only [i64_w])
                try rfl
              refine hK.out _ _ ⟨g27, g32, g37, g8, m0_, m5_, m10_, m11_, m12_, (by rw [ha.out]; exact putSel_upk 6 hb_ rfl rfl rfl), Q_HB5, Q_FL, Q_FR, fun h0_ => absurd ((hoff 10 (by kernel_rfl)).symm.trans h0_) (by decide), Q_FT, fun h0_ => absurd ((hoff 13 (by kernel_rfl)).symm.trans h0_) (by decide), fun _ h1_ => absurd ((hoff 10 (by kernel_rfl)).symm.trans h1_) (by decide), Q_N2, fun h0_ _ => absurd ((hoff 10 (by kernel_rfl)).symm.trans h0_) (by decide), Q_X0_, Q_X5_, fun h0_ => absurd ((hoff 10 (by kernel_rfl)).symm.trans h0_) (by decide), fun h0_ => absurd ((hoff 11 (by kernel_rfl)).symm.trans h0_) (by decide), Q_X12_⟩
            refine steps_cons ?_ ?_
            · rintro b a w' ⟨g27, g32, g37, g8, m0_, m5_, m10_, m11_, m12_, ha, Q_HB5, Q_FL, Q_FR, Q_FM, Q_FT, Q_FS, Q_N1, Q_N2, Q_N3, Q_X0_, Q_X5_, Q_X10_, Q_X11_, Q_X12_⟩ hb_ hon hoff
              refine ⟨_, rfl, fun K hK => ?_⟩
              have e69 : a.tmps[69]? = some (.pointer (some ⟨G, 0, none⟩)) := by rw [ha]; exact putSel_on (e := (6, 69, .pointer (some ⟨G, 0, none⟩))) 6 rfl rfl (hon 6 (by kernel_rfl)) rfl
              replace ha := Aside0.mk ha
              have HB5 := Aside0.mk Q_HB5
              refine value_ (w1 := w') (v := .pointer (some ⟨G, 0, none⟩)) (by rfl) rfl ?_ ?_
              · go_simp
                (try simp only [i64_w])
                try rfl
              refine hK.out _ _ ⟨g27, g32, g37, g8, m0_, m5_, m10_, m11_, m12_, (by rw [ha.out]; exact putSel_upk 7 hb_ rfl rfl rfl), Q_HB5, Q_FL, Q_FR, fun h0_ => absurd ((hoff 10 (by kernel_rfl)).symm.trans h0_) (by decide), Q_FT, fun h0_ => absurd ((hoff 13 (by kernel_rfl)).symm.trans h0_) (by decide), fun _ h1_ => absurd ((hoff 10 (by kernel_rfl)).symm.trans h1_) (by decide), Q_N2, fun h0_ _ => absurd ((hoff 10 (by kernel_rfl)).symm.trans h0_) (by decide), Q_X0_, Q_X5_, fun h0_ => absurd ((hoff 10 (by kernel_rfl)).symm.trans h0_) (by decide), fun h0_ => absurd ((hoff 11 (by kernel_rfl)).symm.trans h0_) (by decide), Q_X12_⟩
            refine steps_cons ?_ ?_
            · rintro b a w' ⟨g27, g32, g37, g8, m0_, m5_, m10_, m11_, m12_, ha, Q_HB5, Q_FL, Q_FR, Q_FM, Q_FT, Q_FS, Q_N1, Q_N2, Q_N3, Q_X0_, Q_X5_, Q_X10_, Q_X11_, Q_X12_⟩ hb_ hon hoff
              refine ⟨_, rfl, fun K hK => ?_⟩
              have e70 : a.tmps[70]? = some (.pointer (some ⟨G, 0, none⟩)) := by rw [ha]; exact putSel_on (e := (7, 70, .pointer (some ⟨G, 0, none⟩))) 7 rfl rfl (hon 7 (by kernel_rfl)) rfl
              replace ha := Aside0.mk ha
              have HB5 := Aside0.mk Q_HB5
              refine value_ (w1 := w') (v := .pointer (some ⟨G, 3, none⟩)) (by rfl) rfl ?_ ?_
              · go_simp
                (try simp only [i64_w])
                try rfl
              refine hK.out _ _ ⟨g27, g32, g37, g8, m0_, m5_, m10_, m11_, m12_, (by rw [ha.out]; exact putSel_upk 8 hb_ rfl rfl rfl), Q_HB5, Q_FL, Q_FR, fun h0_ => absurd ((hoff 10 (by kernel_rfl)).symm.trans h0_) (by decide), Q_FT, fun h0_ => absurd ((hoff 13 (by kernel_rfl)).symm.trans h0_) (by decide), fun _ h1_ => absurd ((hoff 10 (by kernel_rfl)).symm.trans h1_) (by decide), Q_N2, fun h0_ _ => absurd ((hoff 10 (by kernel_rfl)).symm.trans h0_) (by decide), Q_X0_, Q_X5_, fun h0_ => absurd ((hoff 10 (by kernel_rfl)).symm.trans h0_) (by decide), fun h0_ => absurd ((hoff 11 (by kernel_rfl)).symm.trans h0_) (by decide), Q_X12_⟩
            refine steps_cons ?_ ?_
            · rintro b a w' ⟨g27, g32, g37, g8, m0_, m5_, m10_, m11_, m12_, ha, Q_HB5, Q_FL, Q_FR, Q_FM, Q_FT, Q_FS, Q_N1, Q_N2, Q_N3, Q_X0_, Q_X5_, Q_X10_, Q_X11_, Q_X12_⟩ hb_ hon hoff
              refine ⟨_, rfl, fun K hK => ?_⟩
              have e71 : a.tmps[71]? = some (.pointer (some ⟨G, 3, none⟩)) := by rw [ha]; exact putSel_on (e := (8, 71, .pointer (some ⟨G, 3, none⟩))) 8 rfl rfl (hon 8 (by kernel_rfl)) rfl
              replace ha := Aside0.mk ha
              have HB5 := Aside0.mk Q_HB5
              have z3_ := (HB5.out.cell (World.block_lt_of_cell? _ _ z3)).trans z3
              refine value_ (w1 := w') (v := .int .i64 (k : Int)) (by rfl) rfl ?_ ?_
              · go_simp
                (try simp only [i64_w])
                try rfl
              refine hK.out _ _ ⟨g27, g32, g37, g8, m0_, m5_, m10_, m11_, m12_, (by rw [ha.out]; exact putSel_upk 9 hb_ rfl rfl rfl), Q_HB5, Q_FL, Q_FR, fun h0_ => absurd ((hoff 10 (by kernel_rfl)).symm.trans h0_) (by decide), Q_FT, fun h0_ => absurd ((hoff 13 (by kernel_rfl)).symm.trans h0_) (by decide), fun _ h1_ => absurd ((hoff 10 (by kernel_rfl)).symm.trans h1_) (by decide), Q_N2, fun h0_ _ => absurd ((hoff 10 (by kernel_rfl)).symm.trans h0_) (by decide), Q_X0_, Q_X5_, fun h0_ => absurd ((hoff 10 (by kernel_rfl)).symm.trans h0_) (by decide), fun h0_ => absurd ((hoff 11 (by kernel_rfl)).symm.trans h0_) (by decide), Q_X12_⟩
            refine steps_cons ?_ ?_
            · rintro b a w' ⟨g27, g32, g37, g8, m0_, m5_, m10_, m11_, m12_, ha, Q_HB5, Q_FL, Q_FR, Q_FM, Q_FT, Q_FS, Q_N1, Q_N2, Q_N3, Q_X0_, Q_X5_, Q_X10_, Q_X11_, Q_X12_⟩ hb_ hon hoff
              refine ⟨_, rfl, fun K hK => ?_⟩
              have e72 : a.tmps[72]? = some (.int .i64 (k : Int)) := by rw [ha]; exact putSel_on (e := (9, 72, .int .i64 (k : Int))) 9 rfl rfl (hon 9 (by kernel_rfl)) rfl
              replace ha := Aside0.mk ha
              have HB5 := Aside0.mk Q_HB5
              refine value_ (w1 := ?_) (v := ?_) (by rfl) rfl ?_ ?_
              rotate_left 2
              · go_simp
                constructor
                · rfl
                · rfl
              refine hK.out _ _ ⟨g27, g32, w'.heap.size, g8, m0_, m5_, (.slice (some ⟨w'.heap.size, 0, none⟩) k k), m11_, m12_, (by rw [ha.out]; exact putSel_upk 10 hb_ rfl rfl rfl), (below_alloc HB5.out _), fun h0_ h1_ => (cellA (Q_FL h0_ h1_)), fun h0_ => ((Q_FR h0_).alloc _), fun _ => (by rw [madeInts]; exact Blk.new _ _ HB5.out.size _), fun h0_ h1_ => ((Q_FT h0_ h1_).alloc _), fun h0_ => absurd ((hoff 13 (by kernel_rfl)).symm.trans h0_) (by decide), fun h_ _ => (fun e_ => absurd (Q_FR h_).lt (by omega)), Q_N2, fun _ h_ => (fun e_ => absurd (Q_FT h_ (hoff 13 (by kernel_rfl))).lt (by omega)), Q_X0_, Q_X5_, fun _ => rfl, fun h0_ => absurd ((hoff 11 (by kernel_rfl)).symm.trans h0_) (by decide), Q_X12_⟩
            refine steps_cons ?_ ?_
            · rintro b a w' ⟨g27, g32, g37, g8, m0_, m5_, m10_, m11_, m12_, ha, Q_HB5, Q_FL, Q_FR, Q_FM, Q_FT, Q_FS, Q_N1, Q_N2, Q_N3, Q_X0_, Q_X5_, Q_X10_, Q_X11_, Q_X12_⟩ hb_ hon hoff
              refine ⟨_, rfl, fun K hK => ?_⟩
              have e68 : a.tmps[68]? = some (m5_) := by rw [ha]; exact putSel_on (e := (5, 68, m5_)) 5 rfl rfl (hon 5 (by kernel_rfl)) rfl
              rw [Q_X5_ (hon 5 (by kernel_rfl))] at e68
              have e73 : a.tmps[73]? = some (m10_) := by rw [ha]; exact putSel_on (e := (10, 73, m10_)) 10 rfl rfl (hon 10 (by kernel_rfl)) rfl
              rw [Q_X10_ (hon 10 (by kernel_rfl))] at e73
              replace ha := Aside0.mk ha
              have HB5 := Aside0.mk Q_HB5
              have FR := Aside0.mk (Q_FR (hon 5 (by kernel_rfl)))
              have FM := Aside0.mk (Q_FM (hon 10 (by kernel_rfl)))
              have N1 := Aside0.mk (Q_N1 (hon 5 (by kernel_rfl)) (hon 10 (by kernel_rfl)))
              refine value_ (w1 := w') (v := .agg #[.slice (some ⟨g32, 0, none⟩) k k, .slice (some ⟨g37, 0, none⟩) k k]) (by rfl) rfl ?_ ?_
              · go_simp
                (try simp only [i64_w])
                try rfl
              refine hK.out _ _ ⟨g27, g32, g37, g8, m0_, m5_, m10_, (.agg #[.slice (some ⟨g32, 0, none⟩) k k, .slice (some ⟨g37, 0, none⟩) k k]), m12_, (by rw [ha.out]; exact putSel_upk 11 hb_ rfl rfl rfl), Q_HB5, fun _ h1_ => absurd ((hon 5 (by kernel_rfl)).symm.trans h1_) (by decide), Q_FR, Q_FM, Q_FT, fun h0_ => absurd ((hoff 13 (by kernel_rfl)).symm.trans h0_) (by decide), Q_N1, Q_N2, Q_N3, Q_X0_, Q_X5_, Q_X10_, fun _ => rfl, Q_X12_⟩
            refine steps_cons ?_ ?_
            · rintro b a w' ⟨g27, g32, g37, g8, m0_, m5_, m10_, m11_, m12_, ha, Q_HB5, Q_FL, Q_FR, Q_FM, Q_FT, Q_FS, Q_N1, Q_N2, Q_N3, Q_X0_, Q_X5_, Q_X10_, Q_X11_, Q_X12_⟩ hb_ hon hoff
              refine ⟨_, rfl, fun K hK => ?_⟩
              replace ha := Aside0.mk ha
              have HB5 := Aside0.mk Q_HB5
              refine value_ (w1 := ?_) (v := ?_) (by rfl) rfl ?_ ?_
              rotate_left 2
              · go_simp
                constructor
                · rfl
                · rfl
              refine hK.out _ _ ⟨g27, g32, g37, w'.heap.size, m0_, m5_, m10_, m11_, (.pointer (some ⟨w'.heap.size, 0, none⟩)), (by rw [ha.out]; exact putSel_upk 12 hb_ rfl rfl rfl), (below_alloc HB5.out _), fun h0_ h1_ => (cellA (Q_FL h0_ h1_)), fun h0_ => ((Q_FR h0_).alloc _), fun h0_ => ((Q_FM h0_).alloc _), fun _ _ => (Blk.new _ _ HB5.out.size _), fun h0_ => absurd ((hoff 13 (by kernel_rfl)).symm.trans h0_) (by decide), Q_N1, fun h_ _ => (fun e_ => absurd (Q_FR h_).lt (by omega)), fun h_ _ => (fun e_ => absurd (Q_FM h_).lt (by omega)), Q_X0_, Q_X5_, Q_X10_, Q_X11_, fun _ => rfl⟩
            refine steps_cons ?_ ?_
            · rintro b a w' ⟨g27, g32, g37, g8, m0_, m5_, m10_, m11_, m12_, ha, Q_HB5, Q_FL, Q_FR, Q_FM, Q_FT, Q_FS, Q_N1, Q_N2, Q_N3, Q_X0_, Q_X5_, Q_X10_, Q_X11_, Q_X12_⟩ hb_ hon hoff
              refine ⟨_, rfl, fun K hK => ?_⟩
              have e12 : a.tmps[12]? = some (m12_) := by rw [ha]; exact putSel_on (e := (12, 12, m12_)) 12 rfl rfl (hon 12 (by kernel_rfl)) rfl
              rw [Q_X12_ (hon 12 (by kernel_rfl))] at e12
              have e74 : a.tmps[74]? = some (m11_) := by rw [ha]; exact putSel_on (e := (11, 74, m11_)) 11 rfl rfl (hon 11 (by kernel_rfl)) rfl
              rw [Q_X11_ (hon 11 (by kernel_rfl))] at e74
              replace ha := Aside0.mk ha
              have HB5 := Aside0.mk Q_HB5
              have FR := Aside0.mk (Q_FR (hon 5 (by kernel_rfl)))
              have FM := Aside0.mk (Q_FM (hon 10 (by kernel_rfl)))
              have FT := Aside0.mk (Q_FT (hon 12 (by kernel_rfl)) hb_)
              have N1 := Aside0.mk (Q_N1 (hon 5 (by kernel_rfl)) (hon 10 (by kernel_rfl)))
              have N2 := Aside0.mk (Q_N2 (hon 5 (by kernel_rfl)) (hon 12 (by kernel_rfl)))
              have N3 := Aside0.mk (Q_N3 (hon 10 (by kernel_rfl)) (hon 12 (by kernel_rfl)))
              have t0_ := FT.out.c0
              have t1_ := (FT.out.s0 (.slice (some ⟨g32, 0, none⟩) k k)).c1
              have f0_ := FT.out.fz 0
              have f1_ := (FT.out.s0 (.slice (some ⟨g32, 0, none⟩) k k)).fz 1
              refine skip_ (w1 := ?_) (by rfl) rfl ?_ ?_
              rotate_left
              · go_simp
                rfl
              refine hK.out _ _ ⟨g27, g32, g37, g8, m0_, m5_, m10_, m11_, m12_, (by rw [ha.out]; exact putSel_none (v := undef) rfl), (below_set (below_set HB5.out FT.out.2) FT.out.2), fun _ h1_ => absurd ((hon 5 (by kernel_rfl)).symm.trans h1_) (by decide), fun _ => ((FR.out.far N2.out _).far N2.out _), fun _ => ((FM.out.far N3.out _).far N3.out _), fun _ h1_ => absurd ((up_self b 13).symm.trans h1_) (by decide), fun _ => ((FT.out.s0 _).s1 _), Q_N1, Q_N2, Q_N3, Q_X0_, Q_X5_, Q_X10_, Q_X11_, Q_X12_⟩
            exact steps_nil
          rintro b a w' hall ⟨g27, g32, g37, g8, m0_, m5_, m10_, m11_, m12_, ha, Q_HB5, Q_FL, Q_FR, Q_FM, Q_FT, Q_FS, Q_N1, Q_N2, Q_N3, Q_X0_, Q_X5_, Q_X10_, Q_X11_, Q_X12_⟩
          clear HB5
          have hb0_ := hall 0 (by kernel_rfl)
          have hb1_ := hall 1 (by kernel_rfl)
          have hb2_ := hall 2 (by kernel_rfl)
          have hb3_ := hall 3 (by kernel_rfl)
          have hb4_ := hall 4 (by kernel_rfl)
          have hb5_ := hall 5 (by kernel_rfl)
          have hb6_ := hall 6 (by kernel_rfl)
          have hb7_ := hall 7 (by kernel_rfl)
          have hb8_ := hall 8 (by kernel_rfl)
          have hb9_ := hall 9 (by kernel_rfl)
          have hb10_ := hall 10 (by kernel_rfl)
          have hb11_ := hall 11 (by kernel_rfl)
          have hb12_ := hall 12 (by kernel_rfl)
          have hb13_ := hall 13 (by kernel_rfl)
          subst ha
          obtain rfl := Q_X0_ hb0_
          obtain rfl := Q_X5_ hb5_
          obtain rfl := Q_X10_ hb10_
          obtain rfl := Q_X11_ hb11_
          obtain rfl := Q_X12_ hb12_
          simp only [putSel, hb0_, hb1_, hb2_, hb3_, hb4_, hb5_, hb6_, hb7_, hb8_, hb9_, hb10_, hb11_, hb12_, if_true, Act.put, List.setIfInBounds_toArray, List.set_cons_zero, List.set_cons_succ]
          have HB5 := Aside0.mk Q_HB5
          clear Q_HB5
          clear Q_FL
          have FR := Aside0.mk (Q_FR hb5_)
          clear Q_FR
          have FM := Aside0.mk (Q_FM hb10_)
          clear Q_FM
          clear Q_FT
          have FS := Aside0.mk (Q_FS hb13_)
          clear Q_FS
          have N1 := Aside0.mk (Q_N1 hb5_ hb10_)
          clear Q_N1
          have N2 := Aside0.mk (Q_N2 hb5_ hb12_)
          clear Q_N2
          have N3 := Aside0.mk (Q_N3 hb10_ hb12_)
          clear Q_N3
          clear hall hb0_ hb1_ hb2_ hb3_ hb4_ hb5_ hb6_ hb7_ hb8_ hb9_ hb10_ hb11_ hb12_ hb13_
          clear HREP hmk hi hz0 hsz hby hi1 hz1 hsz1 hby1 hHeld HT_ HW_
          have y3 := (HB5.out.cell (World.block_lt_of_cell? _ _ z3)).trans z3
          have y0 := (HB5.out.cell (World.block_lt_of_cell? _ _ z0)).trans z0
          go_wp2_with (fail)
          clear y0 y3
          obtain ⟨A5, c5, hv5, hl5, hC5⟩ := Kd.N_reads HN4.out
          subst hv5
          have HC5 := Aside0.mk hC5
          clear hC5
          go_loopg [13, 14, 15, 16, 17, 79] k (fun gg v13 v14 v15 v16 v17 v79 w' => ∃ (i : Nat), i ≤ k ∧ k - i ≤ gg ∧ v79 = .int .i64 i ∧ Aside0 (Below w3.heap.size w3 w') ∧ Aside0 (Blk w' w3.heap.size g8 (tabO (.slice (some ⟨g32, 0, none⟩) k k) (.slice (some ⟨g37, 0, none⟩) k k)))
            ∧ Aside0 (Blk w' w3.heap.size g32 (ints (joinTo k C (rd F m) (rd_T111 (sankTo k C F J L m) ja) (rd_T111 (sankTo k C F J L m) jb) i).f0)) ∧ Aside0 (Blk w' w3.heap.size g37 (ints (joinTo k C (rd F m) (rd_T111 (sankTo k C F J L m) ja) (rd_T111 (sankTo k C F J L m) jb) i).f1)))
          case atStart => exact ⟨0, Nat.zero_le _, by omega, rfl, HB5, FS, FR, FM⟩
          case round =>
            clear HB5 FS FR FM
            obtain ⟨i, hi, hgg2, rfl, HB5, FS, FR, FM⟩ := hrel
            by_cases hlt2 : i < k
            · have hltb2 : decide ((i : Int) < (k : Int)) = true := decide_eq_true (by omega)
              have hltc2 : decide (i < k) = true := decide_eq_true hlt2
              have hltz2 : ((i : Int) < (k : Int)) = True := eq_true (by omega)
              have HI := Aside0.mk hlt2
              obtain ⟨adF, eF, hxF⟩ := Kd.at_int HRF.out m (by omega) (by have := HC.out.2; have := HLT.out; omega)
              cases eF
              rw [Int.toNat_natCast] at hxF
              have HBW := Aside0.mk (HB4.out.trans (HB5.out.mono HB4.out.size))
              replace hxF := (HQ.out.1.cell (World.block_lt_of_cell? _ _ hxF)).trans hxF
              replace hxF := (HBW.out.cell (World.block_lt_of_cell? _ _ hxF)).trans hxF
              have hmF0 : m < F.length := by have := HC.out.2; have := HLT.out; omega
              have hmF : decide (m < F.length) = true := decide_eq_true hmF0
              have hmF1 : decide ((m : Int) < (F.length : Int)) = true := decide_eq_true (by omega)
              have hmF2 : ((m : Int) < (F.length : Int)) = True := eq_true (by omega)
              have hge : ∀ x : S111, x = joinTo k C (rd F m) (rd_T111 (sankTo k C F J L m) ja) (rd_T111 (sankTo k C F J L m) jb) i → joinTo k C (rd F m) (rd_T111 (sankTo k C F J L m) ja) (rd_T111 (sankTo k C F J L m) jb) (i + 1) = if 0 ≤ rd F m ∧ rd F m ≠ i then x else
                  ⟨x.f0.set i (wrap64 ((belowTo (rd_L3 C i) (rd_T111 (sankTo k C F J L m) ja).f0 (rd_T111 (sankTo k C F J L m) ja).f1 k).1 + (belowTo (rd_L3 C i) (rd_T111 (sankTo k C F J L m) jb).f0 (rd_T111 (sankTo k C F J L m) jb).f1 k).1)), x.f1.set i (wrap64 ((belowTo (rd_L3 C i) (rd_T111 (sankTo k C F J L m) ja).f0 (rd_T111 (sankTo k C F J L m) ja).f1 k).2 * (belowTo (rd_L3 C i) (rd_T111 (sankTo k C F J L m) jb).f0 (rd_T111 (sankTo k C F J L m) jb).f1 k).2))⟩ := by
                rintro x rfl; rfl
              generalize htj : joinTo k C (rd F m) (rd_T111 (sankTo k C F J L m) ja) (rd_T111 (sankTo k C F J L m) jb) i = tj at FR FM
              have HTJ : Aside0 (tj.f0.length = k ∧ tj.f1.length = k) := ⟨by rw [← htj]; exact joinTo_len _ _ _ _ _ _⟩
              have HST := Aside0.mk (hge tj htj.symm)
              clear htj hge
              have x0 := (FS.out.drew).c0
              clear x0
              have g0_ := (HG11.out.below HB5.out).1
              have x0 : wr.cell? ⟨g11, 0, none⟩ = some (.int .i64 (ja : Int)) := by simp [World.cell?, g0_]
              have x1 : wr.cell? ⟨g11, 1, none⟩ = some (.int .i64 (jb : Int)) := by simp [World.cell?, g0_]
              clear g0_
              have hjlen := sankTo_length k C F J L m
              have hja : (ja : Int) < ((sankTo k C F J L m).length : Int) := by have := HAB.out; omega
              have hjb : (jb : Int) < ((sankTo k C F J L m).length : Int) := by have := HAB.out; omega
              have LA := Aside0.mk (sankTo_len k C F J L m _ (rd_T111_mem _ (ja : Int) (by omega) hja))
              have LB := Aside0.mk (sankTo_len k C F J L m _ (rd_T111_mem _ (jb : Int) (by omega) hjb))
              obtain ⟨ad5, Aa0, ca0, Aa1, ca1, e5, ya0, ya1, la0, ra0, la1, ra1⟩ := at_T111 (Kd.C_below HC5.out HB5.out) (ja : Int) (by omega) hja
              cases e5
              obtain ⟨ad6, Ab0, cb0, Ab1, cb1, e6, yb0, yb1, lb0, rb0, lb1, rb1⟩ := at_T111 (Kd.C_below HC5.out HB5.out) (jb : Int) (by omega) hjb
              cases e6
              rw [Int.toNat_natCast] at ya0 ya1 yb0 yb1
              have RA := Aside0.mk (And.intro ra0 ra1)
              have RB := Aside0.mk (And.intro rb0 rb1)
              have hda : decide (ja < (sankTo k C F J L m).length) = true := decide_eq_true (by omega)
              have hdb : decide (jb < (sankTo k C F J L m).length) = true := decide_eq_true (by omega)
              clear ra0 ra1 rb0 rb1 la0 la1 lb0 lb1 hjlen
              generalize rd_T111 (sankTo k C F J L m) ja = ta at *
              generalize rd_T111 (sankTo k C F J L m) jb = tb at *
              generalize rd F m = f at *
              have HP := Aside0.mk (HQ.out.2.1.below HBW.out)
              have HZP := Aside0.mk ((HBW.out.cell (World.block_lt_of_cell? _ _ HQ.out.2.2)).trans HQ.out.2.2)
              obtain ⟨ca, wa, hba⟩ : ∃ ca wa, belowTo (rd_L3 C i) ta.f0 ta.f1 k = (ca, wa) := ⟨_, _, rfl⟩
              obtain ⟨cb, wb, hbb⟩ : ∃ cb wb, belowTo (rd_L3 C i) tb.f0 tb.f1 k = (cb, wb) := ⟨_, _, rfl⟩
              have HCA := Aside0.mk (below_calls wr G n _ cJ J AL cL L k B AC cC C HP.out w.heap.size HZP.out (by have := HK.out.1; omega) HC.out.1.1 Aa0 ca0 ta.f0 Aa1 ca1 ta.f1 RA.out.1 RA.out.2 LA.out.1 LA.out.2 i HI.out (HC.out.1.2 i HI.out))
              have HCB := Aside0.mk (fun (W : World) (h : Below wr.heap.size wr W) => below_calls W G n _ cJ J AL cL L k B AC cC C (HP.out.below h) w.heap.size ((h.cell (World.block_lt_of_cell? _ _ HZP.out)).trans HZP.out) (by have := HK.out.1; omega) HC.out.1.1 Ab0 cb0 tb.f0 Ab1 cb1 tb.f1 (Kd.C_below RB.out.1 h) (Kd.C_below RB.out.2 h) LB.out.1 LB.out.2 i HI.out (HC.out.1.2 i HI.out))
              rw [hba] at HCA HST
              rw [hbb] at HCB HST
              clear hba hbb
              by_cases hs : 0 ≤ f ∧ f ≠ i
              · have hs1 : decide (0 ≤ f) = true := decide_eq_true hs.1
                have hs2 : (f != (i : Int)) = true := bne_iff_ne.2 hs.2
                have hs3 : (f == (i : Int)) = false := beq_eq_false_iff_ne.2 hs.2
                have HNX := Aside0.mk (HST.out.trans (if_pos hs))
                clear hs HST
                go_wp2_with (fail)
                all_goals
                  go_roundg (k - (i + 1))
                  case measure => have := HI.out; omega
                  case rel => have hl1_ := HK.out.1; have hl2_ := HI.out; exact ⟨i + 1, HI.out, Nat.le_refl _, by rw [w64_succ i (by omega)], HB5, FS, by rw [HNX.out]; exact FR, by rw [HNX.out]; exact FM⟩
              · have HNX := Aside0.mk (HST.out.trans (if_neg hs))
                have hone : (decide (0 ≤ f) = false ∨ (decide (0 ≤ f) = true ∧ f = (i : Int))) := by
                  by_cases h0 : 0 ≤ f
                  · exact .inr ⟨decide_eq_true h0, Classical.byContradiction (fun h => hs ⟨h0, h⟩)⟩
                  · exact .inl (decide_eq_false h0)
                clear hs HST
                obtain ⟨i1, hi1, hz1, hsz1, hby1⟩ := info_parts info111
                have HBQ := Aside0.mk (fun (W : World) (h : Below w3.heap.size w3 W) => And.intro HG11.out HC5.out)
                rcases hone with hs1 | ⟨hs1, hs2⟩
                · go_wp2_with (first
                    | (go_at_call 84; refine HCA.out.mono ?_; rintro e w6 ⟨rfl, hb6⟩; replace x1 := (hb6.cell (World.block_lt_of_cell? _ _ x1)).trans x1; replace yb0 := (hb6.cell (World.block_lt_of_cell? _ _ yb0)).trans yb0; replace yb1 := (hb6.cell (World.block_lt_of_cell? _ _ yb1)).trans yb1; have HB6 := Aside0.mk hb6; clear hb6 HCA)
                    | (go_at_call 84; refine (HCB.out _ HB6.out).mono ?_; rintro e w7 ⟨rfl, hb7⟩; have HB7 := Aside0.mk (HB6.out.trans (hb7.mono HB6.out.size)); clear hb7 HB6 HCB))
                  replace HB5 := Aside0.mk (HB5.out.trans (HB7.out.mono HB5.out.size))
                  replace FR := Aside0.mk (FR.out.below HB7.out)
                  replace FM := Aside0.mk (FM.out.below HB7.out)
                  replace FS := Aside0.mk (FS.out.below HB7.out)
                  clear HB7 HBQ x0 x1 ya0 ya1 yb0 yb1 hxF
                  refine start_ (n := 16) (S := fun w' => True) (ds := []) #[false, false, false, false, false, false, false, false, false, false, false, false, false, false, false, false] (by kernel_rfl) rfl rfl trivial (fun hHeld => ?_)
                  refine with_tabW sankoff.tab20 sankoff.bits20 (fun HT_ HW_ => ?_)
                  replace HB5 := Aside0.mk (below_drew1 HB5.out)
                  replace FR := Aside0.mk (Blk.drew FR.out)
                  replace FM := Aside0.mk (Blk.drew FM.out)
                  replace FS := Aside0.mk (Blk.drew FS.out)
                  generalize w7.drew = w5 at HB5 FR FM FS hHeld ⊢
                  have FR0 := FR
                  have FM0 := FM
                  refine inv_at [0, 1, 2, 3, 4, 5, 6, 7, 8, 9, 10, 11, 12, 13, 14, 15] (fun a0_ b a w' => a = putSel a0_ b [(0, 117, .pointer (some ⟨g8, 0, none⟩)), (1, 118, .slice (some ⟨g32, 0, none⟩) k k), (2, 119, .int .i64 (i : Int)), (3, 120, .pointer (some ⟨g8, 1, none⟩)), (4, 121, .slice (some ⟨g37, 0, none⟩) k k), (5, 122, .int .i64 (i : Int)), (6, 123, .int .i64 ca), (7, 124, .int .i64 cb), (8, 125, .int .i64 (wrap64 (ca + cb))), (9, 126, .int .i64 wa), (10, 127, .int .i64 wb), (11, 128, .int .i64 (wrap64 (wa * wb))), (12, 129, .pointer (some ⟨g32, i, none⟩)), (14, 130, .pointer (some ⟨g37, i, none⟩))] ∧ (Below w3.heap.size w3 w') ∧ (Blk w' w3.heap.size g8 (tabO (.slice (some ⟨g32, 0, none⟩) k k) (.slice (some ⟨g37, 0, none⟩) k k))) ∧ (b 13 = false → Blk w' w3.heap.size g32 (ints (tj.f0))) ∧ (b 13 = true → Blk w' w3.heap.size g32 (ints ((tj.f0).set i (wrap64 (ca + cb))))) ∧ (b 15 = false → Blk w' w3.heap.size g37 (ints (tj.f1))) ∧ (b 15 = true → Blk w' w3.heap.size g37 (ints ((tj.f1).set i (wrap64 (wa * wb)))))) HT_.out HW_.out (by kernel_rfl) (by kernel_rfl) ?_ ?_ ?_
                  · exact ⟨by simp only [putSel, Bool.false_eq_true, if_false], HB5.out, FS.out, fun _ => FR.out, fun h_ => absurd h_ (by decide), fun _ => FM.out, fun h_ => absurd h_ (by decide)⟩
                  · skip
                    clear FM0 FR0 FS HB5
                    refine steps_cons ?_ ?_
                    · rintro b a w' ⟨ha, Q_HB5, Q_FS, Q_FR0, Q_FR1, Q_FM0, Q_FM1⟩ hb_ hon hoff
                      refine ⟨_, rfl, fun K hK => ?_⟩
                      have e12 : a.tmps[12]? = some (.pointer (some ⟨g8, 0, none⟩)) := by rw [ha]; exact (putSel_off rfl).trans rfl
                      replace ha := Aside0.mk ha
                      have HB5 := Aside0.mk Q_HB5
                      have FS := Aside0.mk Q_FS
                      have FR0 := Aside0.mk (Q_FR0 (hoff 13 (by kernel_rfl)))
                      have FM0 := Aside0.mk (Q_FM0 (hoff 15 (by kernel_rfl)))
                      refine value_ (w1 := w') (v := .pointer (some ⟨g8, 0, none⟩)) (by rfl) rfl ?_ ?_
                      · go_simp
                        (try simp only [i64_w])
                        try rfl
                      refine hK.out _ _ ⟨(by rw [ha.out]; exact putSel_upk 0 hb_ rfl rfl rfl), Q_HB5, Q_FS, Q_FR0, fun h0_ => absurd ((hoff 13 (by kernel_rfl)).symm.trans h0_) (by decide), Q_FM0, fun h0_ => absurd ((hoff 15 (by kernel_rfl)).symm.trans h0_) (by decide)⟩
                    refine steps_cons ?_ ?_
                    · rintro b a w' ⟨ha, Q_HB5, Q_FS, Q_FR0, Q_FR1, Q_FM0, Q_FM1⟩ hb_ hon hoff
                      refine ⟨_, rfl, fun K hK => ?_⟩
                      have e117 : a.tmps[117]? = some (.pointer (some ⟨g8, 0, none⟩)) := by rw [ha]; exact putSel_on (e := (0, 117, .pointer (some ⟨g8, 0, none⟩))) 0 rfl rfl (hon 0 (by kernel_rfl)) rfl
                      replace ha := Aside0.mk ha
                      have HB5 := Aside0.mk Q_HB5
                      have FS := Aside0.mk Q_FS
                      have FR0 := Aside0.mk (Q_FR0 (hoff 13 (by kernel_rfl)))
                      have FM0 := Aside0.mk (Q_FM0 (hoff 15 (by kernel_rfl)))
                      have c0_ := FS.out.c0
                      have c1_ := FS.out.c1
                      refine value_ (w1 := w') (v := .slice (some ⟨g32, 0, none⟩) k k) (by rfl) rfl ?_ ?_
                      · go_simp
                        (try simp only [i64_w])
                        try rfl
                      refine hK.out _ _ ⟨(by rw [ha.out]; exact putSel_upk 1 hb_ rfl rfl rfl), Q_HB5, Q_FS, Q_FR0, fun h0_ => absurd ((hoff 13 (by kernel_rfl)).symm.trans h0_) (by decide), Q_FM0, fun h0_ => absurd ((hoff 15 (by kernel_rfl)).symm.trans h0_) (by decide)⟩
                    refine steps_cons ?_ ?_
                    · rintro b a w' ⟨ha, Q_HB5, Q_FS, Q_FR0, Q_FR1, Q_FM0, Q_FM1⟩ hb_ hon hoff
                      refine ⟨_, rfl, fun K hK => ?_⟩
                      have e13 : a.tmps[13]? = some (.int .i64 (i : Int)) := by rw [ha]; exact (putSel_off rfl).trans rfl
                      replace ha := Aside0.mk ha
                      have HB5 := Aside0.mk Q_HB5
                      have FS := Aside0.mk Q_FS
                      have FR0 := Aside0.mk (Q_FR0 (hoff 13 (by kernel_rfl)))
                      have FM0 := Aside0.mk (Q_FM0 (hoff 15 (by kernel_rfl)))
                      refine value_ (w1 := w') (v := .int .i64 (i : Int)) (by rfl) rfl ?_ ?_
                      · go_simp
                        (try simp only [i64_w])
                        try rfl
                      refine hK.out _ _ ⟨(by rw [ha.out]; exact putSel_upk 2 hb_ rfl rfl rfl), Q_HB5, Q_FS, Q_FR0, fun h0_ => absurd ((hoff 13 (by kernel_rfl)).symm.trans h0_) (by decide), Q_FM0, fun h0_ => absurd ((hoff 15 (by kernel_rfl)).symm.trans h0_) (by decide)⟩
                    refine steps_cons ?_ ?_
                    · rintro b a w' ⟨ha, Q_HB5, Q_FS, Q_FR0, Q_FR1, Q_FM0, Q_FM1⟩ hb_ hon hoff
                      refine ⟨_, rfl, fun K hK => ?_⟩
                      have e12 : a.tmps[12]? = some (.pointer (some ⟨g8, 0, none⟩)) := by rw [ha]; exact (putSel_off rfl).trans rfl
                      replace ha := Aside0.mk ha
                      have HB5 := Aside0.mk Q_HB5
                      have FS := Aside0.mk Q_FS
                      have FM0 := Aside0.mk (Q_FM0 (hoff 15 (by kernel_rfl)))
                      refine value_ (w1 := w') (v := .pointer (some ⟨g8, 1, none⟩)) (by rfl) rfl ?_ ?_
                      · go_simp
                        (try simp only [i64_w])
                        try rfl
                      refine hK.out _ _ ⟨(by rw [ha.out]; exact putSel_upk 3 hb_ rfl rfl rfl), Q_HB5, Q_FS, Q_FR0, Q_FR1, Q_FM0, fun h0_ => absurd ((hoff 15 (by kernel_rfl)).symm.trans h0_) (by decide)⟩
                    refine steps_cons ?_ ?_
                    · rintro b a w' ⟨ha, Q_HB5, Q_FS, Q_FR0, Q_FR1, Q_FM0, Q_FM1⟩ hb_ hon hoff
                      refine ⟨_, rfl, fun K hK => ?_⟩
                      have e120 : a.tmps[120]? = some (.pointer (some ⟨g8, 1, none⟩)) := by rw [ha]; exact putSel_on (e := (3, 120, .pointer (some ⟨g8, 1, none⟩))) 3 rfl rfl (hon 3 (by kernel_rfl)) rfl
                      replace ha := Aside0.mk ha
                      have HB5 := Aside0.mk Q_HB5
                      have FS := Aside0.mk Q_FS
                      have FM0 := Aside0.mk (Q_FM0 (hoff 15 (by kernel_rfl)))
                      have c0_ := FS.out.c0
                      have c1_ := FS.out.c1
                      refine value_ (w1 := w') (v := .slice (some ⟨g37, 0, none⟩) k k) (by rfl) rfl ?_ ?_
                      · go_simp
                        (try simp only [i64_w])
                        try rfl
                      refine hK.out _ _ ⟨(by rw [ha.out]; exact putSel_upk 4 hb_ rfl rfl rfl), Q_HB5, Q_FS, Q_FR0, Q_FR1, Q_FM0, fun h0_ => absurd ((hoff 15 (by kernel_rfl)).symm.trans h0_) (by decide)⟩
                    refine steps_cons ?_ ?_
                    · rintro b a w' ⟨ha, Q_HB5, Q_FS, Q_FR0, Q_FR1, Q_FM0, Q_FM1⟩ hb_ hon hoff
                      refine ⟨_, rfl, fun K hK => ?_⟩
                      have e13 : a.tmps[13]? = some (.int .i64 (i : Int)) := by rw [ha]; exact (putSel_off rfl).trans rfl
                      replace ha := Aside0.mk ha
                      have HB5 := Aside0.mk Q_HB5
                      have FS := Aside0.mk Q_FS
                      have FM0 := Aside0.mk (Q_FM0 (hoff 15 (by kernel_rfl)))
                      refine value_ (w1 := w') (v := .int .i64 (i : Int)) (by rfl) rfl ?_ ?_
                      · go_simp
                        (try simp only [i64_w])
                        try rfl
                      refine hK.out _ _ ⟨(by rw [ha.out]; exact putSel_upk 5 hb_ rfl rfl rfl), Q_HB5, Q_FS, Q_FR0, Q_FR1, Q_FM0, fun h0_ => absurd ((hoff 15 (by kernel_rfl)).symm.trans h0_) (by decide)⟩
                    refine steps_cons ?_ ?_
                    · rintro b a w' ⟨ha, Q_HB5, Q_FS, Q_FR0, Q_FR1, Q_FM0, Q_FM1⟩ hb_ hon hoff
                      refine ⟨_, rfl, fun K hK => ?_⟩
                      have e14 : a.tmps[14]? = some (.int .i64 ca) := by rw [ha]; exact (putSel_off rfl).trans rfl
                      replace ha := Aside0.mk ha
                      have HB5 := Aside0.mk Q_HB5
                      have FS := Aside0.mk Q_FS
                      have FR0 := Aside0.mk (Q_FR0 (hoff 13 (by kernel_rfl)))
                      have FM0 := Aside0.mk (Q_FM0 (hoff 15 (by kernel_rfl)))
                      refine value_ (w1 := w') (v := .int .i64 ca) (by rfl) rfl ?_ ?_
                      · go_simp
                        (try simp only [i64_w])
                        try rfl
                      refine hK.out _ _ ⟨(by rw [ha.out]; exact putSel_upk 6 hb_ rfl rfl rfl), Q_HB5, Q_FS, Q_FR0, fun h0_ => absurd ((hoff 13 (by kernel_rfl)).symm.trans h0_) (by decide), Q_FM0, fun h0_ => absurd ((hoff 15 (by kernel_rfl)).symm.trans h0_) (by decide)⟩
                    refine steps_cons ?_ ?_
                    · rintro b a w' ⟨ha, Q_HB5, Q_FS, Q_FR0, Q_FR1, Q_FM0, Q_FM1⟩ hb_ hon hoff
                      refine ⟨_, rfl, fun K hK => ?_⟩
                      have e16 : a.tmps[16]? = some (.int .i64 cb) := by rw [ha]; exact (putSel_off rfl).trans rfl
                      replace ha := Aside0.mk ha
                      have HB5 := Aside0.mk Q_HB5
                      have FS := Aside0.mk Q_FS
                      have FR0 := Aside0.mk (Q_FR0 (hoff 13 (by kernel_rfl)))
                      have FM0 := Aside0.mk (Q_FM0 (hoff 15 (by kernel_rfl)))
                      refine value_ (w1 := w') (v := .int .i64 cb) (by rfl) rfl ?_ ?_
                      · go_simp
                        (try simp only [i64_w])
                        try rfl
                      refine hK.out _ _ ⟨(by rw [ha.out]; exact putSel_upk 7 hb_ rfl rfl rfl), Q_HB5, Q_FS, Q_FR0, fun h0_ => absurd ((hoff 13 (by kernel_rfl)).symm.trans h0_) (by decide), Q_FM0, fun h0_ => absurd ((hoff 15 (by kernel_rfl)).symm.trans h0_) (by decide)⟩
                    refine steps_cons ?_ ?_
                    · rintro b a w' ⟨ha, Q_HB5, Q_FS, Q_FR0, Q_FR1, Q_FM0, Q_FM1⟩ hb_ hon hoff
                      refine ⟨_, rfl, fun K hK => ?_⟩
                      have e123 : a.tmps[123]? = some (.int .i64 ca) := by rw [ha]; exact putSel_on (e := (6, 123, .int .i64 ca)) 6 rfl rfl (hon 6 (by kernel_rfl)) rfl
                      have e124 : a.tmps[124]? = some (.int .i64 cb) := by rw [ha]; exact putSel_on (e := (7, 124, .int .i64 cb)) 7 rfl rfl (hon 7 (by kernel_rfl)) rfl
                      replace ha := Aside0.mk ha
                      have HB5 := Aside0.mk Q_HB5
                      have FS := Aside0.mk Q_FS
                      have FR0 := Aside0.mk (Q_FR0 (hoff 13 (by kernel_rfl)))
                      have FM0 := Aside0.mk (Q_FM0 (hoff 15 (by kernel_rfl)))
                      refine value_ (w1 := w') (v := .int .i64 (wrap64 (ca + cb))) (by rfl) rfl ?_ ?_
                      · go_simp
                        (try simp only [i64_w])
                        try rfl
                      refine hK.out _ _ ⟨(by rw [ha.out]; exact putSel_upk 8 hb_ rfl rfl rfl), Q_HB5, Q_FS, Q_FR0, fun h0_ => absurd ((hoff 13 (by kernel_rfl)).symm.trans h0_) (by decide), Q_FM0, fun h0_ => absurd ((hoff 15 (by kernel_rfl)).symm.trans h0_) (by decide)⟩
                    refine steps_cons ?_ ?_
                    · rintro b a w' ⟨ha, Q_HB5, Q_FS, Q_FR0, Q_FR1, Q_FM0, Q_FM1⟩ hb_ hon hoff
                      refine ⟨_, rfl, fun K hK => ?_⟩
                      have e15 : a.tmps[15]? = some (.int .i64 wa) := by rw [ha]; exact (putSel_off rfl).trans rfl
                      replace ha := Aside0.mk ha
                      have HB5 := Aside0.mk Q_HB5
                      have FS := Aside0.mk Q_FS
                      have FM0 := Aside0.mk (Q_FM0 (hoff 15 (by kernel_rfl)))
                      refine value_ (w1 := w') (v := .int .i64 wa) (by rfl) rfl ?_ ?_
                      · go_simp
                        (try simp only [i64_w])
                        try rfl
                      refine hK.out _ _ ⟨(by rw [ha.out]; exact putSel_upk 9 hb_ rfl rfl rfl), Q_HB5, Q_FS, Q_FR0, Q_FR1, Q_FM0, fun h0_ => absurd ((hoff 15 (by kernel_rfl)).symm.trans h0_) (by decide)⟩
                    refine steps_cons ?_ ?_
                    · rintro b a w' ⟨ha, Q_HB5, Q_FS, Q_FR0, Q_FR1, Q_FM0, Q_FM1⟩ hb_ hon hoff
                      refine ⟨_, rfl, fun K hK => ?_⟩
                      have e17 : a.tmps[17]? = some (.int .i64 wb) := by rw [ha]; exact (putSel_off rfl).trans rfl
                      replace ha := Aside0.mk ha
                      have HB5 := Aside0.mk Q_HB5
                      have FS := Aside0.mk Q_FS
                      have FM0 := Aside0.mk (Q_FM0 (hoff 15 (by kernel_rfl)))
                      refine value_ (w1 := w') (v := .int .i64 wb) (by rfl) rfl ?_ ?_
                      · go_simp
                        (try simp only [i64_w])
                        try rfl
                      refine hK.out _ _ ⟨(by rw [ha.out]; exact putSel_upk 10 hb_ rfl rfl rfl), Q_HB5, Q_FS, Q_FR0, Q_FR1, Q_FM0, fun h0_ => absurd ((hoff 15 (by kernel_rfl)).symm.trans h0_) (by decide)⟩
                    refine steps_cons ?_ ?_
                    · rintro b a w' ⟨ha, Q_HB5, Q_FS, Q_FR0, Q_FR1, Q_FM0, Q_FM1⟩ hb_ hon hoff
                      refine ⟨_, rfl, fun K hK => ?_⟩
                      have e126 : a.tmps[126]? = some (.int .i64 wa) := by rw [ha]; exact putSel_on (e := (9, 126, .int .i64 wa)) 9 rfl rfl (hon 9 (by kernel_rfl)) rfl
                      have e127 : a.tmps[127]? = some (.int .i64 wb) := by rw [ha]; exact putSel_on (e := (10, 127, .int .i64 wb)) 10 rfl rfl (hon 10 (by kernel_rfl)) rfl
                      replace ha := Aside0.mk ha
                      have HB5 := Aside0.mk Q_HB5
                      have FS := Aside0.mk Q_FS
                      have FM0 := Aside0.mk (Q_FM0 (hoff 15 (by kernel_rfl)))
                      refine value_ (w1 := w') (v := .int .i64 (wrap64 (wa * wb))) (by rfl) rfl ?_ ?_
                      · go_simp
                        (try simp only [i64_w])
                        try rfl
                      refine hK.out _ _ ⟨(by rw [ha.out]; exact putSel_upk 11 hb_ rfl rfl rfl), Q_HB5, Q_FS, Q_FR0, Q_FR1, Q_FM0, fun h0_ => absurd ((hoff 15 (by kernel_rfl)).symm.trans h0_) (by decide)⟩
                    refine steps_cons ?_ ?_
                    · rintro b a w' ⟨ha, Q_HB5, Q_FS, Q_FR0, Q_FR1, Q_FM0, Q_FM1⟩ hb_ hon hoff
                      refine ⟨_, rfl, fun K hK => ?_⟩
                      have e118 : a.tmps[118]? = some (.slice (some ⟨g32, 0, none⟩) k k) := by rw [ha]; exact putSel_on (e := (1, 118, .slice (some ⟨g32, 0, none⟩) k k)) 1 rfl rfl (hon 1 (by kernel_rfl)) rfl
                      have e119 : a.tmps[119]? = some (.int .i64 (i : Int)) := by rw [ha]; exact putSel_on (e := (2, 119, .int .i64 (i : Int))) 2 rfl rfl (hon 2 (by kernel_rfl)) rfl
                      replace ha := Aside0.mk ha
                      have HB5 := Aside0.mk Q_HB5
                      have FS := Aside0.mk Q_FS
                      have FR0 := Aside0.mk (Q_FR0 (hoff 13 (by kernel_rfl)))
                      have FM0 := Aside0.mk (Q_FM0 (hoff 15 (by kernel_rfl)))
                      have hs_ := HI.out
                      have hsb_ := decide_eq_true hs_
                      refine value_ (w1 := w') (v := .pointer (some ⟨g32, i, none⟩)) (by rfl) rfl ?_ ?_
                      · go_simp
                        (try simp only [i64_w])
                        try rfl
                      refine hK.out _ _ ⟨(by rw [ha.out]; exact putSel_upk 12 hb_ rfl rfl rfl), Q_HB5, Q_FS, Q_FR0, fun h0_ => absurd ((hoff 13 (by kernel_rfl)).symm.trans h0_) (by decide), Q_FM0, fun h0_ => absurd ((hoff 15 (by kernel_rfl)).symm.trans h0_) (by decide)⟩
                    refine steps_cons ?_ ?_
                    · rintro b a w' ⟨ha, Q_HB5, Q_FS, Q_FR0, Q_FR1, Q_FM0, Q_FM1⟩ hb_ hon hoff
                      refine ⟨_, rfl, fun K hK => ?_⟩
                      have e129 : a.tmps[129]? = some (.pointer (some ⟨g32, i, none⟩)) := by rw [ha]; exact putSel_on (e := (12, 129, .pointer (some ⟨g32, i, none⟩))) 12 rfl rfl (hon 12 (by kernel_rfl)) rfl
                      have e125 : a.tmps[125]? = some (.int .i64 (wrap64 (ca + cb))) := by rw [ha]; exact putSel_on (e := (8, 125, .int .i64 (wrap64 (ca + cb)))) 8 rfl rfl (hon 8 (by kernel_rfl)) rfl
                      replace ha := Aside0.mk ha
                      have HB5 := Aside0.mk Q_HB5
                      have FS := Aside0.mk Q_FS
                      have FR0 := Aside0.mk (Q_FR0 hb_)
                      have FM0 := Aside0.mk (Q_FM0 (hoff 15 (by kernel_rfl)))
                      have c_ := FR0.out.at i (by rw [HTJ.out.1]; exact HI.out)
                      have f_ := FR0.out.frozen i
                      refine skip_ (w1 := ?_) (by rfl) rfl ?_ ?_
                      rotate_left
                      · go_simp
                        rfl
                      refine hK.out _ _ ⟨(by rw [ha.out]; exact putSel_none (v := undef) rfl), (below_set HB5.out FR0.out.2), (FS.out.far (Ne.symm N2.out) _), fun h0_ => absurd ((up_self b 13).symm.trans h0_) (by decide), fun _ => (FR0.out.put _ _), fun _ => (FM0.out.far (Ne.symm N1.out) _), fun h0_ => absurd ((hoff 15 (by kernel_rfl)).symm.trans h0_) (by decide)⟩
                    refine steps_cons ?_ ?_
                    · rintro b a w' ⟨ha, Q_HB5, Q_FS, Q_FR0, Q_FR1, Q_FM0, Q_FM1⟩ hb_ hon hoff
                      refine ⟨_, rfl, fun K hK => ?_⟩
                      have e121 : a.tmps[121]? = some (.slice (some ⟨g37, 0, none⟩) k k) := by rw [ha]; exact putSel_on (e := (4, 121, .slice (some ⟨g37, 0, none⟩) k k)) 4 rfl rfl (hon 4 (by kernel_rfl)) rfl
                      have e122 : a.tmps[122]? = some (.int .i64 (i : Int)) := by rw [ha]; exact putSel_on (e := (5, 122, .int .i64 (i : Int))) 5 rfl rfl (hon 5 (by kernel_rfl)) rfl
                      replace ha := Aside0.mk ha
                      have HB5 := Aside0.mk Q_HB5
                      have FS := Aside0.mk Q_FS
                      have FR1 := Aside0.mk (Q_FR1 (hon 13 (by kernel_rfl)))
                      have FM0 := Aside0.mk (Q_FM0 (hoff 15 (by kernel_rfl)))
                      have hs_ := HI.out
                      have hsb_ := decide_eq_true hs_
                      refine value_ (w1 := w') (v := .pointer (some ⟨g37, i, none⟩)) (by rfl) rfl ?_ ?_
                      · go_simp
                        (try simp only [i64_w])
                        try rfl
                      refine hK.out _ _ ⟨(by rw [ha.out]; exact putSel_upk 13 hb_ rfl rfl rfl), Q_HB5, Q_FS, fun h0_ => absurd ((hon 13 (by kernel_rfl)).symm.trans h0_) (by decide), Q_FR1, Q_FM0, fun h0_ => absurd ((hoff 15 (by kernel_rfl)).symm.trans h0_) (by decide)⟩
                    refine steps_cons ?_ ?_
                    · rintro b a w' ⟨ha, Q_HB5, Q_FS, Q_FR0, Q_FR1, Q_FM0, Q_FM1⟩ hb_ hon hoff
                      refine ⟨_, rfl, fun K hK => ?_⟩
                      have e130 : a.tmps[130]? = some (.pointer (some ⟨g37, i, none⟩)) := by rw [ha]; exact putSel_on (e := (14, 130, .pointer (some ⟨g37, i, none⟩))) 13 rfl rfl (hon 14 (by kernel_rfl)) rfl
                      have e128 : a.tmps[128]? = some (.int .i64 (wrap64 (wa * wb))) := by rw [ha]; exact putSel_on (e := (11, 128, .int .i64 (wrap64 (wa * wb)))) 11 rfl rfl (hon 11 (by kernel_rfl)) rfl
                      replace ha := Aside0.mk ha
                      have HB5 := Aside0.mk Q_HB5
                      have FS := Aside0.mk Q_FS
                      have FR1 := Aside0.mk (Q_FR1 (hon 13 (by kernel_rfl)))
                      have FM0 := Aside0.mk (Q_FM0 hb_)
                      have c_ := FM0.out.at i (by rw [HTJ.out.2]; exact HI.out)
                      have f_ := FM0.out.frozen i
                      refine skip_ (w1 := ?_) (by rfl) rfl ?_ ?_
                      rotate_left
                      · go_simp
                        rfl
                      refine hK.out _ _ ⟨(by rw [ha.out]; exact putSel_none (v := undef) rfl), (below_set HB5.out FM0.out.2), (FS.out.far (Ne.symm N3.out) _), fun h0_ => absurd ((hon 13 (by kernel_rfl)).symm.trans h0_) (by decide), fun _ => (FR1.out.far N1.out _), fun h0_ => absurd ((up_self b 15).symm.trans h0_) (by decide), fun _ => (FM0.out.put _ _)⟩
                    exact steps_nil
                  rintro b a w' hall ⟨ha, Q_HB5, Q_FS, Q_FR0, Q_FR1, Q_FM0, Q_FM1⟩
                  clear FM0 FR0 FS HB5
                  have hb0_ := hall 0 (by kernel_rfl)
                  have hb1_ := hall 1 (by kernel_rfl)
                  have hb2_ := hall 2 (by kernel_rfl)
                  have hb3_ := hall 3 (by kernel_rfl)
                  have hb4_ := hall 4 (by kernel_rfl)
                  have hb5_ := hall 5 (by kernel_rfl)
                  have hb6_ := hall 6 (by kernel_rfl)
                  have hb7_ := hall 7 (by kernel_rfl)
                  have hb8_ := hall 8 (by kernel_rfl)
                  have hb9_ := hall 9 (by kernel_rfl)
                  have hb10_ := hall 10 (by kernel_rfl)
                  have hb11_ := hall 11 (by kernel_rfl)
                  have hb12_ := hall 12 (by kernel_rfl)
                  have hb13_ := hall 13 (by kernel_rfl)
                  have hb14_ := hall 14 (by kernel_rfl)
                  have hb15_ := hall 15 (by kernel_rfl)
                  subst ha
                  simp only [putSel, hb0_, hb1_, hb2_, hb3_, hb4_, hb5_, hb6_, hb7_, hb8_, hb9_, hb10_, hb11_, hb12_, hb14_, if_true, Act.put, List.setIfInBounds_toArray, List.set_cons_zero, List.set_cons_succ]
                  have HB5 := Aside0.mk Q_HB5
                  clear Q_HB5
                  have FS := Aside0.mk Q_FS
                  clear Q_FS
                  clear Q_FR0
                  have FR1 := Aside0.mk (Q_FR1 hb13_)
                  clear Q_FR1
                  clear Q_FM0
                  have FM1 := Aside0.mk (Q_FM1 hb15_)
                  clear Q_FM1
                  clear hall hb0_ hb1_ hb2_ hb3_ hb4_ hb5_ hb6_ hb7_ hb8_ hb9_ hb10_ hb11_ hb12_ hb13_ hb14_ hb15_
                  go_wp2_with (fail)
                  all_goals
                    go_roundg (k - (i + 1))
                    case measure => have := HI.out; omega
                    case rel => have hl1_ := HK.out.1; have hl2_ := HI.out; exact ⟨i + 1, HI.out, Nat.le_refl _, by rw [w64_succ i (by omega)], HB5, FS, by rw [HNX.out]; exact FR1, by rw [HNX.out]; exact FM1⟩
                · have hs3 : (f != (i : Int)) = false := bne_eq_false_iff_eq.2 hs2
                  have hs4 : (f == (i : Int)) = true := beq_iff_eq.2 hs2
                  clear hs2
                  go_wp2_with (first
                    | (go_at_call 84; refine HCA.out.mono ?_; rintro e w6 ⟨rfl, hb6⟩; replace x1 := (hb6.cell (World.block_lt_of_cell? _ _ x1)).trans x1; replace yb0 := (hb6.cell (World.block_lt_of_cell? _ _ yb0)).trans yb0; replace yb1 := (hb6.cell (World.block_lt_of_cell? _ _ yb1)).trans yb1; have HB6 := Aside0.mk hb6; clear hb6 HCA)
                    | (go_at_call 84; refine (HCB.out _ HB6.out).mono ?_; rintro e w7 ⟨rfl, hb7⟩; have HB7 := Aside0.mk (HB6.out.trans (hb7.mono HB6.out.size)); clear hb7 HB6 HCB))
                  replace HB5 := Aside0.mk (HB5.out.trans (HB7.out.mono HB5.out.size))
                  replace FR := Aside0.mk (FR.out.below HB7.out)
                  replace FM := Aside0.mk (FM.out.below HB7.out)
                  replace FS := Aside0.mk (FS.out.below HB7.out)
                  clear HB7 HBQ x0 x1 ya0 ya1 yb0 yb1 hxF
                  refine start_ (n := 16) (S := fun w' => True) (ds := []) #[false, false, false, false, false, false, false, false, false, false, false, false, false, false, false, false] (by kernel_rfl) rfl rfl trivial (fun hHeld => ?_)
                  refine with_tabW sankoff.tab20 sankoff.bits20 (fun HT_ HW_ => ?_)
                  replace HB5 := Aside0.mk (below_drew1 HB5.out)
                  replace FR := Aside0.mk (Blk.drew FR.out)
                  replace FM := Aside0.mk (Blk.drew FM.out)
                  replace FS := Aside0.mk (Blk.drew FS.out)
                  generalize w7.drew = w5 at HB5 FR FM FS hHeld ⊢
                  have FR0 := FR
                  have FM0 := FM
                  refine inv_at [0, 1, 2, 3, 4, 5, 6, 7, 8, 9, 10, 11, 12, 13, 14, 15] (fun a0_ b a w' => a = putSel a0_ b [(0, 117, .pointer (some ⟨g8, 0, none⟩)), (1, 118, .slice (some ⟨g32, 0, none⟩) k k), (2, 119, .int .i64 (i : Int)), (3, 120, .pointer (some ⟨g8, 1, none⟩)), (4, 121, .slice (some ⟨g37, 0, none⟩) k k), (5, 122, .int .i64 (i : Int)), (6, 123, .int .i64 ca), (7, 124, .int .i64 cb), (8, 125, .int .i64 (wrap64 (ca + cb))), (9, 126, .int .i64 wa), (10, 127, .int .i64 wb), (11, 128, .int .i64 (wrap64 (wa * wb))), (12, 129, .pointer (some ⟨g32, i, none⟩)), (14, 130, .pointer (some ⟨g37, i, none⟩))] ∧ (Below w3.heap.size w3 w') ∧ (Blk w' w3.heap.size g8 (tabO (.slice (some ⟨g32, 0, none⟩) k k) (.slice (some ⟨g37, 0, none⟩) k k))) ∧ (b 13 = false → Blk w' w3.heap.size g32 (ints (tj.f0))) ∧ (b 13 = true → Blk w' w3.heap.size g32 (ints ((tj.f0).set i (wrap64 (ca + cb))))) ∧ (b 15 = false → Blk w' w3.heap.size g37 (ints (tj.f1))) ∧ (b 15 = true → Blk w' w3.heap.size g37 (ints ((tj.f1).set i (wrap64 (wa * wb)))))) HT_.out HW_.out (by kernel_rfl) (by kernel_rfl) ?_ ?_ ?_
                  · exact ⟨by simp only [putSel, Bool.false_eq_true, if_false], HB5.out, FS.out, fun _ => FR.out, fun h_ => absurd h_ (by decide), fun _ => FM.out, fun h_ => absurd h_ (by decide)⟩
                  · skip
                    clear FM0 FR0 FS HB5
                    refine steps_cons ?_ ?_
                    · rintro b a w' ⟨ha, Q_HB5, Q_FS, Q_FR0, Q_FR1, Q_FM0, Q_FM1⟩ hb_ hon hoff
                      refine ⟨_, rfl, fun K hK => ?_⟩
                      have e12 : a.tmps[12]? = some (.pointer (some ⟨g8, 0, none⟩)) := by rw [ha]; exact (putSel_off rfl).trans rfl
                      replace ha := Aside0.mk ha
                      have HB5 := Aside0.mk Q_HB5
                      have FS := Aside0.mk Q_FS
                      have FR0 := Aside0.mk (Q_FR0 (hoff 13 (by kernel_rfl)))
                      have FM0 := Aside0.mk (Q_FM0 (hoff 15 (by kernel_rfl)))
                      refine value_ (w1 := w') (v := .pointer (some ⟨g8, 0, none⟩)) (by rfl) rfl ?_ ?_
                      · go_simp
                        (try simp only [i64_w])
                        try rfl
                      refine hK.out _ _ ⟨(by rw [ha.out]; exact putSel_upk 0 hb_ rfl rfl rfl), Q_HB5, Q_FS, Q_FR0, fun h0_ => absurd ((hoff 13 (by kernel_rfl)).symm.trans h0_) (by decide), Q_FM0, fun h0_ => absurd ((hoff 15 (by kernel_rfl)).symm.trans h0_) (by decide)⟩
                    refine steps_cons ?_ ?_
                    · rintro b a w' ⟨ha, Q_HB5, Q_FS, Q_FR0, Q_FR1, Q_FM0, Q_FM1⟩ hb_ hon hoff
                      refine ⟨_, rfl, fun K hK => ?_⟩
                      have e117 : a.tmps[117]? = some (.pointer (some ⟨g8, 0, none⟩)) := by rw [ha]; exact putSel_on (e := (0, 117, .pointer (some ⟨g8, 0, none⟩))) 0 rfl rfl (hon 0 (by kernel_rfl)) rfl
                      replace ha := Aside0.mk ha
                      have HB5 := Aside0.mk Q_HB5
                      have FS := Aside0.mk Q_FS
                      have FR0 := Aside0.mk (Q_FR0 (hoff 13 (by kernel_rfl)))
                      have FM0 := Aside0.mk (Q_FM0 (hoff 15 (by kernel_rfl)))
                      have c0_ := FS.out.c0
                      have c1_ := FS.out.c1
                      refine value_ (w1 := w') (v := .slice (some ⟨g32, 0, none⟩) k k) (by rfl) rfl ?_ ?_
                      · go_simp
                        (try simp only [i64_w])
                        try rfl
                      refine hK.out _ _ ⟨(by rw [ha.out]; exact putSel_upk 1 hb_ rfl rfl rfl), Q_HB5, Q_FS, Q_FR0, fun h0_ => absurd ((hoff 13 (by kernel_rfl)).symm.trans h0_) (by decide), Q_FM0, fun h0_ => absurd ((hoff 15 (by kernel_rfl)).symm.trans h0_) (by decide)⟩
                    refine steps_cons ?_ ?_
                    · rintro b a w' ⟨ha, Q_HB5, Q_FS, Q_FR0, Q_FR1, Q_FM0, Q_FM1⟩ hb_ hon hoff
                      refine ⟨_, rfl, fun K hK => ?_⟩
                      have e13 : a.tmps[13]? = some (.int .i64 (i : Int)) := by rw [ha]; exact (putSel_off rfl).trans rfl
                      replace ha := Aside0.mk ha
                      have HB5 := Aside0.mk Q_HB5
                      have FS := Aside0.mk Q_FS
                      have FR0 := Aside0.mk (Q_FR0 (hoff 13 (by kernel_rfl)))
                      have FM0 := Aside0.mk (Q_FM0 (hoff 15 (by kernel_rfl)))
                      refine value_ (w1 := w') (v := .int .i64 (i : Int)) (by rfl) rfl ?_ ?_
                      · go_simp
                        (try simp only [i64_w])
                        try rfl
                      refine hK.out _ _ ⟨(by rw [ha.out]; exact putSel_upk 2 hb_ rfl rfl rfl), Q_HB5, Q_FS, Q_FR0, fun h0_ => absurd ((hoff 13 (by kernel_rfl)).symm.trans h0_) (by decide), Q_FM0, fun h0_ => absurd ((hoff 15 (by kernel_rfl)).symm.trans h0_) (by decide)⟩
                    refine steps_cons ?_ ?_
                    · rintro b a w' ⟨ha, Q_HB5, Q_FS, Q_FR0, Q_FR1, Q_FM0, Q_FM1⟩ hb_ hon hoff
                      refine ⟨_, rfl, fun K hK => ?_⟩
                      have e12 : a.tmps[12]? = some (.pointer (some ⟨g8, 0, none⟩)) := by rw [ha]; exact (putSel_off rfl).trans rfl
                      replace ha := Aside0.mk ha
                      have HB5 := Aside0.mk Q_HB5
                      have FS := Aside0.mk Q_FS
                      have FM0 := Aside0.mk (Q_FM0 (hoff 15 (by kernel_rfl)))
                      refine value_ (w1 := w') (v := .pointer (some ⟨g8, 1, none⟩)) (by rfl) rfl ?_ ?_
                      · go_simp
                        (try simp only [i64_w])
                        try rfl
                      refine hK.out _ _ ⟨(by rw [ha.out]; exact putSel_upk 3 hb_ rfl rfl rfl), Q_HB5, Q_FS, Q_FR0, Q_FR1, Q_FM0, fun h0_ => absurd ((hoff 15 (by kernel_rfl)).symm.trans h0_) (by decide)⟩
                    refine steps_cons ?_ ?_
                    · rintro b a w' ⟨ha, Q_HB5, Q_FS, Q_FR0, Q_FR1, Q_FM0, Q_FM1⟩ hb_ hon hoff
                      refine ⟨_, rfl, fun K hK => ?_⟩
                      have e120 : a.tmps[120]? = some (.pointer (some ⟨g8, 1, none⟩)) := by rw [ha]; exact putSel_on (e := (3, 120, .pointer (some ⟨g8, 1, none⟩))) 3 rfl rfl (hon 3 (by kernel_rfl)) rfl
                      replace ha := Aside0.mk ha
                      have HB5 := Aside0.mk Q_HB5
                      have FS := Aside0.mk Q_FS
                      have FM0 := Aside0.mk (Q_FM0 (hoff 15 (by kernel_rfl)))
                      have c0_ := FS.out.c0
                      have c1_ := FS.out.c1
                      refine value_ (w1 := w') (v := .slice (some ⟨g37, 0, none⟩) k k) (by rfl) rfl ?_ ?_
                      · go_simp
                        (try simp only [i64_w])
                        try rfl
                      refine hK.out _ _ ⟨(by rw [ha.out]; exact putSel_upk 4 hb_ rfl rfl rfl), Q_HB5, Q_FS, Q_FR0, Q_FR1, Q_FM0, fun h0_ => absurd ((hoff 15 (by kernel_rfl)).symm.trans h0_) (by decide)⟩
                    refine steps_cons ?_ ?_
                    · rintro b a w' ⟨ha, Q_HB5, Q_FS, Q_FR0, Q_FR1, Q_FM0, Q_FM1⟩ hb_ hon hoff
                      refine ⟨_, rfl, fun K hK => ?_⟩
                      have e13 : a.tmps[13]? = some (.int .i64 (i : Int)) := by rw [ha]; exact (putSel_off rfl).trans rfl
                      replace ha := Aside0.mk ha
                      have HB5 := Aside0.mk Q_HB5
                      have FS := Aside0.mk Q_FS
                      have FM0 := Aside0.mk (Q_FM0 (hoff 15 (by kernel_rfl)))
                      refine value_ (w1 := w') (v := .int .i64 (i : Int)) (by rfl) rfl ?_ ?_
                      · go_simp
                        (try simp only [i64_w])
                        try rfl
                      refine hK.out _ _ ⟨(by rw [ha.out]; exact putSel_upk 5 hb_ rfl rfl rfl), Q_HB5, Q_FS, Q_FR0, Q_FR1, Q_FM0, fun h0_ => absurd ((hoff 15 (by kernel_rfl)).symm.trans h0_) (by decide)⟩
                    refine steps_cons ?_ ?_
                    · rintro b a w' ⟨ha, Q_HB5, Q_FS, Q_FR0, Q_FR1, Q_FM0, Q_FM1⟩ hb_ hon hoff
                      refine ⟨_, rfl, fun K hK => ?_⟩
                      have e14 : a.tmps[14]? = some (.int .i64 ca) := by rw [ha]; exact (putSel_off rfl).trans rfl
                      replace ha := Aside0.mk ha
                      have HB5 := Aside0.mk Q_HB5
                      have FS := Aside0.mk Q_FS
                      have FR0 := Aside0.mk (Q_FR0 (hoff 13 (by kernel_rfl)))
                      have FM0 := Aside0.mk (Q_FM0 (hoff 15 (by kernel_rfl)))
                      refine value_ (w1 := w') (v := .int .i64 ca) (by rfl) rfl ?_ ?_
                      · go_simp
                        (try simp only [i64_w])
                        try rfl
                      refine hK.out _ _ ⟨(by rw [ha.out]; exact putSel_upk 6 hb_ rfl rfl rfl), Q_HB5, Q_FS, Q_FR0, fun h0_ => absurd ((hoff 13 (by kernel_rfl)).symm.trans h0_) (by decide), Q_FM0, fun h0_ => absurd ((hoff 15 (by kernel_rfl)).symm.trans h0_) (by decide)⟩
                    refine steps_cons ?_ ?_
                    · rintro b a w' ⟨ha, Q_HB5, Q_FS, Q_FR0, Q_FR1, Q_FM0, Q_FM1⟩ hb_ hon hoff
                      refine ⟨_, rfl, fun K hK => ?_⟩
                      have e16 : a.tmps[16]? = some (.int .i64 cb) := by rw [ha]; exact (putSel_off rfl).trans rfl
                      replace ha := Aside0.mk ha
                      have HB5 := Aside0.mk Q_HB5
                      have FS := Aside0.mk Q_FS
                      have FR0 := Aside0.mk (Q_FR0 (hoff 13 (by kernel_rfl)))
                      have FM0 := Aside0.mk (Q_FM0 (hoff 15 (by kernel_rfl)))
                      refine value_ (w1 := w') (v := .int .i64 cb) (by rfl) rfl ?_ ?_
                      · go_simp
                        (try simp only [i64_w])
                        try rfl
                      refine hK.out _ _ ⟨(by rw [ha.out]; exact putSel_upk 7 hb_ rfl rfl rfl), Q_HB5, Q_FS, Q_FR0, fun h0_ => absurd ((hoff 13 (by kernel_rfl)).symm.trans h0_) (by decide), Q_FM0, fun h0_ => absurd ((hoff 15 (by kernel_rfl)).symm.trans h0_) (by decide)⟩
                    refine steps_cons ?_ ?_
                    · rintro b a w' ⟨ha, Q_HB5, Q_FS, Q_FR0, Q_FR1, Q_FM0, Q_FM1⟩ hb_ hon hoff
                      refine ⟨_, rfl, fun K hK => ?_⟩
                      have e123 : a.tmps[123]? = some (.int .i64 ca) := by rw [ha]; exact putSel_on (e := (6, 123, .int .i64 ca)) 6 rfl rfl (hon 6 (by kernel_rfl)) rfl
                      have e124 : a.tmps[124]? = some (.int .i64 cb) := by rw [ha]; exact putSel_on (e := (7, 124, .int .i64 cb)) 7 rfl rfl (hon 7 (by kernel_rfl)) rfl
                      replace ha := Aside0.mk ha
                      have HB5 := Aside0.mk Q_HB5
                      have FS := Aside0.mk Q_FS
                      have FR0 := Aside0.mk (Q_FR0 (hoff 13 (by kernel_rfl)))
                      have FM0 := Aside0.mk (Q_FM0 (hoff 15 (by kernel_rfl)))
                      refine value_ (w1 := w') (v := .int .i64 (wrap64 (ca + cb))) (by rfl) rfl ?_ ?_
                      · go_simp
                        (try simp only [i64_w])
                        try rfl
                      refine hK.out _ _ ⟨(by rw [ha.out]; exact putSel_upk 8 hb_ rfl rfl rfl), Q_HB5, Q_FS, Q_FR0, fun h0_ => absurd ((hoff 13 (by kernel_rfl)).symm.trans h0_) (by decide), Q_FM0, fun h0_ => absurd ((hoff 15 (by kernel_rfl)).symm.trans h0_) (by decide)⟩
                    refine steps_cons ?_ ?_
                    · rintro b a w' ⟨ha, Q_HB5, Q_FS, Q_FR0, Q_FR1, Q_FM0, Q_FM1⟩ hb_ hon hoff
                      refine ⟨_, rfl, fun K hK => ?_⟩
                      have e15 : a.tmps[15]? = some (.int .i64 wa) := by rw [ha]; exact (putSel_off rfl).trans rfl
                      replace ha := Aside0.mk ha
                      have HB5 := Aside0.mk Q_HB5
                      have FS := Aside0.mk Q_FS
                      have FM0 := Aside0.mk (Q_FM0 (hoff 15 (by kernel_rfl)))
                      refine value_ (w1 := w') (v := .int .i64 wa) (by rfl) rfl ?_ ?_
                      · go_simp
                        (try simp only [i64_w])
                        try rfl
                      refine hK.out _ _ ⟨(by rw [ha.out]; exact putSel_upk 9 hb_ rfl rfl rfl), Q_HB5, Q_FS, Q_FR0, Q_FR1, Q_FM0, fun h0_ => absurd ((hoff 15 (by kernel_rfl)).symm.trans h0_) (by decide)⟩
                    refine steps_cons ?_ ?_
                    · rintro b a w' ⟨ha, Q_HB5, Q_FS, Q_FR0, Q_FR1, Q_FM0, Q_FM1⟩ hb_ hon hoff
                      refine ⟨_, rfl, fun K hK => ?_⟩
                      have e17 : a.tmps[17]? = some (.int .i64 wb) := by rw [ha]; exact (putSel_off rfl).trans rfl
                      replace ha := Aside0.mk ha
                      have HB5 := Aside0.mk Q_HB5
                      have FS := Aside0.mk Q_FS
                      have FM0 := Aside0.mk (Q_FM0 (hoff 15 (by kernel_rfl)))
                      refine value_ (w1 := w') (v := .int .i64 wb) (by rfl) rfl ?_ ?_
                      · go_simp
                        (try simp only [i64_w])
                        try rfl
                      refine hK.out _ _ ⟨(by rw [ha.out]; exact putSel_upk 10 hb_ rfl rfl rfl), Q_HB5, Q_FS, Q_FR0, Q_FR1, Q_FM0, fun h0_ => absurd ((hoff 15 (by kernel_rfl)).symm.trans h0_) (by decide)⟩
                    refine steps_cons ?_ ?_
                    · rintro b a w' ⟨ha, Q_HB5, Q_FS, Q_FR0, Q_FR1, Q_FM0, Q_FM1⟩ hb_ hon hoff
                      refine ⟨_, rfl, fun K hK => ?_⟩
                      have e126 : a.tmps[126]? = some (.int .i64 wa) := by rw [ha]; exact putSel_on (e := (9, 126, .int .i64 wa)) 9 rfl rfl (hon 9 (by kernel_rfl)) rfl
                      have e127 : a.tmps[127]? = some (.int .i64 wb) := by rw [ha]; exact putSel_on (e := (10, 127, .int .i64 wb)) 10 rfl rfl (hon 10 (by kernel_rfl)) rfl
                      replace ha := Aside0.mk ha
                      have HB5 := Aside0.mk Q_HB5
                      have FS := Aside0.mk Q_FS
                      have FM0 := Aside0.mk (Q_FM0 (hoff 15 (by kernel_rfl)))
                      refine value_ (w1 := w') (v := .int .i64 (wrap64 (wa * wb))) (by rfl) rfl ?_ ?_
                      · go_simp
                        (try simp only [i64_w])
                        try rfl
                      refine hK.out _ _ ⟨(by rw [ha.out]; exact putSel_upk 11 hb_ rfl rfl rfl), Q_HB5, Q_FS, Q_FR0, Q_FR1, Q_FM0, fun h0_ => absurd ((hoff 15 (by kernel_rfl)).symm.trans h0_) (by decide)⟩
                    refine steps_cons ?_ ?_
                    · rintro b a w' ⟨ha, Q_HB5, Q_FS, Q_FR0, Q_FR1, Q_FM0, Q_FM1⟩ hb_ hon hoff
                      refine ⟨_, rfl, fun K hK => ?_⟩
                      have e118 : a.tmps[118]? = some (.slice (some ⟨g32, 0, none⟩) k k) := by rw [ha]; exact putSel_on (e := (1, 118, .slice (some ⟨g32, 0, none⟩) k k)) 1 rfl rfl (hon 1 (by kernel_rfl)) rfl
                      have e119 : a.tmps[119]? = some (.int .i64 (i : Int)) := by rw [ha]; exact putSel_on (e := (2, 119, .int .i64 (i : Int))) 2 rfl rfl (hon 2 (by kernel_rfl)) rfl
                      replace ha := Aside0.mk ha
                      have HB5 := Aside0.mk Q_HB5
                      have FS := Aside0.mk Q_FS
                      have FR0 := Aside0.mk (Q_FR0 (hoff 13 (by kernel_rfl)))
                      have FM0 := Aside0.mk (Q_FM0 (hoff 15 (by kernel_rfl)))
                      have hs_ := HI.out
                      have hsb_ := decide_eq_true hs_
                      refine value_ (w1 := w') (v := .pointer (some ⟨g32, i, none⟩)) (by rfl) rfl ?_ ?_
                      · go_simp
                        (try simp only [i64_w])
                        try rfl
                      refine hK.out _ _ ⟨(by rw [ha.out]; exact putSel_upk 12 hb_ rfl rfl rfl), Q_HB5, Q_FS, Q_FR0, fun h0_ => absurd ((hoff 13 (by kernel_rfl)).symm.trans h0_) (by decide), Q_FM0, fun h0_ => absurd ((hoff 15 (by kernel_rfl)).symm.trans h0_) (by decide)⟩
                    refine steps_cons ?_ ?_
                    · rintro b a w' ⟨ha, Q_HB5, Q_FS, Q_FR0, Q_FR1, Q_FM0, Q_FM1⟩ hb_ hon hoff
                      refine ⟨_, rfl, fun K hK => ?_⟩
                      have e129 : a.tmps[129]? = some (.pointer (some ⟨g32, i, none⟩)) := by rw [ha]; exact putSel_on (e := (12, 129, .pointer (some ⟨g32, i, none⟩))) 12 rfl rfl (hon 12 (by kernel_rfl)) rfl
                      have e125 : a.tmps[125]? = some (.int .i64 (wrap64 (ca + cb))) := by rw [ha]; exact putSel_on (e := (8, 125, .int .i64 (wrap64 (ca + cb)))) 8 rfl rfl (hon 8 (by kernel_rfl)) rfl
                      replace ha := Aside0.mk ha
                      have HB5 := Aside0.mk Q_HB5
                      have FS := Aside0.mk Q_FS
                      have FR0 := Aside0.mk (Q_FR0 hb_)
                      have FM0 := Aside0.mk (Q_FM0 (hoff 15 (by kernel_rfl)))
                      have c_ := FR0.out.at i (by rw [HTJ.out.1]; exact HI.out)
                      have f_ := FR0.out.frozen i
                      refine skip_ (w1 := ?_) (by rfl) rfl ?_ ?_
                      rotate_left
                      · go_simp
                        rfl
                      refine hK.out _ _ ⟨(by rw [ha.out]; exact putSel_none (v := undef) rfl), (below_set HB5.out FR0.out.2), (FS.out.far (Ne.symm N2.out) _), fun h0_ => absurd ((up_self b 13).symm.trans h0_) (by decide), fun _ => (FR0.out.put _ _), fun _ => (FM0.out.far (Ne.symm N1.out) _), fun h0_ => absurd ((hoff 15 (by kernel_rfl)).symm.trans h0_) (by decide)⟩
                    refine steps_cons ?_ ?_
                    · rintro b a w' ⟨ha, Q_HB5, Q_FS, Q_FR0, Q_FR1, Q_FM0, Q_FM1⟩ hb_ hon hoff
                      refine ⟨_, rfl, fun K hK => ?_⟩
                      have e121 : a.tmps[121]? = some (.slice (some ⟨g37, 0, none⟩) k k) := by rw [ha]; exact putSel_on (e := (4, 121, .slice (some ⟨g37, 0, none⟩) k k)) 4 rfl rfl (hon 4 (by kernel_rfl)) rfl
                      have e122 : a.tmps[122]? = some (.int .i64 (i : Int)) := by rw [ha]; exact putSel_on (e := (5, 122, .int .i64 (i : Int))) 5 rfl rfl (hon 5 (by kernel_rfl)) rfl
                      replace ha := Aside0.mk ha
                      have HB5 := Aside0.mk Q_HB5
                      have FS := Aside0.mk Q_FS
                      have FR1 := Aside0.mk (Q_FR1 (hon 13 (by kernel_rfl)))
                      have FM0 := Aside0.mk (Q_FM0 (hoff 15 (by kernel_rfl)))
                      have hs_ := HI.out
                      have hsb_ := decide_eq_true hs_
                      refine value_ (w1 := w') (v := .pointer (some ⟨g37, i, none⟩)) (by rfl) rfl ?_ ?_
                      · go_simp
                        (try simp only [i64_w])
                        try rfl
                      refine hK.out _ _ ⟨(by rw [ha.out]; exact putSel_upk 13 hb_ rfl rfl rfl), Q_HB5, Q_FS, fun h0_ => absurd ((hon 13 (by kernel_rfl)).symm.trans h0_) (by decide), Q_FR1, Q_FM0, fun h0_ => absurd ((hoff 15 (by kernel_rfl)).symm.trans h0_) (by decide)⟩
                    refine steps_cons ?_ ?_
                    · rintro b a w' ⟨ha, Q_HB5, Q_FS, Q_FR0, Q_FR1, Q_FM0, Q_FM1⟩ hb_ hon hoff
                      refine ⟨_, rfl, fun K hK => ?_⟩
                      have e130 : a.tmps[130]? = some (.pointer (some ⟨g37, i, none⟩)) := by rw [ha]; exact putSel_on (e := (14, 130, .pointer (some ⟨g37, i, none⟩))) 13 rfl rfl (hon 14 (by kernel_rfl)) rfl
                      have e128 : a.tmps[128]? = some (.int .i64 (wrap64 (wa * wb))) := by rw [ha]; exact putSel_on (e := (11, 128, .int .i64 (wrap64 (wa * wb)))) 11 rfl rfl (hon 11 (by kernel_rfl)) rfl
                      replace ha := Aside0.mk ha
                      have HB5 := Aside0.mk Q_HB5
                      have FS := Aside0.mk Q_FS
                      have FR1 := Aside0.mk (Q_FR1 (hon 13 (by kernel_rfl)))
                      have FM0 := Aside0.mk (Q_FM0 hb_)
                      have c_ := FM0.out.at i (by rw [HTJ.out.2]; exact HI.out)
                      have f_ := FM0.out.frozen i
                      refine skip_ (w1 := ?_) (by rfl) rfl ?_ ?_
                      rotate_left
                      · go_simp
                        rfl
                      refine hK.out _ _ ⟨(by rw [ha.out]; exact putSel_none (v := undef) rfl), (below_set HB5.out FM0.out.2), (FS.out.far (Ne.symm N3.out) _), fun h0_ => absurd ((hon 13 (by kernel_rfl)).symm.trans h0_) (by decide), fun _ => (FR1.out.far N1.out _), fun h0_ => absurd ((up_self b 15).symm.trans h0_) (by decide), fun _ => (FM0.out.put _ _)⟩
                    exact steps_nil
                  rintro b a w' hall ⟨ha, Q_HB5, Q_FS, Q_FR0, Q_FR1, Q_FM0, Q_FM1⟩
                  clear FM0 FR0 FS HB5
                  have hb0_ := hall 0 (by kernel_rfl)
                  have hb1_ := hall 1 (by kernel_rfl)
                  have hb2_ := hall 2 (by kernel_rfl)
                  have hb3_ := hall 3 (by kernel_rfl)
                  have hb4_ := hall 4 (by kernel_rfl)
                  have hb5_ := hall 5 (by kernel_rfl)
                  have hb6_ := hall 6 (by kernel_rfl)
                  have hb7_ := hall 7 (by kernel_rfl)
                  have hb8_ := hall 8 (by kernel_rfl)
                  have hb9_ := hall 9 (by kernel_rfl)
                  have hb10_ := hall 10 (by kernel_rfl)
                  have hb11_ := hall 11 (by kernel_rfl)
                  have hb12_ := hall 12 (by kernel_rfl)
                  have hb13_ := hall 13 (by kernel_rfl)
                  have hb14_ := hall 14 (by kernel_rfl)
                  have hb15_ := hall 15 (by kernel_rfl)
                  subst ha
                  simp only [putSel, hb0_, hb1_, hb2_, hb3_, hb4_, hb5_, hb6_, hb7_, hb8_, hb9_, hb10_, hb11_, hb12_, hb14_, if_true, Act.put, List.setIfInBounds_toArray, List.set_cons_zero, List.set_cons_succ]
                  have HB5 := Aside0.mk Q_HB5
                  clear Q_HB5
                  have FS := Aside0.mk Q_FS
                  clear Q_FS
                  clear Q_FR0
                  have FR1 := Aside0.mk (Q_FR1 hb13_)
                  clear Q_FR1
                  clear Q_FM0
                  have FM1 := Aside0.mk (Q_FM1 hb15_)
                  clear Q_FM1
                  clear hall hb0_ hb1_ hb2_ hb3_ hb4_ hb5_ hb6_ hb7_ hb8_ hb9_ hb10_ hb11_ hb12_ hb13_ hb14_ hb15_
                  go_wp2_with (fail)
                  all_goals
                    go_roundg (k - (i + 1))
                    case measure => have := HI.out; omega
                    case rel => have hl1_ := HK.out.1; have hl2_ := HI.out; exact ⟨i + 1, HI.out, Nat.le_refl _, by rw [w64_succ i (by omega)], HB5, FS, by rw [HNX.out]; exact FR1, by rw [HNX.out]; exact FM1⟩
            · have hltb2 : decide ((i : Int) < (k : Int)) = false := decide_eq_false (by omega)
              have hltc2 : decide (i < k) = false := decide_eq_false hlt2
              have hltz2 : ((i : Int) < (k : Int)) = False := eq_false (by omega)
              obtain rfl : i = k := by omega
              clear hlt2 hi hgg2
              generalize htj : joinTo i C (rd F m) (rd_T111 (sankTo i C F J L m) ja) (rd_T111 (sankTo i C F J L m) jb) i = tj at FR FM
              have HTJ : Aside0 (tj.f0.length = i ∧ tj.f1.length = i) := ⟨by rw [← htj]; exact joinTo_len _ _ _ _ _ _⟩
              have HTB : Aside0 (sankTo i C F J L (m + 1) = sankTo i C F J L m ++ [tj]) := ⟨by rw [← htj, ← ha, ← hb]; rfl⟩
              have HTAB : Aside0 (Kd.FK k111 wr (fun j => w3.heap.size ≤ j) tj [.slice (some ⟨g32, 0, none⟩) i i, .slice (some ⟨g37, 0, none⟩) i i]) := ⟨tab_FK FR.out FM.out HTJ.out.1 HTJ.out.2 HK.out.1⟩
              have HNW := Aside0.mk (Kd.N_below HN4.out HB5.out)
              have HOW := Aside0.mk (Kd.N_lt HN4.out)
              have HBW := Aside0.mk (HB4.out.trans (HB5.out.mono HB4.out.size))
              have HGE := Aside0.mk HB4.out.size
              have HLN := Aside0.mk (sankTo_length i C F J L m)
              obtain ⟨i1, hi1, hz1, hsz1, hby1⟩ := info_parts info111
              have hc0 := FS.out.c0
              have hc1 := FS.out.c1
              clear FS FR FM HB5 HN4 HB4 htj HC5
              go_wp2_with (first | ((with_reducible refine gate_builtin (b := .append) (xs := #[.tmp 132, .tmp 134]) rfl ?_); at_builtin; refine Kd.N_append k111 (w0 := w1) w1.heap.size rfl (.tmp 132) (.tmp 134) 108 111 (.agg #[.slice none 0 0, .slice none 0 0]) 48 rfl Try.underlying108 info111 rfl (by decide) (by omega) (.slice A5 (sankTo i C F J L m).length c5) (sankTo i C F J L m) tj [.slice (some ⟨g32, 0, none⟩) i i, .slice (some ⟨g37, 0, none⟩) i i] (fun j => w1.heap.size ≤ j) (fun j => w3.heap.size ≤ j) rfl rfl HTAB.out ?aK ?aF HNW.out HBW.out HBW.out.size ?aL ?_; (case aK => exact (fun j hj => ⟨Nat.le_trans HGE.out hj, fun e_ => by have := HOW.out j e_.symm; omega⟩)); (case aF => exact (fun j hj => Nat.le_trans HBW.out.size hj)); (case aL => have := HLN.out; have := HK.out.2.2; have := HJ.out.2; have := HLT.out; omega); intro v1 w6 ho hb hg hat; have HN6 := Aside0.mk ho; have HB6 := Aside0.mk hb; clear ho hb hg hat))
              all_goals
                go_roundg (J.length - (m + 1))
                case measure => have := HLT.out; omega
                case rel => have hl1_ := HJ.out.2; have hl2_ := HLT.out; exact ⟨m + 1, HLT.out, Nat.le_refl _, by rw [w64_succ m (by omega)], HB6, ⟨by rw [HTB.out]; exact HN6.out⟩⟩
        · have hltb : decide ((m : Int) < (J.length : Int)) = false := decide_eq_false (by omega)
          have hltc : decide (m < J.length) = false := decide_eq_false hlt
          have hltz : ((m : Int) < (J.length : Int)) = False := eq_false (by omega)
          obtain rfl : m = J.length := by omega
          clear hlt hm hgg
          go_wp2_with (fail)
          go_ret
          exact ⟨_, rfl, Kd.N_mono (Kd.N_lower HNm.out HQ.out.1.size) (fun _ _ => trivial), HQ.out.1.trans (HBm.out.mono HQ.out.1.size)⟩

end Go.Proofs.Ytcphmeeighhdjaa.P
