/- The contracts of total and Cost. -/
import Derived.Test.YtcphmeeighhdjaaGH
namespace Go.Proofs.Ytcphmeeighhdjaa.P
set_option linter.unusedVariables false
open Go Go.RowKit Go.Proofs.YtcphmeeighhdjaaW.PrintWords Go.Proofs.YtcphmeeighhdjaaW.PrintLast Go.Proofs.YtcphmeeighhdjaaW.PrintMore

/-- The costs of the first edges. -/
def sumTo (n : Nat) (J : List S67) (C : List (List Int)) (all : List Int) : Nat → Int
  | 0 => 0
  | m + 1 => wrap64 (sumTo n J C all m + wrap64 (rd (rd_L3 C (rd all ((n + m : Nat) : Int))) (rd all (rd_T67 J m).f0) + rd (rd_L3 C (rd all ((n + m : Nat) : Int))) (rd all (rd_T67 J m).f1)))
theorem ints_splice (xs ys : List Int) (o : Nat) : splice (xs.map (Value.int .i64)) o (ys.map (Value.int .i64)) = (splice xs o ys).map (Value.int .i64) := by
  unfold splice
  simp [List.map_append, List.map_take, List.map_drop]
theorem w_sum3 (M m ix : Nat) (h : (M : Int) + 1 + (m : Int) = ix) (hb : ix ≤ 1000) : wrap64 ((M : Int) + 1 + (m : Int)) = (ix : Int) := by rw [h]; exact Pure.w64 _ (by omega) (by omega)
theorem w_sum4 (M m ix : Nat) (h : (M : Int) + 1 + (m : Int) = ix) (hb : ix ≤ 1000) : IntKind.i64.wrap ((M : Int) + 1 + (m : Int)) = (ix : Int) := by rw [IntKind.wrap_i64, h]; omega
theorem w_pred (M : Nat) (h : M ≤ 7) : wrap64 (((M + 1 : Nat) : Int) - 1) = (M : Int) := by unfold wrap64; omega
theorem splice_all (M : Nat) (L F : List Int) (hL : L.length = M + 1) (hF : F.length = M) : splice (splice (List.replicate (2 * M + 1) (0 : Int)) 0 L) (M + 1) F = L ++ F := by
  have e1 : splice (List.replicate (2 * M + 1) (0 : Int)) 0 L = L ++ List.replicate M 0 := by
    unfold splice
    rw [List.take_zero, List.nil_append, Nat.zero_add, hL, List.drop_replicate]
    congr 2; omega
  rw [e1]
  unfold splice
  rw [hF, List.take_left' hL, List.drop_of_length_le (by rw [List.length_append, hL, List.length_replicate]; omega), List.append_nil]
theorem splice_len0 (M : Nat) (L : List Int) (hL : L.length = M + 1) : (splice (List.replicate (2 * M + 1) (0 : Int)) 0 L).length = 2 * M + 1 := by
  unfold splice
  simp [hL]; omega
theorem Blk.adr {w : World} {b g : Nat} {xs : List Int} (h : Blk w b g (ints xs)) (j : Nat) (hj : j < xs.length) : w.cell? ((⟨g, 0, none⟩ : Addr).add j) = some (.int .i64 (rd xs j)) := by
  have e : (⟨g, 0, none⟩ : Addr).add j = ⟨g, j, none⟩ := by cases j <;> simp [Addr.add]
  rw [e]; exact h.at j hj
set_option maxRecDepth 100000 in
set_option maxHeartbeats 4000000 in
theorem total_calls {M : Nat} (hM1 : 1 ≤ M) {J : List S67} {C : List (List Int)} {L F : List Int} (g : Good ((M + 1 : Nat) : Int) J C L) (hF : F.length = M) (hFs : ∀ s ∈ F, 0 ≤ s ∧ s < (C.length : Int)) (w : World) (G : Nat) (AJ : Option Addr) (cJ : Nat) (AL : Option Addr) (cL : Nat) (B : Nat) (AC : Option Addr) (cC : Nat)
    (hp : Prob w G ((M + 1 : Nat) : Int) AJ cJ J AL cL L C.length B AC cC C) (AF : Option Addr) (cF : Nat) (rF : Kd.C (Kd.int .i64) w AF F.length F) :
    Calls Try.prog 61 #[.pointer (some ⟨G, 0, none⟩), .slice AF F.length cF] w fun e w' => e = .returned (.int .i64 (sumTo (M + 1) J C (L ++ F) J.length)) ∧ Below w.heap.size w w' := by
  have x0 := hp.c0
  have x2 := hp.c2
  have hM : J.length = M := by have := g.nJ; omega
  have hL : L.length = M + 1 := by have := g.nL; omega
  have hM7 : M ≤ 7 := by have := g.j7; omega
  obtain ⟨i0, hi, hz0, hsz, hby⟩ := info_parts info3
  have hmk := fun W : World => run_make (P := Try.prog) (w := W) 25 3 i0 (.int .i64 0) Try.underlying25 hi hz0 .i64 .i64 ((2 * M + 1 : Nat) : Int) ((2 * M + 1 : Nat) : Int) (by omega) (by omega) (by rw [hby]; omega) (by omega)
  simp only [Int.toNat_natCast, hsz, Nat.mul_one] at hmk
  have ew : ((2 * M + 1 : Nat) : Int) = 2 * ((M : Int) + 1) - 1 := by omega
  rw [ew] at hmk
  obtain ⟨g0, hg0⟩ : ∃ g0, w.heap.size = g0 := ⟨_, rfl⟩
  obtain ⟨w1, hw1⟩ : ∃ w1, w.alloc (.cells (madeCells #[.int .i64 0] (2 * M + 1)) 3) = w1 := ⟨_, rfl⟩
  have hb1 : Below w.heap.size w w1 := by rw [← hw1]; exact below_alloc (Below.refl _ _) _
  have hk1 : Blk w1 w.heap.size g0 (ints (List.replicate (2 * M + 1) 0)) := by rw [← hw1, ← madeInts, ← hg0]; exact Blk.new w _ (Nat.le_refl _) _
  have hp1 := hp.below hb1
  have y0 := hp1.c0
  have y2 := hp1.c2
  obtain ⟨ad, ea, _⟩ := Kd.at_int hp.rL 0 (by omega) (by omega)
  obtain ⟨af, ef, _⟩ := Kd.at_int rF 0 (by omega) (by omega)
  cases ea
  cases ef
  have hsrc1 := Aside0.mk (show ∀ (j : Nat) (u : Value), (L.map (Value.int .i64))[j]? = some u → w1.cell? (ad.add j) = some u from fun j u hj => by
    have hj2 := (List.getElem?_eq_some_iff.1 hj).1
    rw [List.length_map] at hj2
    obtain ⟨ad2, e2, hx⟩ := Kd.at_int hp1.rL j (by omega) (by omega)
    cases e2
    rw [Int.toNat_natCast] at hx
    rw [hx, Pure.rd_nat L j hj2]
    rw [List.getElem?_map, List.getElem?_eq_getElem hj2] at hj
    exact hj)
  have hlen1 := Aside0.mk (show (L.map (Value.int .i64)).length = Nat.min (M + 1) (2 * M + 1) by rw [List.length_map, hL]; simp [Nat.min_def]; omega)
  have hfit1 := Aside0.mk (show 0 + (L.map (Value.int .i64)).length ≤ ((List.replicate (2 * M + 1) (0 : Int)).map (Value.int .i64)).length by rw [List.length_map, List.length_map, List.length_replicate, hL]; omega)
  have hone1 := Aside0.mk (show ∀ u ∈ L.map (Value.int .i64), u.oneCell' = true from fun u hu => by obtain ⟨_, _, rfl⟩ := List.mem_map.1 hu; rfl)
  have hsrc2 := Aside0.mk (show ∀ (W : World), Below w.heap.size w W → ∀ (j : Nat) (u : Value), (F.map (Value.int .i64))[j]? = some u → W.cell? (af.add j) = some u from fun W hW j u hj => by
    have hj2 := (List.getElem?_eq_some_iff.1 hj).1
    rw [List.length_map] at hj2
    obtain ⟨ad2, e2, hx⟩ := Kd.at_int (Kd.C_below rF hW) j (by omega) (by omega)
    cases e2
    rw [Int.toNat_natCast] at hx
    rw [hx, Pure.rd_nat F j hj2]
    rw [List.getElem?_map, List.getElem?_eq_getElem hj2] at hj
    exact hj)
  have hlen2 := Aside0.mk (show (F.map (Value.int .i64)).length = Nat.min F.length (2 * M - M) by rw [List.length_map, hF]; simp [Nat.min_def]; omega)
  have hfit2 := Aside0.mk (show M + 1 + (F.map (Value.int .i64)).length ≤ ((splice (List.replicate (2 * M + 1) (0 : Int)) 0 L).map (Value.int .i64)).length by rw [List.length_map, List.length_map, splice_len0 M L hL, hF]; omega)
  have hone2 := Aside0.mk (show ∀ u ∈ F.map (Value.int .i64), u.oneCell' = true from fun u hu => by obtain ⟨_, _, rfl⟩ := List.mem_map.1 hu; rfl)
  have HALL := Aside0.mk (splice_all M L F hL hF)
  have HP := Aside0.mk hp
  have HG := Aside0.mk g
  have HRF := Aside0.mk rF
  have HFS := Aside0.mk (And.intro hF hFs)
  have HML := Aside0.mk (And.intro hM (And.intro hL hM7))
  have HB1 := Aside0.mk hb1
  have HK1 := Aside0.mk hk1
  have HG0 := Aside0.mk hg0
  have HSZ := Aside0.mk (show (Try.prog.info? 3).map (·.size) = some 1 by rw [hi]; simp [hsz])
  have HP1 := Aside0.mk hp1
  clear hp g rF hF hFs hM hb1 hk1 hp1 hi hz0 hsz hby
  rw [hL] at x2 y2
  clear hL ew
  go_enter Try.func61, Try.ntmps61
  go_wp2_with (first | ((with_reducible refine gate_builtin (b := .copy) (xs := #[.tmp 16, .tmp 20]) rfl ?_); refine wpList_copy_splice rfl (.tmp 16) (.tmp 20) 25 25 rfl 3 Try.underlying25 HSZ.out _ _ _ _ _ _ rfl rfl g0 0 ((List.replicate (2 * M + 1) (0 : Int)).map (Value.int .i64)) 3 HK1.out.1 (L.map (Value.int .i64)) hlen1.out (fun _ => ⟨rfl, ad, rfl, hsrc1.out⟩) hfit1.out hone1.out w.heap.size w HB1.out HK1.out.2 ?_; intro w2 hg2 hb2; have HG2 := Aside0.mk (show w2.heap[g0]? = some (.cells ((splice (List.replicate (2 * M + 1) (0 : Int)) 0 L).map (Value.int .i64)).toArray 3 (0, 0)) by rw [← ints_splice]; exact hg2); have HB2 := Aside0.mk hb2; have z0 := (HP.out.below hb2).c0; clear hg2 hb2) | ((with_reducible refine gate_builtin (b := .copy) (xs := #[.tmp 27, .tmp 28]) rfl ?_); refine wpList_copy_splice rfl (.tmp 27) (.tmp 28) 25 25 rfl 3 Try.underlying25 HSZ.out _ _ _ _ _ _ rfl rfl g0 (M + 1) ((splice (List.replicate (2 * M + 1) (0 : Int)) 0 L).map (Value.int .i64)) 3 HG2.out (F.map (Value.int .i64)) hlen2.out (fun _ => ⟨rfl, af, rfl, hsrc2.out w2 HB2.out⟩) hfit2.out hone2.out w.heap.size w HB2.out HK1.out.2 ?_; intro w3 hg3 hb3; have HG3 := Aside0.mk (show Blk w3 w.heap.size g0 (ints (L ++ F)) from ⟨by unfold ints; rw [← HALL.out, ← ints_splice]; exact hg3, HK1.out.2⟩); have HB3 := Aside0.mk hb3; have z1 := (HP.out.below hb3).c1; clear hg3 hb3) | fail)
  clear hmk y0 y2 z0 x0 x2 hw1
  go_loopg [6, 35] J.length (fun gg v6 v35 w' => ∃ m : Nat, m ≤ J.length ∧ J.length - m ≤ gg ∧ v35 = .int .i64 m ∧ v6 = .int .i64 (sumTo (M + 1) J C (L ++ F) m) ∧ Aside0 (Below w.heap.size w w') ∧ Aside0 (Blk w' w.heap.size g0 (ints (L ++ F))))
  case atStart => exact ⟨0, Nat.zero_le _, by omega, rfl, rfl, HB3, HG3⟩
  case round =>
    clear HB3 HG3 z1
    obtain ⟨m, hm, hgg, rfl, rfl, HBm, HGm⟩ := hrel
    by_cases hlt : m < J.length
    · have hltb : decide ((m : Int) < (J.length : Int)) = true := decide_eq_true (by omega)
      have hltc : decide (m < J.length) = true := decide_eq_true hlt
      have hltz : ((m : Int) < (J.length : Int)) = True := eq_true (by omega)
      have HLT := Aside0.mk (And.intro hlt hgg)
      have hJm := HG.out.hJ.1 m hlt
      have hLen : (L ++ F).length = 2 * M + 1 := by rw [List.length_append, HML.out.2.1, HFS.out.1]; omega
      obtain ⟨a, ea⟩ : ∃ a : Nat, (rd_T67 J m).f0 = a := ⟨(rd_T67 J m).f0.toNat, by omega⟩
      obtain ⟨b, eb⟩ : ∃ b : Nat, (rd_T67 J m).f1 = b := ⟨(rd_T67 J m).f1.toNat, by omega⟩
      have hLm : L.length + m ≤ 2 * M := by have := HML.out; omega
      have hal : a < 2 * M + 1 := by omega
      have hbl : b < 2 * M + 1 := by omega
      obtain ⟨ix, hix⟩ : ∃ ix : Nat, M + 1 + m = ix := ⟨_, rfl⟩
      have hil : ix < 2 * M + 1 := by have := HML.out; omega
      have rng : ∀ v : Nat, v < 2 * M + 1 → ∃ u : Nat, rd (L ++ F) v = u ∧ u < C.length := by
        intro v hv
        have hmem : rd (L ++ F) v ∈ L ++ F := rd_mem _ _ (by omega) (by rw [hLen]; omega)
        rcases List.mem_append.1 hmem with h | h
        · have := HG.out.hL.1 _ h; exact ⟨(rd (L ++ F) v).toNat, by omega, by omega⟩
        · have := HFS.out.2 _ h; exact ⟨(rd (L ++ F) v).toNat, by omega, by omega⟩
      obtain ⟨vx, hvx, hxk⟩ := rng ix hil
      obtain ⟨va, hva, hak⟩ := rng a hal
      obtain ⟨vb, hvb, hbk⟩ := rng b hbl
      have hpm := HP.out.below HBm.out
      obtain ⟨aj, ej, jA, jB⟩ := at_T67 hpm.rJ (m : Int) (by omega) (by omega)
      cases ej
      rw [Int.toNat_natCast] at jA jB
      rw [ea] at jA
      rw [eb] at jB
      have HSUM : Aside0 (sumTo (M + 1) J C (L ++ F) (m + 1) = wrap64 (sumTo (M + 1) J C (L ++ F) m + wrap64 (rd (rd_L3 C vx) va + rd (rd_L3 C vx) vb))) := ⟨by
        show wrap64 (_ + wrap64 (rd (rd_L3 C (rd (L ++ F) ((M + 1 + m : Nat) : Int))) (rd (L ++ F) (rd_T67 J m).f0) + rd (rd_L3 C (rd (L ++ F) ((M + 1 + m : Nat) : Int))) (rd (L ++ F) (rd_T67 J m).f1))) = _
        rw [hix, ea, eb, hvx, hva, hvb]⟩
      obtain ⟨g5, hg5⟩ : ∃ g5, wr.heap.size = g5 := ⟨_, rfl⟩
      obtain ⟨w5, hw5⟩ : ∃ w5, wr.alloc (.cells #[.int .i64 (a : Int), .int .i64 (b : Int)] 67) = w5 := ⟨_, rfl⟩
      have hb5 : Below wr.heap.size wr w5 := by rw [← hw5]; exact below_alloc (Below.refl _ _) _
      have u0 : w5.cell? ⟨g5, 0, none⟩ = some (.int .i64 (a : Int)) := by rw [← hw5, ← hg5]; simp
      have u1 : w5.cell? ⟨g5, 1, none⟩ = some (.int .i64 (b : Int)) := by rw [← hw5, ← hg5]; simp
      have hp5 := hpm.below hb5
      have v0 := hp5.c0
      have v4 := hp5.c4
      have hG5 := HGm.out.below hb5
      have cx := hG5.at ix (by omega)
      have ca := hG5.at a (by omega)
      have cb := hG5.at b (by omega)
      rw [hvx] at cx
      rw [hva] at ca
      rw [hvb] at cb
      have HCA := Aside0.mk (fun nd : Nat => cost_at (w5.drewN nd) B AC cC C hp5.cB (Kd.C_drewN hp5.rC nd) vx va hxk (by rw [HG.out.hC.2 vx hxk]; exact hak))
      have HCB := Aside0.mk (fun nd : Nat => cost_at (w5.drewN nd) B AC cC C hp5.cB (Kd.C_drewN hp5.rC nd) vx vb hxk (by rw [HG.out.hC.2 vx hxk]; exact hbk))
      have HN5 := Aside0.mk (And.intro (HBm.out.trans (hb5.mono HBm.out.size)) hG5)
      have HM7 := Aside0.mk hM7
      have s1 : ((M : Int) + 1 + (m : Int)) = (ix : Int) := by omega
      have i1 : decide (ix < 2 * M + 1) = true := decide_eq_true hil
      have i2 : decide (a < 2 * M + 1) = true := decide_eq_true hal
      have i3 : decide (b < 2 * M + 1) = true := decide_eq_true hbl
      have i4 : ((ix : Int) < ((2 * M + 1 : Nat) : Int)) = True := eq_true (by omega)
      have i5 : ((a : Int) < ((2 * M + 1 : Nat) : Int)) = True := eq_true (by omega)
      have i6 : ((b : Int) < ((2 * M + 1 : Nat) : Int)) = True := eq_true (by omega)
      have iix1 : ((ix : Int) < 2 * (M : Int) + 1) = True := eq_true (by omega)
      have iix2 : (ix < 2 * M + 1) = True := eq_true (by omega)
      have iix3 : (ix ≤ 2 * M) = True := eq_true (by omega)
      have iix4 : ((ix : Int) ≤ 2 * (M : Int)) = True := eq_true (by omega)
      have ia1 : ((a : Int) < 2 * (M : Int) + 1) = True := eq_true (by omega)
      have ia2 : (a < 2 * M + 1) = True := eq_true (by omega)
      have ia3 : (a ≤ 2 * M) = True := eq_true (by omega)
      have ia4 : ((a : Int) ≤ 2 * (M : Int)) = True := eq_true (by omega)
      have ib1 : ((b : Int) < 2 * (M : Int) + 1) = True := eq_true (by omega)
      have ib2 : (b < 2 * M + 1) = True := eq_true (by omega)
      have ib3 : (b ≤ 2 * M) = True := eq_true (by omega)
      have ib4 : ((b : Int) ≤ 2 * (M : Int)) = True := eq_true (by omega)
      have bix : ix ≤ 1000 := by omega
      have bm : m ≤ 100000 := by have := HML.out; omega
      have s2 := w_sum3 M m ix s1 bix
      have hsucc := w64_succ m bm
      have s3 : IntKind.i64.wrap ((M : Int) + 1 + (m : Int)) = (ix : Int) := w_sum4 M m ix s1 bix
      have s4 : IntKind.i64.wrap (ix : Int) = (ix : Int) := by rw [← s1] at s3 ⊢; exact s3
      generalize rd (rd_L3 C vx) va = k1 at *
      generalize rd (rd_L3 C vx) vb = k2 at *
      generalize sumTo (M + 1) J C (L ++ F) m = sm at *
      clear hm hgg hlt hJm hLen ea eb hLm hal hbl hix hil rng hvx hva hvb hxk hak hbk hpm hb5 hp5 hG5 hM7 hM1 bix bm
      go_wp2_with (fail)
      clear hw5
      repeat (go_quiet (first | (go_at_call 72; ((with_reducible refine (HCA.out _).mono ?_); rintro e w' ⟨rfl, ⟨nd2, rfl⟩⟩; (try first | exact ⟨rfl, _, World.drewN_drewN _ _ _⟩ | exact ⟨rfl, _, Eq.trans (World.drewN_drewN _ _ _) (congrArg (World.drewN _) (Nat.add_assoc _ _ _))⟩))) | (go_at_call 72; ((with_reducible refine (HCB.out _).mono ?_); rintro e w' ⟨rfl, ⟨nd2, rfl⟩⟩; (try first | exact ⟨rfl, _, World.drewN_drewN _ _ _⟩ | exact ⟨rfl, _, Eq.trans (World.drewN_drewN _ _ _) (congrArg (World.drewN _) (Nat.add_assoc _ _ _))⟩)))); try go_wp2_with (fail))
      all_goals
        go_roundg (J.length - (m + 1))
        case measure => have := HLT.out; omega
        case rel => exact ⟨m + 1, HLT.out.1, Nat.le_refl _, by rw [hsucc], by rw [HSUM.out], ⟨pw_below_drewN HN5.out.1 _⟩, ⟨HN5.out.2⟩⟩
    · have hltb : decide ((m : Int) < (J.length : Int)) = false := decide_eq_false (by omega)
      have hltc : decide (m < J.length) = false := decide_eq_false hlt
      obtain rfl : m = J.length := by omega
      clear hlt hm hgg
      go_wp2
      go_ret
      exact ⟨rfl, HBm.out⟩
theorem read_valid {k : Nat} {n : Int} {J : List S67} {C : List (List Int)} {L : List Int} (h : readErr k n J C L = some 0) : Pure.TreeOk n J ∧ Pure.CostsOk C ∧ Pure.StatesOk n C.length L := by
  have hl : J.length ≤ 99 := by
    unfold readErr at h
    obtain ⟨b, ht, h⟩ := Option.bind_eq_some_iff.mp h
    cases b with
    | true => exact Pure.tree_len ht
    | false => rw [if_neg (by decide)] at h; exact absurd (Option.some.inj h) (by decide)
  exact Pure.errOf_zero (Pure.ev_some (Ev.of (fun k => readErr_mono k n J C L) h) (Pure.read_ev n J C L hl)).symm
/-- What Cost answers, and its error. -/
def track_Cost.f (k : Nat) (n : Int) (J : List S67) (C : List (List Int)) (L F : List Int) : Option (Int × Int) :=
  (readErr k n J C L).bind fun x => if x = 0 then ((track_states.f F J.length C.length).bind fun b => if b = true then some (sumTo (J.length + 1) J C (L ++ F) J.length, 0) else some (0, 2)) else some (0, x)
theorem track_Cost.mono : ∀ n J C L F k, LeO (track_Cost.f k n J C L F) (track_Cost.f (k + 1) n J C L F) := by
  intro n J C L F k
  unfold track_Cost.f
  exact LeO.bind (readErr_mono _ _ _ _ _) (fun _ => LeO.refl _)
set_option maxRecDepth 100000 in
set_option maxHeartbeats 4000000 in
theorem track_Cost.calls (k : Nat) (a0 : Int) (A1 : Option Addr) (c1 : Nat) (l1 : List S67) (A2 : Option Addr) (c2 : Nat) (l2 : List (List Int)) (A3 : Option Addr) (c3 : Nat) (l3 : List Int) (A4 : Option Addr) (c4 : Nat) (l4 : List Int) (r1 r2 : Int) (w : World)
    (hr1 : Kd.C k67 w A1 l1.length l1) (hc1 : l1.length ≤ c1) (hr2 : Kd.C (Kd.slice 3 (Kd.int .i64)) w A2 l2.length l2) (hc2 : l2.length ≤ c2) (hr3 : Kd.C (Kd.int .i64) w A3 l3.length l3) (hc3 : l3.length ≤ c3) (hr4 : Kd.C (Kd.int .i64) w A4 l4.length l4) (hc4 : l4.length ≤ c4) (h : track_Cost.f k a0 l1 l2 l3 l4 = some (r1, r2)) :
    Calls Try.prog 41 #[.int .i64 a0, .slice A1 l1.length c1, .slice A2 l2.length c2, .slice A3 l3.length c3, .slice A4 l4.length c4] w fun e w' => e = .returned (.tuple #[.int .i64 r1, .int .i64 r2]) ∧ Below w.heap.size w w' := by
  unfold track_Cost.f at h
  obtain ⟨x, hx, hq⟩ := Option.bind_eq_some_iff.mp h
  clear h
  have HR := Aside0.mk (read_calls k a0 A1 c1 l1 A2 c2 l2 A3 c3 l3 x w hr1 hc1 hr2 hc2 hr3 hc3 hx)
  by_cases x0 : x = 0
  · subst x0
    rw [if_pos rfl] at hq
    obtain ⟨ht, hcs, hst⟩ := read_valid hx
    have g := good_of ht hcs hst
    obtain ⟨M, hM⟩ : ∃ M, l1.length = M := ⟨_, rfl⟩
    have ha : a0 = ((M + 1 : Nat) : Int) := by rw [← hM]; exact g.nJ
    have h2 : 2 ≤ a0 := ht.1
    have hM1 : 1 ≤ M := by omega
    have hM7 : M ≤ 7 := by have := g.j7; omega
    obtain ⟨b, hb, hq⟩ := Option.bind_eq_some_iff.mp hq
    rw [hM] at hb
    have HST := Aside0.mk (fun (W : World) (hW : Below w.heap.size w W) => track_states.calls A4 c4 l4 (M : Int) (l2.length : Int) b W (Kd.C_below hr4 hW) hc4 hb)
    have hsub : wrap64 (a0 - 1) = (M : Int) := by rw [ha]; exact w_pred M hM7
    have HA := Aside0.mk ha
    cases b with
    | false =>
      rw [if_neg (by decide)] at hq
      obtain ⟨rfl, rfl⟩ : (0 : Int) = r1 ∧ (2 : Int) = r2 := by simpa using hq
      clear hx hq hr1 hc1 hr2 hc2 hr3 hc3 hr4 hc4 hb g ht hcs hst h2 hM ha
      go_enter Try.func41, Try.ntmps41
      go_wp2_with (fail)
      with_reducible refine HR.out.mono ?_
      rintro e w1 ⟨A, rfl, hb1, hz⟩
      obtain ⟨G, rfl, hp⟩ := (by first | exact hz trivial | exact hz rfl)
      have z3 := hp.c3
      have HB1 := Aside0.mk hb1
      clear hb1 hz hp HR
      go_wp2_with (fail)
      with_reducible refine (HST.out w1 HB1.out).mono ?_
      rintro e w2 ⟨rfl, hb2⟩
      clear HST
      go_wp2
      go_ret2
      exact ⟨rfl, HB1.out.trans (hb2.mono HB1.out.size)⟩
    | true =>
      rw [if_pos rfl] at hq
      obtain ⟨h1, rfl⟩ : sumTo (l1.length + 1) l1 l2 (l3 ++ l4) l1.length = r1 ∧ (0 : Int) = r2 := by simpa using hq
      rw [Pure.states_f] at hb
      have hs := @of_decide_eq_true _ (_) (Option.some.inj hb)
      have hF : l4.length = M := by have := hs.2; omega
      have HT := Aside0.mk (fun (W : World) (hW : Below w.heap.size w W) (G : Nat) (B : Nat) hp => total_calls hM1 (ha ▸ g) hF hs.1 W G A1 c1 A3 c3 B A2 c2 hp A4 c4 (Kd.C_below hr4 hW))
      have H1 := Aside0.mk h1
      have HMM := Aside0.mk hM
      clear hx hq hr1 hc1 hr2 hc2 hr3 hc3 hr4 hc4 hb g ht hcs hst h2 hM hs hF h1 ha
      go_enter Try.func41, Try.ntmps41
      go_wp2_with (fail)
      with_reducible refine HR.out.mono ?_
      rintro e w1 ⟨A, rfl, hb1, hz⟩
      obtain ⟨G, rfl, hp⟩ := (by first | exact hz trivial | exact hz rfl)
      have z3 := hp.c3
      have HB1 := Aside0.mk hb1
      rw [HA.out] at hp
      have HP := Aside0.mk hp
      clear hb1 hz hp HR
      go_wp2_with (fail)
      with_reducible refine (HST.out w1 HB1.out).mono ?_
      rintro e w2 ⟨rfl, hb2⟩
      have HB2 := Aside0.mk (HB1.out.trans (hb2.mono HB1.out.size))
      have HP2 := Aside0.mk (HP.out.below hb2)
      clear HST hb2
      go_wp2_with (fail)
      with_reducible refine (HT.out w2 HB2.out G _ HP2.out).mono ?_
      rintro e w3 ⟨rfl, hb3⟩
      clear HT
      go_wp2
      go_ret2
      exact ⟨by rw [← H1.out, HMM.out]; rfl, HB2.out.trans (hb3.mono HB2.out.size)⟩
  · have xb : (x != 0) = true := bne_iff_ne.2 x0
    rw [if_neg x0] at hq
    obtain ⟨rfl, rfl⟩ : (0 : Int) = r1 ∧ x = r2 := by simpa using hq
    clear hx hq hr1 hc1 hr2 hc2 hr3 hc3 hr4 hc4 x0
    go_enter Try.func41, Try.ntmps41
    go_wp2_with (fail)
    with_reducible refine HR.out.mono ?_
    rintro e w1 ⟨A, rfl, hb1, hz⟩
    clear hz
    go_wp2
    go_ret2
    exact ⟨rfl, hb1⟩
end Go.Proofs.Ytcphmeeighhdjaa.P
