/- The contract of the reference's Nodes: the least costs of all subtrees. -/
import Derived.Test.YtcphmeeighhdjaaPF60
import Derived.Test.YtcphmeeighhdjaaGH
import Derived.Deep.RegionHeld3
import Derived.Outline
namespace Go.Proofs.Ytcphmeeighhdjaa.P
set_option linter.unusedVariables false
set_option linter.unusedSimpArgs false
open Go Go.RowKit Go.Proofs.YtcphmeeighhdjaaW.PrintWords Go.Proofs.YtcphmeeighhdjaaW.PrintLast Go.Proofs.YtcphmeeighhdjaaW.PrintMore

theorem Kd.R_make_step {P : Program} {ops : Array Oper} {o : Oper} {a : Act} {Q : Exit → Act → World → Prop} {Kc : Act → World → Prop} {α : Type} (d : Kd α) {w0 W : World} (base e : Nat) (hw : Region.wanted o (yielded ops a.tmps) = true) {N : Tmp} (hd : o.dst = some N) (t : TypeId) (x y : Operand) (ho : o.op = .makeSlice t x y) (n : Int) (hx : a.eval x = .int .i64 n) (hy : a.eval y = .int .i64 n)
    (ht : P.underlying t = some (.slice e)) (z : Value) (bytes : Nat) (hinfo : (P.info? e).map (fun i => (i.zero, i.size, i.bytes)) = some (some z, d.sz, bytes)) (hz : z.cells.size = d.sz) (hs0 : 0 < d.sz) (hb0 : 0 < bytes)
    (z0 : α) {ok okp : Nat → Prop} (hzero : d.M W base okp z0 z.cells.toList) (hok : ∀ k, okp k → ok k) (hfresh : ok W.heap.size) (h0 : 0 ≤ n) (hl : n.toNat * bytes ≤ 281474976710656) (HB : Below base w0 W) (hbase : base ≤ W.heap.size)
    (h : ∀ v1 w1, d.R e w1 base ok v1 (List.replicate n.toNat z0) → Below base w0 w1 → W.grownBy w1 none → (∃ b, v1.ownBlock = some b ∧ W.heap.size ≤ b) → Kc (a.put o.dst v1) w1) : if Region.wanted o (yielded ops a.tmps) = true then Oper.wp P o a W Kc Q else Kc (a.put o.dst undef) W := by
  obtain ⟨m, rfl⟩ := Int.eq_ofNat_of_zero_le h0
  simp only [Int.toNat_natCast] at hl h
  obtain ⟨i0, hi, hzz⟩ := Option.map_eq_some_iff.1 hinfo
  simp only [Prod.mk.injEq] at hzz
  obtain ⟨hz0, hz1, hz2⟩ := hzz
  have hm : m ≤ 281474976710656 := Nat.le_trans (Nat.le_mul_of_pos_right _ hb0) hl
  have hr := run_make (P := P) W t e i0 z ht hi hz0 .i64 .i64 (m : Int) (m : Int) (by omega) (by omega)
    (by
      have h3 : ((i0.bytes * m : Nat) : Int) ≤ 281474976710656 := by rw [hz2, Nat.mul_comm]; omega
      rwa [Int.natCast_mul] at h3) (by omega)
  simp only [Int.toNat_natCast] at hr
  rw [hz1] at hr
  refine Kd.R_lit_step d base e hw hd (xs := List.replicate m z0) (inner := (madeCells z.cells (m * d.sz)).toList) (okp := okp) (ok := ok) ?_ (Kd.reps_made hz hs0 hzero m) hok hfresh HB hbase (by simp; omega) h
  simp [execOp, ho, hx, hy, hr]
/-- The first costs and ways of a leaf of state s. -/
def leafTo (s : Int) : Nat → List Int × List Int
  | 0 => ([], [])
  | t + 1 => if (t : Int) = s then ((leafTo s t).1 ++ [0], (leafTo s t).2 ++ [1]) else ((leafTo s t).1 ++ [1073741824], (leafTo s t).2 ++ [0])
def leafN (K : Nat) (s : Int) : S63 := ⟨(leafTo s K).1, (leafTo s K).2⟩
theorem leafTo_len (s : Int) : ∀ t, (leafTo s t).1.length = t ∧ (leafTo s t).2.length = t
  | 0 => ⟨rfl, rfl⟩
  | t + 1 => by
    have := leafTo_len s t
    unfold leafTo
    split <;> simp [this.1, this.2]
/-- The costs and ways of a join, from state s on, d states. -/
def jr (k : Nat) (x y : S63) (C : List (List Int)) : Nat → Nat → List Int → List Int → Option S63
  | 0, _, cs, ws => some ⟨cs, ws⟩
  | d + 1, s, cs, ws => (woggleref02_Best.f k x.f0 x.f1 (rd_L3 C s)).bind fun b => (woggleref02_Best.f k y.f0 y.f1 (rd_L3 C s)).bind fun e => jr k x y C d (s + 1) (cs ++ [wrap64 (b.1 + e.1)]) (ws ++ [wrap64 (b.2 * e.2)])
/-- The nodes of d joins from the m-th on. -/
def nr (k : Nat) (C : List (List Int)) (J : List S67) : Nat → Nat → List S63 → Option (List S63)
  | 0, _, out => some out
  | d + 1, m, out => (jr k (rd_T63 out (rd_T67 J m).f0) (rd_T63 out (rd_T67 J m).f1) C C.length 0 [] []).bind fun x => nr k C J d (m + 1) (out ++ [x])
theorem jr_mono (k : Nat) (x y : S63) (C : List (List Int)) : ∀ d s cs ws, LeO (jr k x y C d s cs ws) (jr (k + 1) x y C d s cs ws)
  | 0, _, _, _ => LeO.refl _
  | d + 1, s, cs, ws => LeO.bind (woggleref02_Best.mono _ _ _ _) (fun b => LeO.bind (woggleref02_Best.mono _ _ _ _) (fun e => jr_mono k x y C d _ _ _))
theorem nr_mono (k : Nat) (C : List (List Int)) (J : List S67) : ∀ d m out, LeO (nr k C J d m out) (nr (k + 1) C J d m out)
  | 0, _, _ => LeO.refl _
  | d + 1, m, out => LeO.bind (jr_mono k _ _ C _ _ _ _) (fun x => nr_mono k C J d _ _)
def NodesOk (n : Int) (J : List S67) (C : List (List Int)) (L : List Int) : Prop := n = L.length ∧ L.length ≤ 100 ∧ J.length ≤ 100 ∧ C.length ≤ 100 ∧
  ∀ i : Nat, i < J.length → 0 ≤ (rd_T67 J i).f0 ∧ (rd_T67 J i).f0 < L.length + i ∧ 0 ≤ (rd_T67 J i).f1 ∧ (rd_T67 J i).f1 < L.length + i
instance (n : Int) (J : List S67) (C : List (List Int)) (L : List Int) : Decidable (NodesOk n J C L) := by unfold NodesOk; infer_instance
/-- What Nodes answers. -/
def woggleref02_Nodes.f (k : Nat) (n : Int) (J : List S67) (C : List (List Int)) (L : List Int) : Option (List S63) := if NodesOk n J C L then nr k C J J.length 0 (L.map (leafN C.length)) else none
theorem woggleref02_Nodes.mono : ∀ n J C L k, LeO (woggleref02_Nodes.f k n J C L) (woggleref02_Nodes.f (k + 1) n J C L) := fun n J C L k => by
  unfold woggleref02_Nodes.f
  by_cases c : NodesOk n J C L
  · rw [if_pos c, if_pos c]; exact nr_mono k C J _ _ _
  · rw [if_neg c, if_neg c]; exact LeO.none _
theorem node_M {W : World} {b b0 : Nat} {vc vw : Value} {cs ws : List Int} {o1 o2 : Nat → Prop} (h0 : b0 ≤ b) (hc : Kd.R (Kd.int .i64) 3 W b o1 vc cs) (hw : Kd.R (Kd.int .i64) 3 W b o2 vw ws) : k63.M W b0 (fun j => b ≤ j) ⟨cs, ws⟩ [vc, vw] :=
  k63_mkM W b0 _ ⟨cs, ws⟩ (Kd.R_lower (Kd.R_mono (Kd.R_bound hc) (fun j hj => hj.2.1)) h0) (Kd.R_lower (Kd.R_mono (Kd.R_bound hw) (fun j hj => hj.2.1)) h0)
def nodes.T10 : Bool × List (List Nat × List Nat) := (true, [([], []), ([0], [0]), ([], []), ([1, 2], [1, 2]), ([], []), ([4], [4]), ([], []), ([5, 6, 3], [5, 6]), ([0, 1, 2, 3, 4, 5], []), ([8, 3, 7, 0, 1, 2, 3, 4, 5], [3, 8]), ([0, 1, 2, 3, 4, 5, 6, 7, 8, 9], []), ([10, 7, 9, 0, 1, 2, 3, 4, 5, 6, 7, 8, 9], [7, 10])])
def nodes.B10 : List Nat := [0, 1, 0, 7, 0, 16, 0, 127, 63, 511, 1023, 2047]
theorem nodes.tab10 : rtab .any (opsOf Try.f38 10) = nodes.T10 := by kernel_rfl
theorem nodes.bits10 : waitsOk nodes.T10.2 nodes.B10 = true := by kernel_rfl
def nodes.T11 : Bool × List (List Nat × List Nat) := (true, [([], []), ([0], [0]), ([], []), ([1, 2], [1, 2]), ([], []), ([4], [4]), ([], []), ([5, 6, 3], [5, 6]), ([0, 1, 2, 3, 4, 5], []), ([8, 3, 7, 0, 1, 2, 3, 4, 5], [3, 8]), ([0, 1, 2, 3, 4, 5, 6, 7, 8, 9], []), ([10, 7, 9, 0, 1, 2, 3, 4, 5, 6, 7, 8, 9], [7, 10])])
def nodes.B11 : List Nat := [0, 1, 0, 7, 0, 16, 0, 127, 63, 511, 1023, 2047]
theorem nodes.tab11 : rtab .any (opsOf Try.f38 11) = nodes.T11 := by kernel_rfl
theorem nodes.bits11 : waitsOk nodes.T11.2 nodes.B11 = true := by kernel_rfl
def nodes.T22 : Bool × List (List Nat × List Nat) := (true, [([], []), ([0], [0]), ([], []), ([], []), ([2, 3], [2, 3]), ([4], [4]), ([1, 5], [1, 5]), ([], []), ([7], [7]), ([], []), ([], []), ([9, 10], [9, 10]), ([11], [11]), ([8, 12, 6], [8, 12]), ([0, 1, 2, 3, 4, 5, 6, 7, 8], []), ([14, 6, 13, 0, 1, 2, 3, 4, 5, 6, 7, 8], [6, 14]), ([0, 1, 2, 3, 4, 5, 6, 7, 8, 9, 10, 11, 12, 13, 14, 15], []), ([16, 13, 15, 0, 1, 2, 3, 4, 5, 6, 7, 8, 9, 10, 11, 12, 13, 14, 15], [13, 16])])
def nodes.B22 : List Nat := [0, 1, 0, 0, 12, 28, 63, 0, 128, 0, 0, 1536, 3584, 8191, 511, 32767, 65535, 131071]
theorem nodes.tab22 : rtab .any (opsOf Try.f38 22) = nodes.T22 := by kernel_rfl
theorem nodes.bits22 : waitsOk nodes.T22.2 nodes.B22 = true := by kernel_rfl
set_option maxRecDepth 100000 in
set_option maxHeartbeats 16000000 in
theorem woggleref02_Nodes.calls (k : Nat) (a0 : Int) (A1 : Option Addr) (c1 : Nat) (J : List S67) (A2 : Option Addr) (c2 : Nat) (C : List (List Int)) (A3 : Option Addr) (c3 : Nat) (L : List Int) (r : List S63) (w : World)
    (hr1 : Kd.C k67 w A1 J.length J) (hc1 : J.length ≤ c1) (hr2 : Kd.C (Kd.slice 3 (Kd.int .i64)) w A2 C.length C) (hc2 : C.length ≤ c2) (hr3 : Kd.C (Kd.int .i64) w A3 L.length L) (hc3 : L.length ≤ c3) (h : woggleref02_Nodes.f k a0 J C L = some r) :
    Calls Try.prog 38 #[.int .i64 a0, .slice A1 J.length c1, .slice A2 C.length c2, .slice A3 L.length c3] w fun e w' => ∃ v0_ : Value, e = .returned v0_ ∧ Kd.S k63 63 w' w.heap.size (fun _ => True) v0_ r ∧ Below w.heap.size w w' := by
  unfold woggleref02_Nodes.f at h
  split at h
  case isFalse => cases h
  rename_i hok
  obtain ⟨rfl, hL, hJl, hCl, hJ⟩ := hok
  obtain ⟨K, hK⟩ : ∃ K, C.length = K := ⟨_, rfl⟩
  have HC0 := Aside0.mk hr2
  have HCC := Aside0.mk hc2
  have HJ0 := Aside0.mk hr1
  have HL0 := Aside0.mk hr3
  have HJ := Aside0.mk hJ
  have HNR := Aside0.mk h
  have HK := Aside0.mk hK
  have HSZ0 := Aside0.mk (And.intro hL (And.intro hJl hCl))
  rw [hK] at HNR HC0
  clear hr1 hr2 hr3 hc1 hc2 hc3 h hJ
  go_enter Try.func38, Try.ntmps38
  go_wp2_with (first | ((with_reducible refine gate_dst (N := 20) rfl ?_); refine Kd.S_lit k63 w.heap.size 63 ?hg (N := 20) ?hd (xs := ([] : List S63)) (inner := []) (ok := fun j => w.heap.size ≤ j) (okp := fun _ => False) ?hr ?hp (fun _ hk => hk.elim) (Nat.le_refl _) (Below.refl _ _) (Nat.le_refl _) (by simp) ?_; (case hd => rfl); (case hg => rfl); (case hr => first | (go_simp; done) | (go_simp; rfl)); (case hp => exact Reps.none _ _); intro v1 w1 ho hb hg hat; have HO := Aside0.mk ho; have HB := Aside0.mk hb; clear ho hb hg hat))
  go_loopg [9, 10] L.length (fun gg v9 v10 w' => ∃ m : Nat, m ≤ L.length ∧ L.length - m ≤ gg ∧ v10 = .int .i64 m ∧ Aside0 (Below w.heap.size w w') ∧ Aside0 (Kd.S k63 63 w' w.heap.size (fun j => w.heap.size ≤ j) v9 ((L.take m).map (leafN K))))
  case atStart => exact ⟨0, Nat.zero_le _, by omega, rfl, HB, HO⟩
  case round =>
    clear HO HB
    obtain ⟨m, hm, hgg, rfl, HB, HN⟩ := hrel
    rename World => w6
    by_cases hlt : m < L.length
    · have hltb : decide ((m : Int) < (L.length : Int)) = true := decide_eq_true (by omega)
      have hltc : decide (m < L.length) = true := decide_eq_true hlt
      obtain ⟨s, hs⟩ : ∃ s, rd L m = s := ⟨_, rfl⟩
      have HS := Aside0.mk hs
      have HLT := Aside0.mk (And.intro hlt hgg)
      clear hlt hgg hm hs
      go_wp2_with (fail)
      obtain ⟨w7, hw7⟩ : ∃ W, w6.alloc (.cells #[.slice none 0 0, .slice none 0 0] 63) = W := ⟨_, rfl⟩
      have HX7 := Aside0.mk (show w7.heap[w6.heap.size]? = some (.cells #[.slice none 0 0, .slice none 0 0] 63 (0, 0)) by rw [← hw7]; exact blk_new _ _)
      have HB7 := Aside0.mk (show Below w6.heap.size w6 w7 by rw [← hw7]; exact below_alloc (Below.refl _ _) _)
      rw [hw7]
      clear hw7
      obtain ⟨gx, hgx⟩ : ∃ g, w6.heap.size = g := ⟨_, rfl⟩
      have HGX := Aside0.mk (Nat.le_of_eq hgx)
      rw [hgx] at HX7 ⊢
      clear hgx
      go_loopg [12] K (fun gg v12 w' => ∃ (t : Nat) (vc vw : Value), t ≤ K ∧ K - t ≤ gg ∧ v12 = .int .i64 t ∧ Aside0 (Below w6.heap.size w6 w') ∧ Aside0 (w'.heap[gx]? = some (.cells #[vc, vw] 63 (0, 0))) ∧ Aside0 (Kd.R (Kd.int .i64) 3 w' w6.heap.size (fun j => True ∧ some j ≠ Value.ownBlock vw) vc (leafTo s t).1) ∧ Aside0 (Kd.R (Kd.int .i64) 3 w' w6.heap.size (fun j => True ∧ some j ≠ Value.ownBlock vc) vw (leafTo s t).2))
      case atStart => exact ⟨0, _, _, Nat.zero_le _, by omega, rfl, HB7, HX7, ⟨Kd.R_nil _ _ _ _ _⟩, ⟨Kd.R_nil _ _ _ _ _⟩⟩
      case round =>
        clear HB7 HX7
        obtain ⟨t, vc, vw, ht, hgg2, rfl, HB5, FX, FC, FW⟩ := hrel
        rename World => w7
        by_cases hlt2 : t < K
        · have hltb2 : decide ((t : Int) < (K : Int)) = true := decide_eq_true (by omega)
          have hltc2 : decide (t < K) = true := decide_eq_true hlt2
          have HLT2 := Aside0.mk (And.intro hlt2 hgg2)
          obtain ⟨cs, hcs⟩ : ∃ cs, (leafTo s t).1 = cs := ⟨_, rfl⟩
          obtain ⟨ws, hws⟩ : ∃ ws, (leafTo s t).2 = ws := ⟨_, rfl⟩
          have HCS := Aside0.mk (And.intro hcs hws)
          have HSZ := Aside0.mk (show cs.length ≤ 100 ∧ ws.length ≤ 100 by rw [← hcs, ← hws, (leafTo_len s t).1, (leafTo_len s t).2]; omega)
          rw [hcs] at FC
          rw [hws] at FW
          obtain ⟨ad, e1, hx⟩ := Kd.at_int (Kd.C_below HL0.out (HB.out.trans (HB5.out.mono HB.out.size))) (m : Int) (by omega) (by have := HLT.out.1; omega)
          subst e1
          rw [Int.toNat_natCast, HS.out] at hx
          have p0 : (0 ≤ (m : Int)) = True := eq_true (by omega)
          have p1 : ((m : Int) < (L.length : Int)) = True := eq_true (by have := HLT.out.1; omega)
          by_cases hts : (t : Int) = s
          · have htb : ((t : Int) == s) = true := beq_iff_eq.2 hts
            have HNX := Aside0.mk (show leafTo s (t + 1) = (cs ++ [0], ws ++ [1]) by show (if (t : Int) = s then _ else _) = _; rw [if_pos hts, hcs, hws])
            clear hlt2 hgg2 ht hts hcs hws
            go_wp2_with (fail)
            clear hx p0 p1 htb
            refine start_ (n := 12) (S := fun w' => True) (ds := []) #[false, false, false, false, false, false, false, false, false, false, false, false] (by kernel_rfl) rfl rfl trivial (fun hHeld => ?_)
            refine with_tabW nodes.tab10 nodes.bits10 (fun HT_ HW_ => ?_)
            replace HB5 := Aside0.mk (below_drew1 HB5.out)
            replace FX := Aside0.mk (blk_drew FX.out)
            replace FC := Aside0.mk (Kd.R_drew FC.out)
            replace FW := Aside0.mk (Kd.R_drew FW.out)
            generalize w7.drew = w3 at HB5 FX FC FW hHeld ⊢
            refine inv_at [0, 1, 2, 3, 4, 5, 6, 7, 8, 9, 10, 11] (fun a0_ b a w' => ∃ (gA : Nat) (gB : Nat) (vc1 : Value) (vw1 : Value) (m2_ : Value) (m6_ : Value), a = putSel a0_ b [(0, 39, .pointer (some ⟨gx, 0, none⟩)), (1, 40, vc), (2, 41, m2_), (3, 42, vc1), (4, 43, .pointer (some ⟨gx, 1, none⟩)), (5, 44, vw), (6, 45, m6_), (7, 46, vw1), (8, 47, .pointer (some ⟨gx, 0, none⟩)), (10, 48, .pointer (some ⟨gx, 1, none⟩))] ∧ (Below w6.heap.size w6 w') ∧ (b 9 = false → w'.heap[gx]? = some (.cells #[vc, vw] 63 (0, 0))) ∧ (b 9 = true → b 11 = false → w'.heap[gx]? = some (.cells #[vc1, vw] 63 (0, 0))) ∧ (b 11 = true → w'.heap[gx]? = some (.cells #[vc1, vw1] 63 (0, 0))) ∧ (b 2 = true → b 3 = false → Blk w' w6.heap.size gA (ints [0])) ∧ (b 6 = true → b 7 = false → Blk w' w6.heap.size gB (ints [1])) ∧ (b 6 = true → b 3 = false → some gB ≠ Value.ownBlock vc) ∧ (b 3 = false → Kd.R (Kd.int .i64) 3 w' w6.heap.size (fun j => True ∧ some j ≠ Value.ownBlock vw) vc cs) ∧ (b 3 = false → Kd.R (Kd.int .i64) 3 w' w6.heap.size (fun j => True ∧ some j ≠ Value.ownBlock vc) vw ws) ∧ (b 3 = true → b 7 = false → Kd.R (Kd.int .i64) 3 w' w6.heap.size (fun j => True ∧ some j ≠ Value.ownBlock vw) vc1 (cs ++ [0])) ∧ (b 3 = true → b 7 = false → Kd.R (Kd.int .i64) 3 w' w6.heap.size (fun j => True ∧ some j ≠ Value.ownBlock vc1) vw ws) ∧ (b 7 = true → Kd.R (Kd.int .i64) 3 w' w6.heap.size (fun j => True ∧ some j ≠ Value.ownBlock vw1) vc1 (cs ++ [0])) ∧ (b 7 = true → Kd.R (Kd.int .i64) 3 w' w6.heap.size (fun j => True ∧ some j ≠ Value.ownBlock vc1) vw1 (ws ++ [1])) ∧ (b 2 = true → (m2_ : Value) = .slice (some ⟨gA, 0, none⟩) 1 1) ∧ (b 6 = true → (m6_ : Value) = .slice (some ⟨gB, 0, none⟩) 1 1)) HT_.out HW_.out (by kernel_rfl) (by kernel_rfl) ?_ ?_ ?_
            · exact ⟨0, 0, .bool false, .bool false, .bool false, .bool false, by simp only [putSel, Bool.false_eq_true, if_false], HB5.out, fun _ => FX.out, fun h_ => absurd h_ (by decide), fun h_ => absurd h_ (by decide), fun h_ => absurd h_ (by decide), fun h_ => absurd h_ (by decide), fun h_ => absurd h_ (by decide), fun _ => FC.out, fun _ => FW.out, fun h_ => absurd h_ (by decide), fun h_ => absurd h_ (by decide), fun h_ => absurd h_ (by decide), fun h_ => absurd h_ (by decide), fun h_ => absurd h_ (by decide), fun h_ => absurd h_ (by decide)⟩
            · skip
              clear FC FW FX HB5
              refine steps_cons ?_ ?_
              · rintro b a w' ⟨gA, gB, vc1, vw1, m2_, m6_, ha, Q_HB5, Q_FX, Q_FX1, Q_FX2, Q_FA, Q_FB, Q_N1, Q_FC, Q_FW, Q_FC1, Q_FW1, Q_FC2, Q_FW2, Q_X2_, Q_X6_⟩ hb_ hon hoff
                refine ⟨_, rfl, fun K hK => ?_⟩
                have e11 : a.tmps[11]? = some (.pointer (some ⟨gx, 0, none⟩)) := by rw [ha]; exact (putSel_off rfl).trans rfl
                replace ha := Aside0.mk ha
                have HB5 := Aside0.mk Q_HB5
                have FX := Aside0.mk (Q_FX (hoff 9 (by kernel_rfl)))
                have FC := Aside0.mk (Q_FC (hoff 3 (by kernel_rfl)))
                have FW := Aside0.mk (Q_FW (hoff 3 (by kernel_rfl)))
                refine value_ (w1 := w') (v := .pointer (some ⟨gx, 0, none⟩)) (by rfl) rfl ?_ ?_
                · go_simp
                  (try simp only [i64_w])
                  try rfl
                refine hK.out _ _ ⟨gA, gB, vc1, vw1, m2_, m6_, (by rw [ha.out]; exact putSel_upk 0 hb_ rfl rfl rfl), Q_HB5, Q_FX, fun h0_ _ => absurd ((hoff 9 (by kernel_rfl)).symm.trans h0_) (by decide), fun h0_ => absurd ((hoff 11 (by kernel_rfl)).symm.trans h0_) (by decide), Q_FA, Q_FB, Q_N1, Q_FC, Q_FW, fun h0_ _ => absurd ((hoff 3 (by kernel_rfl)).symm.trans h0_) (by decide), fun h0_ _ => absurd ((hoff 3 (by kernel_rfl)).symm.trans h0_) (by decide), fun h0_ => absurd ((hoff 7 (by kernel_rfl)).symm.trans h0_) (by decide), fun h0_ => absurd ((hoff 7 (by kernel_rfl)).symm.trans h0_) (by decide), Q_X2_, Q_X6_⟩
              refine steps_cons ?_ ?_
              · rintro b a w' ⟨gA, gB, vc1, vw1, m2_, m6_, ha, Q_HB5, Q_FX, Q_FX1, Q_FX2, Q_FA, Q_FB, Q_N1, Q_FC, Q_FW, Q_FC1, Q_FW1, Q_FC2, Q_FW2, Q_X2_, Q_X6_⟩ hb_ hon hoff
                refine ⟨_, rfl, fun K hK => ?_⟩
                have e39 : a.tmps[39]? = some (.pointer (some ⟨gx, 0, none⟩)) := by rw [ha]; exact putSel_on (e := (0, 39, .pointer (some ⟨gx, 0, none⟩))) 0 rfl rfl (hon 0 (by kernel_rfl)) rfl
                replace ha := Aside0.mk ha
                have HB5 := Aside0.mk Q_HB5
                have FX := Aside0.mk (Q_FX (hoff 9 (by kernel_rfl)))
                have FC := Aside0.mk (Q_FC (hoff 3 (by kernel_rfl)))
                have FW := Aside0.mk (Q_FW (hoff 3 (by kernel_rfl)))
                have c_ := (blk_cell FX.out 0).trans rfl
                refine value_ (w1 := w') (v := vc) (by rfl) rfl ?_ ?_
                · go_simp
                  (try simp only [i64_w])
                  try rfl
                refine hK.out _ _ ⟨gA, gB, vc1, vw1, m2_, m6_, (by rw [ha.out]; exact putSel_upk 1 hb_ rfl rfl rfl), Q_HB5, Q_FX, fun h0_ _ => absurd ((hoff 9 (by kernel_rfl)).symm.trans h0_) (by decide), fun h0_ => absurd ((hoff 11 (by kernel_rfl)).symm.trans h0_) (by decide), Q_FA, Q_FB, Q_N1, Q_FC, Q_FW, fun h0_ _ => absurd ((hoff 3 (by kernel_rfl)).symm.trans h0_) (by decide), fun h0_ _ => absurd ((hoff 3 (by kernel_rfl)).symm.trans h0_) (by decide), fun h0_ => absurd ((hoff 7 (by kernel_rfl)).symm.trans h0_) (by decide), fun h0_ => absurd ((hoff 7 (by kernel_rfl)).symm.trans h0_) (by decide), Q_X2_, Q_X6_⟩
              refine steps_cons ?_ ?_
              · rintro b a w' ⟨gA, gB, vc1, vw1, m2_, m6_, ha, Q_HB5, Q_FX, Q_FX1, Q_FX2, Q_FA, Q_FB, Q_N1, Q_FC, Q_FW, Q_FC1, Q_FW1, Q_FC2, Q_FW2, Q_X2_, Q_X6_⟩ hb_ hon hoff
                refine ⟨_, rfl, fun K hK => ?_⟩
                replace ha := Aside0.mk ha
                have HB5 := Aside0.mk Q_HB5
                have FX := Aside0.mk (Q_FX (hoff 9 (by kernel_rfl)))
                have FC := Aside0.mk (Q_FC (hoff 3 (by kernel_rfl)))
                have FW := Aside0.mk (Q_FW (hoff 3 (by kernel_rfl)))
                refine value_ (w1 := ?_) (v := ?_) (by rfl) rfl ?_ ?_
                rotate_left 2
                · go_simp
                  constructor
                  · rfl
                  · rfl
                refine hK.out _ _ ⟨w'.heap.size, gB, vc1, vw1, (.slice (some ⟨w'.heap.size, 0, none⟩) 1 1), m6_, (by rw [ha.out]; exact putSel_upk 2 hb_ rfl rfl rfl), (below_alloc HB5.out _), fun _ => (blk_alloc FX.out _), fun h0_ _ => absurd ((hoff 9 (by kernel_rfl)).symm.trans h0_) (by decide), fun h0_ => absurd ((hoff 11 (by kernel_rfl)).symm.trans h0_) (by decide), fun _ _ => (Blk.new _ _ HB5.out.size _), fun h0_ h1_ => ((Q_FB h0_ h1_).alloc _), Q_N1, fun _ => (Kd.R_alloc FC.out _), fun _ => (Kd.R_alloc FW.out _), fun h0_ _ => absurd ((hoff 3 (by kernel_rfl)).symm.trans h0_) (by decide), fun h0_ _ => absurd ((hoff 3 (by kernel_rfl)).symm.trans h0_) (by decide), fun h0_ => absurd ((hoff 7 (by kernel_rfl)).symm.trans h0_) (by decide), fun h0_ => absurd ((hoff 7 (by kernel_rfl)).symm.trans h0_) (by decide), fun _ => rfl, Q_X6_⟩
              refine steps_cons ?_ ?_
              · rintro b a w' ⟨gA, gB, vc1, vw1, m2_, m6_, ha, Q_HB5, Q_FX, Q_FX1, Q_FX2, Q_FA, Q_FB, Q_N1, Q_FC, Q_FW, Q_FC1, Q_FW1, Q_FC2, Q_FW2, Q_X2_, Q_X6_⟩ hb_ hon hoff
                refine ⟨_, rfl, fun K hK => ?_⟩
                have e40 : a.tmps[40]? = some (vc) := by rw [ha]; exact putSel_on (e := (1, 40, vc)) 1 rfl rfl (hon 1 (by kernel_rfl)) rfl
                have e41 : a.tmps[41]? = some (m2_) := by rw [ha]; exact putSel_on (e := (2, 41, m2_)) 2 rfl rfl (hon 2 (by kernel_rfl)) rfl
                rw [Q_X2_ (hon 2 (by kernel_rfl))] at e41
                replace ha := Aside0.mk ha
                have HB5 := Aside0.mk Q_HB5
                have FX := Aside0.mk (Q_FX (hoff 9 (by kernel_rfl)))
                have FA := Aside0.mk (Q_FA (hon 2 (by kernel_rfl)) hb_)
                have FC := Aside0.mk (Q_FC hb_)
                have FW := Aside0.mk (Q_FW hb_)
                refine Kd.R_append_rows_step (Kd.int .i64) (w0 := w6) (W := w') w6.heap.size (by rfl) (.tmp 40) (.tmp 41) 25 3 (.int .i64 0) 8 (by rfl) Try.underlying25 info3 (by rfl) (by decide) (by omega) vc cs [0] (some ⟨gA, 0, none⟩) 1 1 (fun j => True ∧ some j ≠ Value.ownBlock vw) (fun _ => False) (by simp only [Act.eval, Array.getD_eq_getD_getElem?, e40, Option.getD_some]) (by simp only [Act.eval, Array.getD_eq_getD_getElem?, e41, Option.getD_some]) FC.out (Kd.R_reads' (FA.out.R (by simp))).2.2 (fun _ _ h => h) (fun _ hk => hk.elim) (fun j hj => ⟨trivial, fun e_ => by have := Kd.R_lt FW.out j e_.symm; omega⟩) HB5.out HB5.out.size (by have := HSZ.out; omega) ?_
                intro v1 w1 ho hb hg hat
                refine hK.out _ _ ⟨gA, gB, v1, vw1, m2_, m6_, (by rw [ha.out]; exact putSel_upk 3 hb_ rfl rfl rfl), hb, fun _ => (blk_grown FX.out hg (Kd.R_ne FC.out FX.out (by decide))), fun h0_ _ => absurd ((hoff 9 (by kernel_rfl)).symm.trans h0_) (by decide), fun h0_ => absurd ((hoff 11 (by kernel_rfl)).symm.trans h0_) (by decide), fun _ h1_ => absurd ((up_self b 3).symm.trans h1_) (by decide), fun h6_ h7_ => ⟨blk_grown (Q_FB h6_ h7_).1 hg (Q_N1 h6_ hb_), (Q_FB h6_ h7_).2⟩, fun _ h1_ => absurd ((up_self b 3).symm.trans h1_) (by decide), fun h0_ => absurd ((up_self b 3).symm.trans h0_) (by decide), fun h0_ => absurd ((up_self b 3).symm.trans h0_) (by decide), fun _ _ => ho, fun _ _ => (Kd.R_after (ok := fun _ => True) FW.out hg hat), fun h0_ => absurd ((hoff 7 (by kernel_rfl)).symm.trans h0_) (by decide), fun h0_ => absurd ((hoff 7 (by kernel_rfl)).symm.trans h0_) (by decide), Q_X2_, Q_X6_⟩
              refine steps_cons ?_ ?_
              · rintro b a w' ⟨gA, gB, vc1, vw1, m2_, m6_, ha, Q_HB5, Q_FX, Q_FX1, Q_FX2, Q_FA, Q_FB, Q_N1, Q_FC, Q_FW, Q_FC1, Q_FW1, Q_FC2, Q_FW2, Q_X2_, Q_X6_⟩ hb_ hon hoff
                refine ⟨_, rfl, fun K hK => ?_⟩
                have e11 : a.tmps[11]? = some (.pointer (some ⟨gx, 0, none⟩)) := by rw [ha]; exact (putSel_off rfl).trans rfl
                replace ha := Aside0.mk ha
                have HB5 := Aside0.mk Q_HB5
                have FX := Aside0.mk (Q_FX (hoff 9 (by kernel_rfl)))
                refine value_ (w1 := w') (v := .pointer (some ⟨gx, 1, none⟩)) (by rfl) rfl ?_ ?_
                · go_simp
                  (try simp only [i64_w])
                  try rfl
                refine hK.out _ _ ⟨gA, gB, vc1, vw1, m2_, m6_, (by rw [ha.out]; exact putSel_upk 4 hb_ rfl rfl rfl), Q_HB5, Q_FX, fun h0_ _ => absurd ((hoff 9 (by kernel_rfl)).symm.trans h0_) (by decide), fun h0_ => absurd ((hoff 11 (by kernel_rfl)).symm.trans h0_) (by decide), Q_FA, Q_FB, Q_N1, Q_FC, Q_FW, Q_FC1, Q_FW1, fun h0_ => absurd ((hoff 7 (by kernel_rfl)).symm.trans h0_) (by decide), fun h0_ => absurd ((hoff 7 (by kernel_rfl)).symm.trans h0_) (by decide), Q_X2_, Q_X6_⟩
              refine steps_cons ?_ ?_
              · rintro b a w' ⟨gA, gB, vc1, vw1, m2_, m6_, ha, Q_HB5, Q_FX, Q_FX1, Q_FX2, Q_FA, Q_FB, Q_N1, Q_FC, Q_FW, Q_FC1, Q_FW1, Q_FC2, Q_FW2, Q_X2_, Q_X6_⟩ hb_ hon hoff
                refine ⟨_, rfl, fun K hK => ?_⟩
                have e43 : a.tmps[43]? = some (.pointer (some ⟨gx, 1, none⟩)) := by rw [ha]; exact putSel_on (e := (4, 43, .pointer (some ⟨gx, 1, none⟩))) 4 rfl rfl (hon 4 (by kernel_rfl)) rfl
                replace ha := Aside0.mk ha
                have HB5 := Aside0.mk Q_HB5
                have FX := Aside0.mk (Q_FX (hoff 9 (by kernel_rfl)))
                have c_ := (blk_cell FX.out 1).trans rfl
                refine value_ (w1 := w') (v := vw) (by rfl) rfl ?_ ?_
                · go_simp
                  (try simp only [i64_w])
                  try rfl
                refine hK.out _ _ ⟨gA, gB, vc1, vw1, m2_, m6_, (by rw [ha.out]; exact putSel_upk 5 hb_ rfl rfl rfl), Q_HB5, Q_FX, fun h0_ _ => absurd ((hoff 9 (by kernel_rfl)).symm.trans h0_) (by decide), fun h0_ => absurd ((hoff 11 (by kernel_rfl)).symm.trans h0_) (by decide), Q_FA, Q_FB, Q_N1, Q_FC, Q_FW, Q_FC1, Q_FW1, fun h0_ => absurd ((hoff 7 (by kernel_rfl)).symm.trans h0_) (by decide), fun h0_ => absurd ((hoff 7 (by kernel_rfl)).symm.trans h0_) (by decide), Q_X2_, Q_X6_⟩
              refine steps_cons ?_ ?_
              · rintro b a w' ⟨gA, gB, vc1, vw1, m2_, m6_, ha, Q_HB5, Q_FX, Q_FX1, Q_FX2, Q_FA, Q_FB, Q_N1, Q_FC, Q_FW, Q_FC1, Q_FW1, Q_FC2, Q_FW2, Q_X2_, Q_X6_⟩ hb_ hon hoff
                refine ⟨_, rfl, fun K hK => ?_⟩
                replace ha := Aside0.mk ha
                have HB5 := Aside0.mk Q_HB5
                have FX := Aside0.mk (Q_FX (hoff 9 (by kernel_rfl)))
                refine value_ (w1 := ?_) (v := ?_) (by rfl) rfl ?_ ?_
                rotate_left 2
                · go_simp
                  constructor
                  · rfl
                  · rfl
                refine hK.out _ _ ⟨gA, w'.heap.size, vc1, vw1, m2_, (.slice (some ⟨w'.heap.size, 0, none⟩) 1 1), (by rw [ha.out]; exact putSel_upk 6 hb_ rfl rfl rfl), (below_alloc HB5.out _), fun _ => (blk_alloc FX.out _), fun h0_ _ => absurd ((hoff 9 (by kernel_rfl)).symm.trans h0_) (by decide), fun h0_ => absurd ((hoff 11 (by kernel_rfl)).symm.trans h0_) (by decide), fun h0_ h1_ => ((Q_FA h0_ h1_).alloc _), fun _ _ => (Blk.new _ _ HB5.out.size _), fun _ h_ => (fun e_ => absurd (Kd.R_lt (Q_FC h_) _ e_.symm) (by omega)), fun h0_ => (Kd.R_alloc (Q_FC h0_) _), fun h0_ => (Kd.R_alloc (Q_FW h0_) _), fun h0_ h1_ => (Kd.R_alloc (Q_FC1 h0_ h1_) _), fun h0_ h1_ => (Kd.R_alloc (Q_FW1 h0_ h1_) _), fun h0_ => absurd ((hoff 7 (by kernel_rfl)).symm.trans h0_) (by decide), fun h0_ => absurd ((hoff 7 (by kernel_rfl)).symm.trans h0_) (by decide), Q_X2_, fun _ => rfl⟩
              refine steps_cons ?_ ?_
              · rintro b a w' ⟨gA, gB, vc1, vw1, m2_, m6_, ha, Q_HB5, Q_FX, Q_FX1, Q_FX2, Q_FA, Q_FB, Q_N1, Q_FC, Q_FW, Q_FC1, Q_FW1, Q_FC2, Q_FW2, Q_X2_, Q_X6_⟩ hb_ hon hoff
                refine ⟨_, rfl, fun K hK => ?_⟩
                have e44 : a.tmps[44]? = some (vw) := by rw [ha]; exact putSel_on (e := (5, 44, vw)) 5 rfl rfl (hon 5 (by kernel_rfl)) rfl
                have e45 : a.tmps[45]? = some (m6_) := by rw [ha]; exact putSel_on (e := (6, 45, m6_)) 6 rfl rfl (hon 6 (by kernel_rfl)) rfl
                rw [Q_X6_ (hon 6 (by kernel_rfl))] at e45
                replace ha := Aside0.mk ha
                have HB5 := Aside0.mk Q_HB5
                have FX := Aside0.mk (Q_FX (hoff 9 (by kernel_rfl)))
                have FB := Aside0.mk (Q_FB (hon 6 (by kernel_rfl)) hb_)
                have FC1 := Aside0.mk (Q_FC1 (hon 3 (by kernel_rfl)) hb_)
                have FW1 := Aside0.mk (Q_FW1 (hon 3 (by kernel_rfl)) hb_)
                refine Kd.R_append_rows_step (Kd.int .i64) (w0 := w6) (W := w') w6.heap.size (by rfl) (.tmp 44) (.tmp 45) 25 3 (.int .i64 0) 8 (by rfl) Try.underlying25 info3 (by rfl) (by decide) (by omega) vw ws [1] (some ⟨gB, 0, none⟩) 1 1 (fun j => True ∧ some j ≠ Value.ownBlock vc1) (fun _ => False) (by simp only [Act.eval, Array.getD_eq_getD_getElem?, e44, Option.getD_some]) (by simp only [Act.eval, Array.getD_eq_getD_getElem?, e45, Option.getD_some]) FW1.out (Kd.R_reads' (FB.out.R (by simp))).2.2 (fun _ _ h => h) (fun _ hk => hk.elim) (fun j hj => ⟨trivial, fun e_ => by have := Kd.R_lt FC1.out j e_.symm; omega⟩) HB5.out HB5.out.size (by have := HSZ.out; omega) ?_
                intro v1 w1 ho hb hg hat
                refine hK.out _ _ ⟨gA, gB, vc1, v1, m2_, m6_, (by rw [ha.out]; exact putSel_upk 7 hb_ rfl rfl rfl), hb, fun _ => (blk_grown FX.out hg (Kd.R_ne FW1.out FX.out (by decide))), fun h0_ _ => absurd ((hoff 9 (by kernel_rfl)).symm.trans h0_) (by decide), fun h0_ => absurd ((hoff 11 (by kernel_rfl)).symm.trans h0_) (by decide), fun _ h1_ => absurd ((hon 3 (by kernel_rfl)).symm.trans h1_) (by decide), fun _ h1_ => absurd ((up_self b 7).symm.trans h1_) (by decide), fun _ h1_ => absurd ((hon 3 (by kernel_rfl)).symm.trans h1_) (by decide), fun h0_ => absurd ((hon 3 (by kernel_rfl)).symm.trans h0_) (by decide), fun h0_ => absurd ((hon 3 (by kernel_rfl)).symm.trans h0_) (by decide), fun _ h1_ => absurd ((up_self b 7).symm.trans h1_) (by decide), fun _ h1_ => absurd ((up_self b 7).symm.trans h1_) (by decide), fun _ => (Kd.R_after (ok := fun _ => True) FC1.out hg hat), fun _ => ho, Q_X2_, Q_X6_⟩
              refine steps_cons ?_ ?_
              · rintro b a w' ⟨gA, gB, vc1, vw1, m2_, m6_, ha, Q_HB5, Q_FX, Q_FX1, Q_FX2, Q_FA, Q_FB, Q_N1, Q_FC, Q_FW, Q_FC1, Q_FW1, Q_FC2, Q_FW2, Q_X2_, Q_X6_⟩ hb_ hon hoff
                refine ⟨_, rfl, fun K hK => ?_⟩
                have e11 : a.tmps[11]? = some (.pointer (some ⟨gx, 0, none⟩)) := by rw [ha]; exact (putSel_off rfl).trans rfl
                replace ha := Aside0.mk ha
                have HB5 := Aside0.mk Q_HB5
                have FX := Aside0.mk (Q_FX (hoff 9 (by kernel_rfl)))
                refine value_ (w1 := w') (v := .pointer (some ⟨gx, 0, none⟩)) (by rfl) rfl ?_ ?_
                · go_simp
                  (try simp only [i64_w])
                  try rfl
                refine hK.out _ _ ⟨gA, gB, vc1, vw1, m2_, m6_, (by rw [ha.out]; exact putSel_upk 8 hb_ rfl rfl rfl), Q_HB5, Q_FX, fun h0_ _ => absurd ((hoff 9 (by kernel_rfl)).symm.trans h0_) (by decide), fun h0_ => absurd ((hoff 11 (by kernel_rfl)).symm.trans h0_) (by decide), fun _ h1_ => absurd ((hon 3 (by kernel_rfl)).symm.trans h1_) (by decide), Q_FB, fun _ h1_ => absurd ((hon 3 (by kernel_rfl)).symm.trans h1_) (by decide), fun h0_ => absurd ((hon 3 (by kernel_rfl)).symm.trans h0_) (by decide), fun h0_ => absurd ((hon 3 (by kernel_rfl)).symm.trans h0_) (by decide), Q_FC1, Q_FW1, Q_FC2, Q_FW2, Q_X2_, Q_X6_⟩
              refine steps_cons ?_ ?_
              · rintro b a w' ⟨gA, gB, vc1, vw1, m2_, m6_, ha, Q_HB5, Q_FX, Q_FX1, Q_FX2, Q_FA, Q_FB, Q_N1, Q_FC, Q_FW, Q_FC1, Q_FW1, Q_FC2, Q_FW2, Q_X2_, Q_X6_⟩ hb_ hon hoff
                refine ⟨_, rfl, fun K hK => ?_⟩
                have e47 : a.tmps[47]? = some (.pointer (some ⟨gx, 0, none⟩)) := by rw [ha]; exact putSel_on (e := (8, 47, .pointer (some ⟨gx, 0, none⟩))) 8 rfl rfl (hon 8 (by kernel_rfl)) rfl
                have e42 : a.tmps[42]? = some (vc1) := by rw [ha]; exact putSel_on (e := (3, 42, vc1)) 3 rfl rfl (hon 3 (by kernel_rfl)) rfl
                replace ha := Aside0.mk ha
                have HB5 := Aside0.mk Q_HB5
                have FX := Aside0.mk (Q_FX hb_)
                have FC2 := Aside0.mk (Q_FC2 (hon 7 (by kernel_rfl)))
                have FW2 := Aside0.mk (Q_FW2 (hon 7 (by kernel_rfl)))
                obtain ⟨Ac_, cc_, rfl⟩ := Kd.R_slice FC2.out
                have c_ := (blk_cell FX.out 0).trans rfl
                have f_ := blk_frozen FX.out 0
                refine skip_ (w1 := ?_) (by rfl) rfl ?_ ?_
                rotate_left
                · go_simp
                  rfl
                refine hK.out _ _ ⟨gA, gB, (.slice Ac_ (cs ++ [0]).length cc_), vw1, m2_, m6_, (by rw [ha.out]; exact putSel_none (v := undef) rfl), (HB5.out.setCell (p := ⟨gx, 0, none⟩) HGX.out _), fun h0_ => absurd ((up_self b 9).symm.trans h0_) (by decide), fun _ _ => (blk_put FX.out 0 _ (by simp)), fun h0_ => absurd ((hoff 11 (by kernel_rfl)).symm.trans h0_) (by decide), fun _ h1_ => absurd ((hon 3 (by kernel_rfl)).symm.trans h1_) (by decide), fun _ h1_ => absurd ((hon 7 (by kernel_rfl)).symm.trans h1_) (by decide), fun _ h1_ => absurd ((hon 3 (by kernel_rfl)).symm.trans h1_) (by decide), fun h0_ => absurd ((hon 3 (by kernel_rfl)).symm.trans h0_) (by decide), fun h0_ => absurd ((hon 3 (by kernel_rfl)).symm.trans h0_) (by decide), fun _ h1_ => absurd ((hon 7 (by kernel_rfl)).symm.trans h1_) (by decide), fun _ h1_ => absurd ((hon 7 (by kernel_rfl)).symm.trans h1_) (by decide), fun _ => (Kd.R_mono (Kd.R_far (p := ⟨gx, 0, none⟩) (Kd.R_types FC2.out FX.out (by decide)) (fun j hj => hj.2) _) (fun j hj => hj.1)), fun _ => (Kd.R_mono (Kd.R_far (p := ⟨gx, 0, none⟩) (Kd.R_types FW2.out FX.out (by decide)) (fun j hj => hj.2) _) (fun j hj => hj.1)), Q_X2_, Q_X6_⟩
              refine steps_cons ?_ ?_
              · rintro b a w' ⟨gA, gB, vc1, vw1, m2_, m6_, ha, Q_HB5, Q_FX, Q_FX1, Q_FX2, Q_FA, Q_FB, Q_N1, Q_FC, Q_FW, Q_FC1, Q_FW1, Q_FC2, Q_FW2, Q_X2_, Q_X6_⟩ hb_ hon hoff
                refine ⟨_, rfl, fun K hK => ?_⟩
                have e11 : a.tmps[11]? = some (.pointer (some ⟨gx, 0, none⟩)) := by rw [ha]; exact (putSel_off rfl).trans rfl
                replace ha := Aside0.mk ha
                have HB5 := Aside0.mk Q_HB5
                have FX1 := Aside0.mk (Q_FX1 (hon 9 (by kernel_rfl)) (hoff 11 (by kernel_rfl)))
                have FC2 := Aside0.mk (Q_FC2 (hon 7 (by kernel_rfl)))
                have FW2 := Aside0.mk (Q_FW2 (hon 7 (by kernel_rfl)))
                refine value_ (w1 := w') (v := .pointer (some ⟨gx, 1, none⟩)) (by rfl) rfl ?_ ?_
                · go_simp
                  (try simp only [i64_w])
                  try rfl
                refine hK.out _ _ ⟨gA, gB, vc1, vw1, m2_, m6_, (by rw [ha.out]; exact putSel_upk 9 hb_ rfl rfl rfl), Q_HB5, fun h0_ => absurd ((hon 9 (by kernel_rfl)).symm.trans h0_) (by decide), Q_FX1, fun h0_ => absurd ((hoff 11 (by kernel_rfl)).symm.trans h0_) (by decide), fun _ h1_ => absurd ((hon 3 (by kernel_rfl)).symm.trans h1_) (by decide), fun _ h1_ => absurd ((hon 7 (by kernel_rfl)).symm.trans h1_) (by decide), fun _ h1_ => absurd ((hon 3 (by kernel_rfl)).symm.trans h1_) (by decide), fun h0_ => absurd ((hon 3 (by kernel_rfl)).symm.trans h0_) (by decide), fun h0_ => absurd ((hon 3 (by kernel_rfl)).symm.trans h0_) (by decide), fun _ h1_ => absurd ((hon 7 (by kernel_rfl)).symm.trans h1_) (by decide), fun _ h1_ => absurd ((hon 7 (by kernel_rfl)).symm.trans h1_) (by decide), Q_FC2, Q_FW2, Q_X2_, Q_X6_⟩
              refine steps_cons ?_ ?_
              · rintro b a w' ⟨gA, gB, vc1, vw1, m2_, m6_, ha, Q_HB5, Q_FX, Q_FX1, Q_FX2, Q_FA, Q_FB, Q_N1, Q_FC, Q_FW, Q_FC1, Q_FW1, Q_FC2, Q_FW2, Q_X2_, Q_X6_⟩ hb_ hon hoff
                refine ⟨_, rfl, fun K hK => ?_⟩
                have e48 : a.tmps[48]? = some (.pointer (some ⟨gx, 1, none⟩)) := by rw [ha]; exact putSel_on (e := (10, 48, .pointer (some ⟨gx, 1, none⟩))) 9 rfl rfl (hon 10 (by kernel_rfl)) rfl
                have e46 : a.tmps[46]? = some (vw1) := by rw [ha]; exact putSel_on (e := (7, 46, vw1)) 7 rfl rfl (hon 7 (by kernel_rfl)) rfl
                replace ha := Aside0.mk ha
                have HB5 := Aside0.mk Q_HB5
                have FX1 := Aside0.mk (Q_FX1 (hon 9 (by kernel_rfl)) hb_)
                have FC2 := Aside0.mk (Q_FC2 (hon 7 (by kernel_rfl)))
                have FW2 := Aside0.mk (Q_FW2 (hon 7 (by kernel_rfl)))
                obtain ⟨Aw_, cw_, rfl⟩ := Kd.R_slice FW2.out
                have c_ := (blk_cell FX1.out 1).trans rfl
                have f_ := blk_frozen FX1.out 1
                refine skip_ (w1 := ?_) (by rfl) rfl ?_ ?_
                rotate_left
                · go_simp
                  rfl
                refine hK.out _ _ ⟨gA, gB, vc1, (.slice Aw_ (ws ++ [1]).length cw_), m2_, m6_, (by rw [ha.out]; exact putSel_none (v := undef) rfl), (HB5.out.setCell (p := ⟨gx, 1, none⟩) HGX.out _), fun h0_ => absurd ((hon 9 (by kernel_rfl)).symm.trans h0_) (by decide), fun _ h1_ => absurd ((up_self b 11).symm.trans h1_) (by decide), fun _ => (blk_put FX1.out 1 _ (by simp)), fun _ h1_ => absurd ((hon 3 (by kernel_rfl)).symm.trans h1_) (by decide), fun _ h1_ => absurd ((hon 7 (by kernel_rfl)).symm.trans h1_) (by decide), fun _ h1_ => absurd ((hon 3 (by kernel_rfl)).symm.trans h1_) (by decide), fun h0_ => absurd ((hon 3 (by kernel_rfl)).symm.trans h0_) (by decide), fun h0_ => absurd ((hon 3 (by kernel_rfl)).symm.trans h0_) (by decide), fun _ h1_ => absurd ((hon 7 (by kernel_rfl)).symm.trans h1_) (by decide), fun _ h1_ => absurd ((hon 7 (by kernel_rfl)).symm.trans h1_) (by decide), fun _ => (Kd.R_mono (Kd.R_far (p := ⟨gx, 1, none⟩) (Kd.R_types FC2.out FX1.out (by decide)) (fun j hj => hj.2) _) (fun j hj => hj.1)), fun _ => (Kd.R_mono (Kd.R_far (p := ⟨gx, 1, none⟩) (Kd.R_types FW2.out FX1.out (by decide)) (fun j hj => hj.2) _) (fun j hj => hj.1)), Q_X2_, Q_X6_⟩
              exact steps_nil
            rintro b a w' hall ⟨gA, gB, vc1, vw1, m2_, m6_, ha, Q_HB5, Q_FX, Q_FX1, Q_FX2, Q_FA, Q_FB, Q_N1, Q_FC, Q_FW, Q_FC1, Q_FW1, Q_FC2, Q_FW2, Q_X2_, Q_X6_⟩
            clear FC FW FX HB5
            have hb0_ := hall 0 (by kernel_rfl)
            have hb1_ := hall 1 (by kernel_rfl)
            have hb2_ := hall 2 (by kernel_rfl)
            have hb3_ := hall 3 (by kernel_rfl)
            have hb4_ := hall 4 (by kernel_rfl)
            have hb5_ := hall 5 (by kernel_rfl)
            have hb6_ := hall 6 (by kernel_rfl)
            have hb7_ := hall 7 (by kernel_rfl)
            have hb8_ := hall 8 (by kernel_rfl)
            have hb9_ := hall 9 (by kernel_rfl)
            have hb10_ := hall 10 (by kernel_rfl)
            have hb11_ := hall 11 (by kernel_rfl)
            subst ha
            obtain rfl := Q_X2_ hb2_
            obtain rfl := Q_X6_ hb6_
            simp only [putSel, hb0_, hb1_, hb2_, hb3_, hb4_, hb5_, hb6_, hb7_, hb8_, hb9_, hb10_, hb11_, if_true, Act.put, List.setIfInBounds_toArray, List.set_cons_zero, List.set_cons_succ]
            have HB5 := Aside0.mk Q_HB5
            clear Q_HB5
            clear Q_FX
            clear Q_FX1
            have FX2 := Aside0.mk (Q_FX2 hb11_)
            clear Q_FX2
            clear Q_FA
            clear Q_FB
            clear Q_N1
            clear Q_FC
            clear Q_FW
            clear Q_FC1
            clear Q_FW1
            have FC2 := Aside0.mk (Q_FC2 hb7_)
            clear Q_FC2
            have FW2 := Aside0.mk (Q_FW2 hb7_)
            clear Q_FW2
            clear hall hb0_ hb1_ hb2_ hb3_ hb4_ hb5_ hb6_ hb7_ hb8_ hb9_ hb10_ hb11_
            go_wp2_with (fail)
            all_goals
              go_roundg (K - (t + 1))
              case measure => have := HLT2.out; omega
              case rel => exact ⟨t + 1, vc1, vw1, HLT2.out.1, Nat.le_refl _, by rw [w64_succ t (by have := HLT2.out.1; have := HSZ0.out; omega)], HB5, FX2, ⟨by rw [HNX.out]; exact FC2.out⟩, ⟨by rw [HNX.out]; exact FW2.out⟩⟩
          · have htb : ((t : Int) == s) = false := beq_eq_false_iff_ne.2 hts
            have HNX := Aside0.mk (show leafTo s (t + 1) = (cs ++ [1073741824], ws ++ [0]) by show (if (t : Int) = s then _ else _) = _; rw [if_neg hts, hcs, hws])
            clear hlt2 hgg2 ht hts hcs hws
            go_wp2_with (fail)
            clear hx p0 p1 htb
            refine start_ (n := 12) (S := fun w' => True) (ds := []) #[false, false, false, false, false, false, false, false, false, false, false, false] (by kernel_rfl) rfl rfl trivial (fun hHeld => ?_)
            refine with_tabW nodes.tab11 nodes.bits11 (fun HT_ HW_ => ?_)
            replace HB5 := Aside0.mk (below_drew1 HB5.out)
            replace FX := Aside0.mk (blk_drew FX.out)
            replace FC := Aside0.mk (Kd.R_drew FC.out)
            replace FW := Aside0.mk (Kd.R_drew FW.out)
            generalize w7.drew = w3 at HB5 FX FC FW hHeld ⊢
            refine inv_at [0, 1, 2, 3, 4, 5, 6, 7, 8, 9, 10, 11] (fun a0_ b a w' => ∃ (gA : Nat) (gB : Nat) (vc1 : Value) (vw1 : Value) (m2_ : Value) (m6_ : Value), a = putSel a0_ b [(0, 49, .pointer (some ⟨gx, 0, none⟩)), (1, 50, vc), (2, 51, m2_), (3, 52, vc1), (4, 53, .pointer (some ⟨gx, 1, none⟩)), (5, 54, vw), (6, 55, m6_), (7, 56, vw1), (8, 57, .pointer (some ⟨gx, 0, none⟩)), (10, 58, .pointer (some ⟨gx, 1, none⟩))] ∧ (Below w6.heap.size w6 w') ∧ (b 9 = false → w'.heap[gx]? = some (.cells #[vc, vw] 63 (0, 0))) ∧ (b 9 = true → b 11 = false → w'.heap[gx]? = some (.cells #[vc1, vw] 63 (0, 0))) ∧ (b 11 = true → w'.heap[gx]? = some (.cells #[vc1, vw1] 63 (0, 0))) ∧ (b 2 = true → b 3 = false → Blk w' w6.heap.size gA (ints [1073741824])) ∧ (b 6 = true → b 7 = false → Blk w' w6.heap.size gB (ints [0])) ∧ (b 6 = true → b 3 = false → some gB ≠ Value.ownBlock vc) ∧ (b 3 = false → Kd.R (Kd.int .i64) 3 w' w6.heap.size (fun j => True ∧ some j ≠ Value.ownBlock vw) vc cs) ∧ (b 3 = false → Kd.R (Kd.int .i64) 3 w' w6.heap.size (fun j => True ∧ some j ≠ Value.ownBlock vc) vw ws) ∧ (b 3 = true → b 7 = false → Kd.R (Kd.int .i64) 3 w' w6.heap.size (fun j => True ∧ some j ≠ Value.ownBlock vw) vc1 (cs ++ [1073741824])) ∧ (b 3 = true → b 7 = false → Kd.R (Kd.int .i64) 3 w' w6.heap.size (fun j => True ∧ some j ≠ Value.ownBlock vc1) vw ws) ∧ (b 7 = true → Kd.R (Kd.int .i64) 3 w' w6.heap.size (fun j => True ∧ some j ≠ Value.ownBlock vw1) vc1 (cs ++ [1073741824])) ∧ (b 7 = true → Kd.R (Kd.int .i64) 3 w' w6.heap.size (fun j => True ∧ some j ≠ Value.ownBlock vc1) vw1 (ws ++ [0])) ∧ (b 2 = true → (m2_ : Value) = .slice (some ⟨gA, 0, none⟩) 1 1) ∧ (b 6 = true → (m6_ : Value) = .slice (some ⟨gB, 0, none⟩) 1 1)) HT_.out HW_.out (by kernel_rfl) (by kernel_rfl) ?_ ?_ ?_
            · exact ⟨0, 0, .bool false, .bool false, .bool false, .bool false, by simp only [putSel, Bool.false_eq_true, if_false], HB5.out, fun _ => FX.out, fun h_ => absurd h_ (by decide), fun h_ => absurd h_ (by decide), fun h_ => absurd h_ (by decide), fun h_ => absurd h_ (by decide), fun h_ => absurd h_ (by decide), fun _ => FC.out, fun _ => FW.out, fun h_ => absurd h_ (by decide), fun h_ => absurd h_ (by decide), fun h_ => absurd h_ (by decide), fun h_ => absurd h_ (by decide), fun h_ => absurd h_ (by decide), fun h_ => absurd h_ (by decide)⟩
            · skip
              clear FC FW FX HB5
              refine steps_cons ?_ ?_
              · rintro b a w' ⟨gA, gB, vc1, vw1, m2_, m6_, ha, Q_HB5, Q_FX, Q_FX1, Q_FX2, Q_FA, Q_FB, Q_N1, Q_FC, Q_FW, Q_FC1, Q_FW1, Q_FC2, Q_FW2, Q_X2_, Q_X6_⟩ hb_ hon hoff
                refine ⟨_, rfl, fun K hK => ?_⟩
                have e11 : a.tmps[11]? = some (.pointer (some ⟨gx, 0, none⟩)) := by rw [ha]; exact (putSel_off rfl).trans rfl
                replace ha := Aside0.mk ha
                have HB5 := Aside0.mk Q_HB5
                have FX := Aside0.mk (Q_FX (hoff 9 (by kernel_rfl)))
                have FC := Aside0.mk (Q_FC (hoff 3 (by kernel_rfl)))
                have FW := Aside0.mk (Q_FW (hoff 3 (by kernel_rfl)))
                refine value_ (w1 := w') (v := .pointer (some ⟨gx, 0, none⟩)) (by rfl) rfl ?_ ?_
                · go_simp
                  (try simp only [i64_w])
                  try rfl
                refine hK.out _ _ ⟨gA, gB, vc1, vw1, m2_, m6_, (by rw [ha.out]; exact putSel_upk 0 hb_ rfl rfl rfl), Q_HB5, Q_FX, fun h0_ _ => absurd ((hoff 9 (by kernel_rfl)).symm.trans h0_) (by decide), fun h0_ => absurd ((hoff 11 (by kernel_rfl)).symm.trans h0_) (by decide), Q_FA, Q_FB, Q_N1, Q_FC, Q_FW, fun h0_ _ => absurd ((hoff 3 (by kernel_rfl)).symm.trans h0_) (by decide), fun h0_ _ => absurd ((hoff 3 (by kernel_rfl)).symm.trans h0_) (by decide), fun h0_ => absurd ((hoff 7 (by kernel_rfl)).symm.trans h0_) (by decide), fun h0_ => absurd ((hoff 7 (by kernel_rfl)).symm.trans h0_) (by decide), Q_X2_, Q_X6_⟩
              refine steps_cons ?_ ?_
              · rintro b a w' ⟨gA, gB, vc1, vw1, m2_, m6_, ha, Q_HB5, Q_FX, Q_FX1, Q_FX2, Q_FA, Q_FB, Q_N1, Q_FC, Q_FW, Q_FC1, Q_FW1, Q_FC2, Q_FW2, Q_X2_, Q_X6_⟩ hb_ hon hoff
                refine ⟨_, rfl, fun K hK => ?_⟩
                have e49 : a.tmps[49]? = some (.pointer (some ⟨gx, 0, none⟩)) := by rw [ha]; exact putSel_on (e := (0, 49, .pointer (some ⟨gx, 0, none⟩))) 0 rfl rfl (hon 0 (by kernel_rfl)) rfl
                replace ha := Aside0.mk ha
                have HB5 := Aside0.mk Q_HB5
                have FX := Aside0.mk (Q_FX (hoff 9 (by kernel_rfl)))
                have FC := Aside0.mk (Q_FC (hoff 3 (by kernel_rfl)))
                have FW := Aside0.mk (Q_FW (hoff 3 (by kernel_rfl)))
                have c_ := (blk_cell FX.out 0).trans rfl
                refine value_ (w1 := w') (v := vc) (by rfl) rfl ?_ ?_
                · go_simp
                  (try simp only [i64_w])
                  try rfl
                refine hK.out _ _ ⟨gA, gB, vc1, vw1, m2_, m6_, (by rw [ha.out]; exact putSel_upk 1 hb_ rfl rfl rfl), Q_HB5, Q_FX, fun h0_ _ => absurd ((hoff 9 (by kernel_rfl)).symm.trans h0_) (by decide), fun h0_ => absurd ((hoff 11 (by kernel_rfl)).symm.trans h0_) (by decide), Q_FA, Q_FB, Q_N1, Q_FC, Q_FW, fun h0_ _ => absurd ((hoff 3 (by kernel_rfl)).symm.trans h0_) (by decide), fun h0_ _ => absurd ((hoff 3 (by kernel_rfl)).symm.trans h0_) (by decide), fun h0_ => absurd ((hoff 7 (by kernel_rfl)).symm.trans h0_) (by decide), fun h0_ => absurd ((hoff 7 (by kernel_rfl)).symm.trans h0_) (by decide), Q_X2_, Q_X6_⟩
              refine steps_cons ?_ ?_
              · rintro b a w' ⟨gA, gB, vc1, vw1, m2_, m6_, ha, Q_HB5, Q_FX, Q_FX1, Q_FX2, Q_FA, Q_FB, Q_N1, Q_FC, Q_FW, Q_FC1, Q_FW1, Q_FC2, Q_FW2, Q_X2_, Q_X6_⟩ hb_ hon hoff
                refine ⟨_, rfl, fun K hK => ?_⟩
                replace ha := Aside0.mk ha
                have HB5 := Aside0.mk Q_HB5
                have FX := Aside0.mk (Q_FX (hoff 9 (by kernel_rfl)))
                have FC := Aside0.mk (Q_FC (hoff 3 (by kernel_rfl)))
                have FW := Aside0.mk (Q_FW (hoff 3 (by kernel_rfl)))
                refine value_ (w1 := ?_) (v := ?_) (by rfl) rfl ?_ ?_
                rotate_left 2
                · go_simp
                  constructor
                  · rfl
                  · rfl
                refine hK.out _ _ ⟨w'.heap.size, gB, vc1, vw1, (.slice (some ⟨w'.heap.size, 0, none⟩) 1 1), m6_, (by rw [ha.out]; exact putSel_upk 2 hb_ rfl rfl rfl), (below_alloc HB5.out _), fun _ => (blk_alloc FX.out _), fun h0_ _ => absurd ((hoff 9 (by kernel_rfl)).symm.trans h0_) (by decide), fun h0_ => absurd ((hoff 11 (by kernel_rfl)).symm.trans h0_) (by decide), fun _ _ => (Blk.new _ _ HB5.out.size _), fun h0_ h1_ => ((Q_FB h0_ h1_).alloc _), Q_N1, fun _ => (Kd.R_alloc FC.out _), fun _ => (Kd.R_alloc FW.out _), fun h0_ _ => absurd ((hoff 3 (by kernel_rfl)).symm.trans h0_) (by decide), fun h0_ _ => absurd ((hoff 3 (by kernel_rfl)).symm.trans h0_) (by decide), fun h0_ => absurd ((hoff 7 (by kernel_rfl)).symm.trans h0_) (by decide), fun h0_ => absurd ((hoff 7 (by kernel_rfl)).symm.trans h0_) (by decide), fun _ => rfl, Q_X6_⟩
              refine steps_cons ?_ ?_
              · rintro b a w' ⟨gA, gB, vc1, vw1, m2_, m6_, ha, Q_HB5, Q_FX, Q_FX1, Q_FX2, Q_FA, Q_FB, Q_N1, Q_FC, Q_FW, Q_FC1, Q_FW1, Q_FC2, Q_FW2, Q_X2_, Q_X6_⟩ hb_ hon hoff
                refine ⟨_, rfl, fun K hK => ?_⟩
                have e50 : a.tmps[50]? = some (vc) := by rw [ha]; exact putSel_on (e := (1, 50, vc)) 1 rfl rfl (hon 1 (by kernel_rfl)) rfl
                have e51 : a.tmps[51]? = some (m2_) := by rw [ha]; exact putSel_on (e := (2, 51, m2_)) 2 rfl rfl (hon 2 (by kernel_rfl)) rfl
                rw [Q_X2_ (hon 2 (by kernel_rfl))] at e51
                replace ha := Aside0.mk ha
                have HB5 := Aside0.mk Q_HB5
                have FX := Aside0.mk (Q_FX (hoff 9 (by kernel_rfl)))
                have FA := Aside0.mk (Q_FA (hon 2 (by kernel_rfl)) hb_)
                have FC := Aside0.mk (Q_FC hb_)
                have FW := Aside0.mk (Q_FW hb_)
                refine Kd.R_append_rows_step (Kd.int .i64) (w0 := w6) (W := w') w6.heap.size (by rfl) (.tmp 50) (.tmp 51) 25 3 (.int .i64 0) 8 (by rfl) Try.underlying25 info3 (by rfl) (by decide) (by omega) vc cs [1073741824] (some ⟨gA, 0, none⟩) 1 1 (fun j => True ∧ some j ≠ Value.ownBlock vw) (fun _ => False) (by simp only [Act.eval, Array.getD_eq_getD_getElem?, e50, Option.getD_some]) (by simp only [Act.eval, Array.getD_eq_getD_getElem?, e51, Option.getD_some]) FC.out (Kd.R_reads' (FA.out.R (by simp))).2.2 (fun _ _ h => h) (fun _ hk => hk.elim) (fun j hj => ⟨trivial, fun e_ => by have := Kd.R_lt FW.out j e_.symm; omega⟩) HB5.out HB5.out.size (by have := HSZ.out; omega) ?_
                intro v1 w1 ho hb hg hat
                refine hK.out _ _ ⟨gA, gB, v1, vw1, m2_, m6_, (by rw [ha.out]; exact putSel_upk 3 hb_ rfl rfl rfl), hb, fun _ => (blk_grown FX.out hg (Kd.R_ne FC.out FX.out (by decide))), fun h0_ _ => absurd ((hoff 9 (by kernel_rfl)).symm.trans h0_) (by decide), fun h0_ => absurd ((hoff 11 (by kernel_rfl)).symm.trans h0_) (by decide), fun _ h1_ => absurd ((up_self b 3).symm.trans h1_) (by decide), fun h6_ h7_ => ⟨blk_grown (Q_FB h6_ h7_).1 hg (Q_N1 h6_ hb_), (Q_FB h6_ h7_).2⟩, fun _ h1_ => absurd ((up_self b 3).symm.trans h1_) (by decide), fun h0_ => absurd ((up_self b 3).symm.trans h0_) (by decide), fun h0_ => absurd ((up_self b 3).symm.trans h0_) (by decide), fun _ _ => ho, fun _ _ => (Kd.R_after (ok := fun _ => True) FW.out hg hat), fun h0_ => absurd ((hoff 7 (by kernel_rfl)).symm.trans h0_) (by decide), fun h0_ => absurd ((hoff 7 (by kernel_rfl)).symm.trans h0_) (by decide), Q_X2_, Q_X6_⟩
              refine steps_cons ?_ ?_
              · rintro b a w' ⟨gA, gB, vc1, vw1, m2_, m6_, ha, Q_HB5, Q_FX, Q_FX1, Q_FX2, Q_FA, Q_FB, Q_N1, Q_FC, Q_FW, Q_FC1, Q_FW1, Q_FC2, Q_FW2, Q_X2_, Q_X6_⟩ hb_ hon hoff
                refine ⟨_, rfl, fun K hK => ?_⟩
                have e11 : a.tmps[11]? = some (.pointer (some ⟨gx, 0, none⟩)) := by rw [ha]; exact (putSel_off rfl).trans rfl
                replace ha := Aside0.mk ha
                have HB5 := Aside0.mk Q_HB5
                have FX := Aside0.mk (Q_FX (hoff 9 (by kernel_rfl)))
                refine value_ (w1 := w') (v := .pointer (some ⟨gx, 1, none⟩)) (by rfl) rfl ?_ ?_
                · go_simp
                  (try simp only [i64_w])
                  try rfl
                refine hK.out _ _ ⟨gA, gB, vc1, vw1, m2_, m6_, (by rw [ha.out]; exact putSel_upk 4 hb_ rfl rfl rfl), Q_HB5, Q_FX, fun h0_ _ => absurd ((hoff 9 (by kernel_rfl)).symm.trans h0_) (by decide), fun h0_ => absurd ((hoff 11 (by kernel_rfl)).symm.trans h0_) (by decide), Q_FA, Q_FB, Q_N1, Q_FC, Q_FW, Q_FC1, Q_FW1, fun h0_ => absurd ((hoff 7 (by kernel_rfl)).symm.trans h0_) (by decide), fun h0_ => absurd ((hoff 7 (by kernel_rfl)).symm.trans h0_) (by decide), Q_X2_, Q_X6_⟩
              refine steps_cons ?_ ?_
              · rintro b a w' ⟨gA, gB, vc1, vw1, m2_, m6_, ha, Q_HB5, Q_FX, Q_FX1, Q_FX2, Q_FA, Q_FB, Q_N1, Q_FC, Q_FW, Q_FC1, Q_FW1, Q_FC2, Q_FW2, Q_X2_, Q_X6_⟩ hb_ hon hoff
                refine ⟨_, rfl, fun K hK => ?_⟩
                have e53 : a.tmps[53]? = some (.pointer (some ⟨gx, 1, none⟩)) := by rw [ha]; exact putSel_on (e := (4, 53, .pointer (some ⟨gx, 1, none⟩))) 4 rfl rfl (hon 4 (by kernel_rfl)) rfl
                replace ha := Aside0.mk ha
                have HB5 := Aside0.mk Q_HB5
                have FX := Aside0.mk (Q_FX (hoff 9 (by kernel_rfl)))
                have c_ := (blk_cell FX.out 1).trans rfl
                refine value_ (w1 := w') (v := vw) (by rfl) rfl ?_ ?_
                · go_simp
                  (try simp only [i64_w])
                  try rfl
                refine hK.out _ _ ⟨gA, gB, vc1, vw1, m2_, m6_, (by rw [ha.out]; exact putSel_upk 5 hb_ rfl rfl rfl), Q_HB5, Q_FX, fun h0_ _ => absurd ((hoff 9 (by kernel_rfl)).symm.trans h0_) (by decide), fun h0_ => absurd ((hoff 11 (by kernel_rfl)).symm.trans h0_) (by decide), Q_FA, Q_FB, Q_N1, Q_FC, Q_FW, Q_FC1, Q_FW1, fun h0_ => absurd ((hoff 7 (by kernel_rfl)).symm.trans h0_) (by decide), fun h0_ => absurd ((hoff 7 (by kernel_rfl)).symm.trans h0_) (by decide), Q_X2_, Q_X6_⟩
              refine steps_cons ?_ ?_
              · rintro b a w' ⟨gA, gB, vc1, vw1, m2_, m6_, ha, Q_HB5, Q_FX, Q_FX1, Q_FX2, Q_FA, Q_FB, Q_N1, Q_FC, Q_FW, Q_FC1, Q_FW1, Q_FC2, Q_FW2, Q_X2_, Q_X6_⟩ hb_ hon hoff
                refine ⟨_, rfl, fun K hK => ?_⟩
                replace ha := Aside0.mk ha
                have HB5 := Aside0.mk Q_HB5
                have FX := Aside0.mk (Q_FX (hoff 9 (by kernel_rfl)))
                refine value_ (w1 := ?_) (v := ?_) (by rfl) rfl ?_ ?_
                rotate_left 2
                · go_simp
                  constructor
                  · rfl
                  · rfl
                refine hK.out _ _ ⟨gA, w'.heap.size, vc1, vw1, m2_, (.slice (some ⟨w'.heap.size, 0, none⟩) 1 1), (by rw [ha.out]; exact putSel_upk 6 hb_ rfl rfl rfl), (below_alloc HB5.out _), fun _ => (blk_alloc FX.out _), fun h0_ _ => absurd ((hoff 9 (by kernel_rfl)).symm.trans h0_) (by decide), fun h0_ => absurd ((hoff 11 (by kernel_rfl)).symm.trans h0_) (by decide), fun h0_ h1_ => ((Q_FA h0_ h1_).alloc _), fun _ _ => (Blk.new _ _ HB5.out.size _), fun _ h_ => (fun e_ => absurd (Kd.R_lt (Q_FC h_) _ e_.symm) (by omega)), fun h0_ => (Kd.R_alloc (Q_FC h0_) _), fun h0_ => (Kd.R_alloc (Q_FW h0_) _), fun h0_ h1_ => (Kd.R_alloc (Q_FC1 h0_ h1_) _), fun h0_ h1_ => (Kd.R_alloc (Q_FW1 h0_ h1_) _), fun h0_ => absurd ((hoff 7 (by kernel_rfl)).symm.trans h0_) (by decide), fun h0_ => absurd ((hoff 7 (by kernel_rfl)).symm.trans h0_) (by decide), Q_X2_, fun _ => rfl⟩
              refine steps_cons ?_ ?_
              · rintro b a w' ⟨gA, gB, vc1, vw1, m2_, m6_, ha, Q_HB5, Q_FX, Q_FX1, Q_FX2, Q_FA, Q_FB, Q_N1, Q_FC, Q_FW, Q_FC1, Q_FW1, Q_FC2, Q_FW2, Q_X2_, Q_X6_⟩ hb_ hon hoff
                refine ⟨_, rfl, fun K hK => ?_⟩
                have e54 : a.tmps[54]? = some (vw) := by rw [ha]; exact putSel_on (e := (5, 54, vw)) 5 rfl rfl (hon 5 (by kernel_rfl)) rfl
                have e55 : a.tmps[55]? = some (m6_) := by rw [ha]; exact putSel_on (e := (6, 55, m6_)) 6 rfl rfl (hon 6 (by kernel_rfl)) rfl
                rw [Q_X6_ (hon 6 (by kernel_rfl))] at e55
                replace ha := Aside0.mk ha
                have HB5 := Aside0.mk Q_HB5
                have FX := Aside0.mk (Q_FX (hoff 9 (by kernel_rfl)))
                have FB := Aside0.mk (Q_FB (hon 6 (by kernel_rfl)) hb_)
                have FC1 := Aside0.mk (Q_FC1 (hon 3 (by kernel_rfl)) hb_)
                have FW1 := Aside0.mk (Q_FW1 (hon 3 (by kernel_rfl)) hb_)
                refine Kd.R_append_rows_step (Kd.int .i64) (w0 := w6) (W := w') w6.heap.size (by rfl) (.tmp 54) (.tmp 55) 25 3 (.int .i64 0) 8 (by rfl) Try.underlying25 info3 (by rfl) (by decide) (by omega) vw ws [0] (some ⟨gB, 0, none⟩) 1 1 (fun j => True ∧ some j ≠ Value.ownBlock vc1) (fun _ => False) (by simp only [Act.eval, Array.getD_eq_getD_getElem?, e54, Option.getD_some]) (by simp only [Act.eval, Array.getD_eq_getD_getElem?, e55, Option.getD_some]) FW1.out (Kd.R_reads' (FB.out.R (by simp))).2.2 (fun _ _ h => h) (fun _ hk => hk.elim) (fun j hj => ⟨trivial, fun e_ => by have := Kd.R_lt FC1.out j e_.symm; omega⟩) HB5.out HB5.out.size (by have := HSZ.out; omega) ?_
                intro v1 w1 ho hb hg hat
                refine hK.out _ _ ⟨gA, gB, vc1, v1, m2_, m6_, (by rw [ha.out]; exact putSel_upk 7 hb_ rfl rfl rfl), hb, fun _ => (blk_grown FX.out hg (Kd.R_ne FW1.out FX.out (by decide))), fun h0_ _ => absurd ((hoff 9 (by kernel_rfl)).symm.trans h0_) (by decide), fun h0_ => absurd ((hoff 11 (by kernel_rfl)).symm.trans h0_) (by decide), fun _ h1_ => absurd ((hon 3 (by kernel_rfl)).symm.trans h1_) (by decide), fun _ h1_ => absurd ((up_self b 7).symm.trans h1_) (by decide), fun _ h1_ => absurd ((hon 3 (by kernel_rfl)).symm.trans h1_) (by decide), fun h0_ => absurd ((hon 3 (by kernel_rfl)).symm.trans h0_) (by decide), fun h0_ => absurd ((hon 3 (by kernel_rfl)).symm.trans h0_) (by decide), fun _ h1_ => absurd ((up_self b 7).symm.trans h1_) (by decide), fun _ h1_ => absurd ((up_self b 7).symm.trans h1_) (by decide), fun _ => (Kd.R_after (ok := fun _ => True) FC1.out hg hat), fun _ => ho, Q_X2_, Q_X6_⟩
              refine steps_cons ?_ ?_
              · rintro b a w' ⟨gA, gB, vc1, vw1, m2_, m6_, ha, Q_HB5, Q_FX, Q_FX1, Q_FX2, Q_FA, Q_FB, Q_N1, Q_FC, Q_FW, Q_FC1, Q_FW1, Q_FC2, Q_FW2, Q_X2_, Q_X6_⟩ hb_ hon hoff
                refine ⟨_, rfl, fun K hK => ?_⟩
                have e11 : a.tmps[11]? = some (.pointer (some ⟨gx, 0, none⟩)) := by rw [ha]; exact (putSel_off rfl).trans rfl
                replace ha := Aside0.mk ha
                have HB5 := Aside0.mk Q_HB5
                have FX := Aside0.mk (Q_FX (hoff 9 (by kernel_rfl)))
                refine value_ (w1 := w') (v := .pointer (some ⟨gx, 0, none⟩)) (by rfl) rfl ?_ ?_
                · go_simp
                  (try simp only [i64_w])
                  try rfl
                refine hK.out _ _ ⟨gA, gB, vc1, vw1, m2_, m6_, (by rw [ha.out]; exact putSel_upk 8 hb_ rfl rfl rfl), Q_HB5, Q_FX, fun h0_ _ => absurd ((hoff 9 (by kernel_rfl)).symm.trans h0_) (by decide), fun h0_ => absurd ((hoff 11 (by kernel_rfl)).symm.trans h0_) (by decide), fun _ h1_ => absurd ((hon 3 (by kernel_rfl)).symm.trans h1_) (by decide), Q_FB, fun _ h1_ => absurd ((hon 3 (by kernel_rfl)).symm.trans h1_) (by decide), fun h0_ => absurd ((hon 3 (by kernel_rfl)).symm.trans h0_) (by decide), fun h0_ => absurd ((hon 3 (by kernel_rfl)).symm.trans h0_) (by decide), Q_FC1, Q_FW1, Q_FC2, Q_FW2, Q_X2_, Q_X6_⟩
              refine steps_cons ?_ ?_
              · rintro b a w' ⟨gA, gB, vc1, vw1, m2_, m6_, ha, Q_HB5, Q_FX, Q_FX1, Q_FX2, Q_FA, Q_FB, Q_N1, Q_FC, Q_FW, Q_FC1, Q_FW1, Q_FC2, Q_FW2, Q_X2_, Q_X6_⟩ hb_ hon hoff
                refine ⟨_, rfl, fun K hK => ?_⟩
                have e57 : a.tmps[57]? = some (.pointer (some ⟨gx, 0, none⟩)) := by rw [ha]; exact putSel_on (e := (8, 57, .pointer (some ⟨gx, 0, none⟩))) 8 rfl rfl (hon 8 (by kernel_rfl)) rfl
                have e52 : a.tmps[52]? = some (vc1) := by rw [ha]; exact putSel_on (e := (3, 52, vc1)) 3 rfl rfl (hon 3 (by kernel_rfl)) rfl
                replace ha := Aside0.mk ha
                have HB5 := Aside0.mk Q_HB5
                have FX := Aside0.mk (Q_FX hb_)
                have FC2 := Aside0.mk (Q_FC2 (hon 7 (by kernel_rfl)))
                have FW2 := Aside0.mk (Q_FW2 (hon 7 (by kernel_rfl)))
                obtain ⟨Ac_, cc_, rfl⟩ := Kd.R_slice FC2.out
                have c_ := (blk_cell FX.out 0).trans rfl
                have f_ := blk_frozen FX.out 0
                refine skip_ (w1 := ?_) (by rfl) rfl ?_ ?_
                rotate_left
                · go_simp
                  rfl
                refine hK.out _ _ ⟨gA, gB, (.slice Ac_ (cs ++ [1073741824]).length cc_), vw1, m2_, m6_, (by rw [ha.out]; exact putSel_none (v := undef) rfl), (HB5.out.setCell (p := ⟨gx, 0, none⟩) HGX.out _), fun h0_ => absurd ((up_self b 9).symm.trans h0_) (by decide), fun _ _ => (blk_put FX.out 0 _ (by simp)), fun h0_ => absurd ((hoff 11 (by kernel_rfl)).symm.trans h0_) (by decide), fun _ h1_ => absurd ((hon 3 (by kernel_rfl)).symm.trans h1_) (by decide), fun _ h1_ => absurd ((hon 7 (by kernel_rfl)).symm.trans h1_) (by decide), fun _ h1_ => absurd ((hon 3 (by kernel_rfl)).symm.trans h1_) (by decide), fun h0_ => absurd ((hon 3 (by kernel_rfl)).symm.trans h0_) (by decide), fun h0_ => absurd ((hon 3 (by kernel_rfl)).symm.trans h0_) (by decide), fun _ h1_ => absurd ((hon 7 (by kernel_rfl)).symm.trans h1_) (by decide), fun _ h1_ => absurd ((hon 7 (by kernel_rfl)).symm.trans h1_) (by decide), fun _ => (Kd.R_mono (Kd.R_far (p := ⟨gx, 0, none⟩) (Kd.R_types FC2.out FX.out (by decide)) (fun j hj => hj.2) _) (fun j hj => hj.1)), fun _ => (Kd.R_mono (Kd.R_far (p := ⟨gx, 0, none⟩) (Kd.R_types FW2.out FX.out (by decide)) (fun j hj => hj.2) _) (fun j hj => hj.1)), Q_X2_, Q_X6_⟩
              refine steps_cons ?_ ?_
              · rintro b a w' ⟨gA, gB, vc1, vw1, m2_, m6_, ha, Q_HB5, Q_FX, Q_FX1, Q_FX2, Q_FA, Q_FB, Q_N1, Q_FC, Q_FW, Q_FC1, Q_FW1, Q_FC2, Q_FW2, Q_X2_, Q_X6_⟩ hb_ hon hoff
                refine ⟨_, rfl, fun K hK => ?_⟩
                have e11 : a.tmps[11]? = some (.pointer (some ⟨gx, 0, none⟩)) := by rw [ha]; exact (putSel_off rfl).trans rfl
                replace ha := Aside0.mk ha
                have HB5 := Aside0.mk Q_HB5
                have FX1 := Aside0.mk (Q_FX1 (hon 9 (by kernel_rfl)) (hoff 11 (by kernel_rfl)))
                have FC2 := Aside0.mk (Q_FC2 (hon 7 (by kernel_rfl)))
                have FW2 := Aside0.mk (Q_FW2 (hon 7 (by kernel_rfl)))
                refine value_ (w1 := w') (v := .pointer (some ⟨gx, 1, none⟩)) (by rfl) rfl ?_ ?_
                · go_simp
                  (try simp only [i64_w])
                  try rfl
                refine hK.out _ _ ⟨gA, gB, vc1, vw1, m2_, m6_, (by rw [ha.out]; exact putSel_upk 9 hb_ rfl rfl rfl), Q_HB5, fun h0_ => absurd ((hon 9 (by kernel_rfl)).symm.trans h0_) (by decide), Q_FX1, fun h0_ => absurd ((hoff 11 (by kernel_rfl)).symm.trans h0_) (by decide), fun _ h1_ => absurd ((hon 3 (by kernel_rfl)).symm.trans h1_) (by decide), fun _ h1_ => absurd ((hon 7 (by kernel_rfl)).symm.trans h1_) (by decide), fun _ h1_ => absurd ((hon 3 (by kernel_rfl)).symm.trans h1_) (by decide), fun h0_ => absurd ((hon 3 (by kernel_rfl)).symm.trans h0_) (by decide), fun h0_ => absurd ((hon 3 (by kernel_rfl)).symm.trans h0_) (by decide), fun _ h1_ => absurd ((hon 7 (by kernel_rfl)).symm.trans h1_) (by decide), fun _ h1_ => absurd ((hon 7 (by kernel_rfl)).symm.trans h1_) (by decide), Q_FC2, Q_FW2, Q_X2_, Q_X6_⟩
              refine steps_cons ?_ ?_
              · rintro b a w' ⟨gA, gB, vc1, vw1, m2_, m6_, ha, Q_HB5, Q_FX, Q_FX1, Q_FX2, Q_FA, Q_FB, Q_N1, Q_FC, Q_FW, Q_FC1, Q_FW1, Q_FC2, Q_FW2, Q_X2_, Q_X6_⟩ hb_ hon hoff
                refine ⟨_, rfl, fun K hK => ?_⟩
                have e58 : a.tmps[58]? = some (.pointer (some ⟨gx, 1, none⟩)) := by rw [ha]; exact putSel_on (e := (10, 58, .pointer (some ⟨gx, 1, none⟩))) 9 rfl rfl (hon 10 (by kernel_rfl)) rfl
                have e56 : a.tmps[56]? = some (vw1) := by rw [ha]; exact putSel_on (e := (7, 56, vw1)) 7 rfl rfl (hon 7 (by kernel_rfl)) rfl
                replace ha := Aside0.mk ha
                have HB5 := Aside0.mk Q_HB5
                have FX1 := Aside0.mk (Q_FX1 (hon 9 (by kernel_rfl)) hb_)
                have FC2 := Aside0.mk (Q_FC2 (hon 7 (by kernel_rfl)))
                have FW2 := Aside0.mk (Q_FW2 (hon 7 (by kernel_rfl)))
                obtain ⟨Aw_, cw_, rfl⟩ := Kd.R_slice FW2.out
                have c_ := (blk_cell FX1.out 1).trans rfl
                have f_ := blk_frozen FX1.out 1
                refine skip_ (w1 := ?_) (by rfl) rfl ?_ ?_
                rotate_left
                · go_simp
                  rfl
                refine hK.out _ _ ⟨gA, gB, vc1, (.slice Aw_ (ws ++ [0]).length cw_), m2_, m6_, (by rw [ha.out]; exact putSel_none (v := undef) rfl), (HB5.out.setCell (p := ⟨gx, 1, none⟩) HGX.out _), fun h0_ => absurd ((hon 9 (by kernel_rfl)).symm.trans h0_) (by decide), fun _ h1_ => absurd ((up_self b 11).symm.trans h1_) (by decide), fun _ => (blk_put FX1.out 1 _ (by simp)), fun _ h1_ => absurd ((hon 3 (by kernel_rfl)).symm.trans h1_) (by decide), fun _ h1_ => absurd ((hon 7 (by kernel_rfl)).symm.trans h1_) (by decide), fun _ h1_ => absurd ((hon 3 (by kernel_rfl)).symm.trans h1_) (by decide), fun h0_ => absurd ((hon 3 (by kernel_rfl)).symm.trans h0_) (by decide), fun h0_ => absurd ((hon 3 (by kernel_rfl)).symm.trans h0_) (by decide), fun _ h1_ => absurd ((hon 7 (by kernel_rfl)).symm.trans h1_) (by decide), fun _ h1_ => absurd ((hon 7 (by kernel_rfl)).symm.trans h1_) (by decide), fun _ => (Kd.R_mono (Kd.R_far (p := ⟨gx, 1, none⟩) (Kd.R_types FC2.out FX1.out (by decide)) (fun j hj => hj.2) _) (fun j hj => hj.1)), fun _ => (Kd.R_mono (Kd.R_far (p := ⟨gx, 1, none⟩) (Kd.R_types FW2.out FX1.out (by decide)) (fun j hj => hj.2) _) (fun j hj => hj.1)), Q_X2_, Q_X6_⟩
              exact steps_nil
            rintro b a w' hall ⟨gA, gB, vc1, vw1, m2_, m6_, ha, Q_HB5, Q_FX, Q_FX1, Q_FX2, Q_FA, Q_FB, Q_N1, Q_FC, Q_FW, Q_FC1, Q_FW1, Q_FC2, Q_FW2, Q_X2_, Q_X6_⟩
            clear FC FW FX HB5
            have hb0_ := hall 0 (by kernel_rfl)
            have hb1_ := hall 1 (by kernel_rfl)
            have hb2_ := hall 2 (by kernel_rfl)
            have hb3_ := hall 3 (by kernel_rfl)
            have hb4_ := hall 4 (by kernel_rfl)
            have hb5_ := hall 5 (by kernel_rfl)
            have hb6_ := hall 6 (by kernel_rfl)
            have hb7_ := hall 7 (by kernel_rfl)
            have hb8_ := hall 8 (by kernel_rfl)
            have hb9_ := hall 9 (by kernel_rfl)
            have hb10_ := hall 10 (by kernel_rfl)
            have hb11_ := hall 11 (by kernel_rfl)
            subst ha
            obtain rfl := Q_X2_ hb2_
            obtain rfl := Q_X6_ hb6_
            simp only [putSel, hb0_, hb1_, hb2_, hb3_, hb4_, hb5_, hb6_, hb7_, hb8_, hb9_, hb10_, hb11_, if_true, Act.put, List.setIfInBounds_toArray, List.set_cons_zero, List.set_cons_succ]
            have HB5 := Aside0.mk Q_HB5
            clear Q_HB5
            clear Q_FX
            clear Q_FX1
            have FX2 := Aside0.mk (Q_FX2 hb11_)
            clear Q_FX2
            clear Q_FA
            clear Q_FB
            clear Q_N1
            clear Q_FC
            clear Q_FW
            clear Q_FC1
            clear Q_FW1
            have FC2 := Aside0.mk (Q_FC2 hb7_)
            clear Q_FC2
            have FW2 := Aside0.mk (Q_FW2 hb7_)
            clear Q_FW2
            clear hall hb0_ hb1_ hb2_ hb3_ hb4_ hb5_ hb6_ hb7_ hb8_ hb9_ hb10_ hb11_
            go_wp2_with (fail)
            all_goals
              go_roundg (K - (t + 1))
              case measure => have := HLT2.out; omega
              case rel => exact ⟨t + 1, vc1, vw1, HLT2.out.1, Nat.le_refl _, by rw [w64_succ t (by have := HLT2.out.1; have := HSZ0.out; omega)], HB5, FX2, ⟨by rw [HNX.out]; exact FC2.out⟩, ⟨by rw [HNX.out]; exact FW2.out⟩⟩
        · have hltb2 : decide ((t : Int) < (K : Int)) = false := decide_eq_false (by omega)
          have hltc2 : decide (t < K) = false := decide_eq_false hlt2
          obtain rfl : t = K := by omega
          have hc0 := (blk_cell FX.out 0).trans rfl
          have hc1 := (blk_cell FX.out 1).trans rfl
          have HTAB := Aside0.mk (show k63.M w7 w.heap.size (fun j => w6.heap.size ≤ j) (leafN t s) [vc, vw] from node_M HB.out.size FC.out FW.out)
          have HNW := Aside0.mk (Kd.S_below (Kd.S_mono (Kd.S_bound HN.out) (ok' := fun j => w.heap.size ≤ j ∧ ¬ w6.heap.size ≤ j) (fun j hj => ⟨hj.1, by have := hj.2.2.1; omega⟩)) HB5.out)
          have HOW := Aside0.mk (Kd.S_lt HN.out)
          have HBW := Aside0.mk (HB.out.trans (HB5.out.mono HB.out.size))
          have HGE := Aside0.mk HB.out.size
          clear hlt2 hgg2 ht FX FC FW HN HB HB5
          go_wp2_with (first | ((with_reducible refine gate_builtin (b := .append) (xs := #[.tmp 59, .tmp 61]) rfl ?_); at_builtin; refine Kd.S_append k63 (w0 := w) w.heap.size rfl (.tmp 59) (.tmp 61) 60 63 (.agg #[.slice none 0 0, .slice none 0 0]) 48 rfl Try.underlying60 info63 rfl (by decide) (by omega) u9 ((L.take m).map (leafN t)) (leafN t s) [vc, vw] (fun j => w.heap.size ≤ j) (fun j => w6.heap.size ≤ j) rfl rfl HTAB.out ?aK ?aF HNW.out HBW.out HBW.out.size ?aL ?_; (case aK => exact (fun j hj => ⟨Nat.le_trans HGE.out hj, fun e_ => by have := HOW.out j e_.symm; omega⟩)); (case aF => exact (fun j hj => Nat.le_trans HBW.out.size hj)); (case aL => rw [List.length_map, List.length_take]; have := HSZ0.out; omega); intro v2 w8 ho hb hg hat; have HN8 := Aside0.mk ho; have HB8 := Aside0.mk hb; clear ho hb hg hat))
          all_goals
            go_roundg (L.length - (m + 1))
            case measure => have := HLT.out; omega
            case rel => exact ⟨m + 1, HLT.out.1, Nat.le_refl _, by rw [w64_succ m (by have := HLT.out.1; have := HSZ0.out; omega)], HB8, ⟨by
              rw [List.take_succ_eq_append_getElem HLT.out.1, List.map_append, List.map_singleton]
              have e_ : L[m]'(HLT.out.1) = s := by rw [← HS.out]; unfold rd; simp [HLT.out.1]
              rw [e_]; exact HN8.out⟩⟩
    · have hltb : decide ((m : Int) < (L.length : Int)) = false := decide_eq_false (by omega)
      have hltc : decide (m < L.length) = false := decide_eq_false hlt
      obtain rfl : m = L.length := by omega
      have HN0 := Aside0.mk (show Kd.S k63 63 w6 w.heap.size (fun j => w.heap.size ≤ j) u9 (L.map (leafN K)) by have h_ := HN.out; rw [List.take_length] at h_; exact h_)
      clear HN hlt hgg hm
      go_wp2_with (fail)
      clear hltb hltc
      go_loopg [9, 13] J.length (fun gg v9 v13 w' => ∃ (m : Nat) (out : List S63), m ≤ J.length ∧ J.length - m ≤ gg ∧ v13 = .int .i64 m ∧ Aside0 (nr k C J (J.length - m) m out = some r) ∧ Aside0 (out.length = L.length + m) ∧ Aside0 (Below w.heap.size w w') ∧ Aside0 (Kd.S k63 63 w' w.heap.size (fun j => w.heap.size ≤ j) v9 out))
      case atStart => exact ⟨0, _, Nat.zero_le _, by omega, rfl, HNR, ⟨by simp⟩, HB, HN0⟩
      case round =>
        clear HNR HB HN0
        obtain ⟨m, out, hm, hgg, rfl, HNR, HOL, HB, HN⟩ := hrel
        rename World => w6
        by_cases hlt : m < J.length
        · have hltb : decide ((m : Int) < (J.length : Int)) = true := decide_eq_true (by omega)
          have hltc : decide (m < J.length) = true := decide_eq_true hlt
          have hnr := HNR.out
          rw [show J.length - m = (J.length - (m + 1)) + 1 by omega] at hnr
          obtain ⟨xn, hjr, hnr⟩ := Option.bind_eq_some_iff.mp hnr
          have HNX := Aside0.mk hnr
          obtain ⟨ja, hja⟩ : ∃ z, (rd_T67 J m).f0 = z := ⟨_, rfl⟩
          obtain ⟨jb, hjb⟩ : ∃ z, (rd_T67 J m).f1 = z := ⟨_, rfl⟩
          rw [hja, hjb, HK.out] at hjr
          have HBD := Aside0.mk (HJ.out m hlt)
          rw [hja, hjb] at HBD
          have HJA := Aside0.mk (And.intro hja hjb)
          obtain ⟨X, hX⟩ : ∃ X, rd_T63 out ja = X := ⟨_, rfl⟩
          obtain ⟨Y, hY⟩ : ∃ Y, rd_T63 out jb = Y := ⟨_, rfl⟩
          rw [hX, hY] at hjr
          have HXY := Aside0.mk (And.intro hX hY)
          have HJR := Aside0.mk hjr
          have HLT := Aside0.mk (And.intro hlt hgg)
          obtain ⟨A9, c9, e9⟩ := Kd.S_slice HN.out
          subst e9
          clear hlt hgg hm hnr hjr hja hjb hX hY HNR
          go_wp2_with (fail)
          obtain ⟨w7, hw7⟩ : ∃ W, w6.alloc (.cells #[.slice none 0 0, .slice none 0 0] 63) = W := ⟨_, rfl⟩
          have HX7 := Aside0.mk (show w7.heap[w6.heap.size]? = some (.cells #[.slice none 0 0, .slice none 0 0] 63 (0, 0)) by rw [← hw7]; exact blk_new _ _)
          have HB7 := Aside0.mk (show Below w6.heap.size w6 w7 by rw [← hw7]; exact below_alloc (Below.refl _ _) _)
          rw [hw7]
          clear hw7
          obtain ⟨gx, hgx⟩ : ∃ g, w6.heap.size = g := ⟨_, rfl⟩
          have HGX := Aside0.mk (Nat.le_of_eq hgx)
          rw [hgx] at HX7 ⊢
          clear hgx
          go_loopg [15] K (fun gg v15 w' => ∃ (s : Nat) (vc vw : Value) (cs ws : List Int), s ≤ K ∧ K - s ≤ gg ∧ v15 = .int .i64 s ∧ Aside0 (Below w6.heap.size w6 w') ∧ Aside0 (w'.heap[gx]? = some (.cells #[vc, vw] 63 (0, 0))) ∧ Aside0 (Kd.R (Kd.int .i64) 3 w' w6.heap.size (fun j => True ∧ some j ≠ Value.ownBlock vw) vc cs) ∧ Aside0 (Kd.R (Kd.int .i64) 3 w' w6.heap.size (fun j => True ∧ some j ≠ Value.ownBlock vc) vw ws) ∧ Aside0 (jr k X Y C (K - s) s cs ws = some xn) ∧ Aside0 (cs.length = s ∧ ws.length = s))
          case atStart => exact ⟨0, _, _, [], [], Nat.zero_le _, by omega, rfl, HB7, HX7, ⟨Kd.R_nil _ _ _ _ _⟩, ⟨Kd.R_nil _ _ _ _ _⟩, HJR, ⟨rfl, rfl⟩⟩
          case round =>
            clear HB7 HX7 HJR
            obtain ⟨s, vc, vw, cs, ws, hs, hgg2, rfl, HB5, FX, FC, FW, HJR, HCW⟩ := hrel
            rename World => w7
            by_cases hlt2 : s < K
            · have hltb2 : decide ((s : Int) < (K : Int)) = true := decide_eq_true (by omega)
              have hltc2 : decide (s < K) = true := decide_eq_true hlt2
              have HLT2 := Aside0.mk (And.intro hlt2 hgg2)
              have HSZ := Aside0.mk (show cs.length ≤ 100 ∧ ws.length ≤ 100 by have := HCW.out; omega)
              have hjr := HJR.out
              rw [show K - s = (K - (s + 1)) + 1 by omega] at hjr
              obtain ⟨⟨b1, b2⟩, hb1, hjr⟩ := Option.bind_eq_some_iff.mp hjr
              obtain ⟨⟨e1, e2⟩, hb2, hjr⟩ := Option.bind_eq_some_iff.mp hjr
              have HJN := Aside0.mk hjr
              have HBE1 := Aside0.mk hb1
              have HBE2 := Aside0.mk hb2
              have HBW := Aside0.mk (HB.out.trans (HB5.out.mono HB.out.size))
              obtain ⟨adj, ej, hj0, hj1⟩ := at_T67 (Kd.C_below HJ0.out HBW.out) (m : Int) (by omega) (by have := HLT.out.1; omega)
              cases ej
              rw [HJA.out.1, Int.toNat_natCast] at hj0
              rw [HJA.out.2, Int.toNat_natCast] at hj1
              have hrd := Kd.C_below (Kd.S_reads' HN.out).2.2 HB5.out
              have hbd := HBD.out
              have hol := HOL.out
              obtain ⟨ado, AX0, cX0, AX1, cX1, eo, hx0, hx1, lx0, gx0, lx1, gx1⟩ := at_T63 hrd ja hbd.1 (by omega)
              cases eo
              obtain ⟨ado2, AY0, cY0, AY1, cY1, eo2, hy0, hy1, ly0, gy0, ly1, gy1⟩ := at_T63 hrd jb hbd.2.2.1 (by omega)
              cases eo2
              rw [HXY.out.1] at hx0 hx1 lx0 gx0 lx1 gx1
              rw [HXY.out.2] at hy0 hy1 ly0 gy0 ly1 gy1
              obtain ⟨adc, AC, cC, ec, hz0, lc, gc⟩ := at_L3 (Kd.C_below HC0.out HBW.out) (s : Int) (by omega) (by omega)
              cases ec
              rw [Int.toNat_natCast] at hz0
              have GX := Aside0.mk (And.intro gx0 (And.intro gx1 (And.intro gy0 (And.intro gy1 gc))))
              have LX := Aside0.mk (And.intro lx0 (And.intro lx1 (And.intro ly0 (And.intro ly1 lc))))
              have HZ := Aside0.mk (fun (W : World) (h : Below w7.heap.size w7 W) => And.intro ((h.cell (World.block_lt_of_cell? _ _ hj0)).trans hj0) (And.intro ((h.cell (World.block_lt_of_cell? _ _ hj1)).trans hj1) (And.intro ((h.cell (World.block_lt_of_cell? _ _ hx0)).trans hx0) (And.intro ((h.cell (World.block_lt_of_cell? _ _ hx1)).trans hx1) (And.intro ((h.cell (World.block_lt_of_cell? _ _ hy0)).trans hy0) (And.intro ((h.cell (World.block_lt_of_cell? _ _ hy1)).trans hy1) ((h.cell (World.block_lt_of_cell? _ _ hz0)).trans hz0)))))))
              have p0 : (0 ≤ (m : Int)) = True := eq_true (by omega)
              have p1 : ((m : Int) < (J.length : Int)) = True := eq_true (by have := HLT.out.1; omega)
              have p2 : (0 ≤ ja) = True := eq_true hbd.1
              have p3 : (ja < (out.length : Int)) = True := eq_true (by omega)
              have p4 : (0 ≤ jb) = True := eq_true hbd.2.2.1
              have p5 : (jb < (out.length : Int)) = True := eq_true (by omega)
              have p6 : (0 ≤ (s : Int)) = True := eq_true (by omega)
              have p7 : ((s : Int) < (K : Int)) = True := eq_true (by omega)
              clear hlt2 hgg2 hs hjr hb1 hb2 hrd hbd hol lx0 gx0 lx1 gx1 ly0 gy0 ly1 gy1 lc gc
              go_wp2_with (fail)
              go_region_held3 (fun w' => w'.cell? (adj.add (m * 2)) = some (.int .i64 ja) ∧ w'.cell? (ado.add (ja.toNat * 2)) = some (.slice AX0 X.f0.length cX0) ∧ w'.cell? ⟨(ado.add (ja.toNat * 2)).block, (ado.add (ja.toNat * 2)).off + 1, none⟩ = some (.slice AX1 X.f1.length cX1) ∧ w'.cell? (adc.add s) = some (.slice AC (rd_L3 C s).length cC)) (first | go_keep | (have hz_ := HZ.out _ (below_step (below_drew1 (Below.refl _ w7)) hb); exact ⟨hz_.1, hz_.2.2.1, hz_.2.2.2.1, hz_.2.2.2.2.2.2⟩))
                (first | (go_simp; go_at_call 60; (with_reducible refine (woggleref02_Best.calls k AX0 cX0 X.f0 AX1 cX1 X.f1 AC cC (rd_L3 C s) b1 b2 _ (Kd.C_drew GX.out.1) LX.out.1 (Kd.C_drew GX.out.2.1) LX.out.2.1 (Kd.C_drew GX.out.2.2.2.2) LX.out.2.2.2.2 HBE1.out).mono ?_); rintro e w8 ⟨rfl, hb⟩))
              have HB8 := Aside0.mk (below_step (below_drew1 (Below.refl w7.heap.size w7)) hb)
              clear hb hj0 hj1 hx0 hx1 hy0 hy1 hz0
              obtain ⟨hj0, hj1, hx0, hx1, hy0, hy1, hz0⟩ := HZ.out _ HB8.out
              go_wp2_with (fail)
              go_region_held3 (fun w' => w'.cell? ⟨(adj.add (m * 2)).block, (adj.add (m * 2)).off + 1, none⟩ = some (.int .i64 jb) ∧ w'.cell? (ado.add (jb.toNat * 2)) = some (.slice AY0 Y.f0.length cY0) ∧ w'.cell? ⟨(ado.add (jb.toNat * 2)).block, (ado.add (jb.toNat * 2)).off + 1, none⟩ = some (.slice AY1 Y.f1.length cY1) ∧ w'.cell? (adc.add s) = some (.slice AC (rd_L3 C s).length cC)) (first | go_keep | (have hz_ := HZ.out _ (HB8.out.trans (Below.mono (below_step (below_drew1 (Below.refl _ w8)) hb) HB8.out.size)); exact ⟨hz_.2.1, hz_.2.2.2.2.1, hz_.2.2.2.2.2.1, hz_.2.2.2.2.2.2⟩))
                (first | (go_simp; go_at_call 60; (with_reducible refine (woggleref02_Best.calls k AY0 cY0 Y.f0 AY1 cY1 Y.f1 AC cC (rd_L3 C s) e1 e2 _ (Kd.C_drew (Kd.C_below GX.out.2.2.1 HB8.out)) LX.out.2.2.1 (Kd.C_drew (Kd.C_below GX.out.2.2.2.1 HB8.out)) LX.out.2.2.2.1 (Kd.C_drew (Kd.C_below GX.out.2.2.2.2 HB8.out)) LX.out.2.2.2.2 HBE2.out).mono ?_); rintro e w9 ⟨rfl, hb⟩))
              have HB9 := Aside0.mk (HB8.out.trans (Below.mono (below_step (below_drew1 (Below.refl w8.heap.size w8)) hb) HB8.out.size))
              clear hb hj0 hj1 hx0 hx1 hy0 hy1 hz0 p0 p1 p2 p3 p4 p5 p6 p7
              go_wp2_with (fail)
              replace HB5 := Aside0.mk (HB5.out.trans (HB9.out.mono HB5.out.size))
              replace FX := Aside0.mk (blk_below FX.out HB9.out)
              replace FC := Aside0.mk (Kd.R_below FC.out HB9.out)
              replace FW := Aside0.mk (Kd.R_below FW.out HB9.out)
              refine start_ (n := 18) (S := fun w' => True) (ds := []) #[false, false, false, false, false, false, false, false, false, false, false, false, false, false, false, false, false, false] (by kernel_rfl) rfl rfl trivial (fun hHeld => ?_)
              refine with_tabW nodes.tab22 nodes.bits22 (fun HT_ HW_ => ?_)
              replace HB5 := Aside0.mk (below_drew1 HB5.out)
              replace FX := Aside0.mk (blk_drew FX.out)
              replace FC := Aside0.mk (Kd.R_drew FC.out)
              replace FW := Aside0.mk (Kd.R_drew FW.out)
              generalize w9.drew = w3 at HB5 FX FC FW hHeld ⊢
              refine inv_at [0, 1, 2, 3, 4, 5, 6, 7, 8, 9, 10, 11, 12, 13, 14, 15, 16, 17] (fun a0_ b a w' => ∃ (gA : Nat) (gB : Nat) (vc1 : Value) (vw1 : Value) (m5_ : Value) (m12_ : Value), a = putSel a0_ b [(0, 108, .pointer (some ⟨gx, 0, none⟩)), (1, 109, vc), (2, 110, .int .i64 b1), (3, 111, .int .i64 e1), (4, 112, .int .i64 (wrap64 (b1 + e1))), (5, 113, m5_), (6, 114, vc1), (7, 115, .pointer (some ⟨gx, 1, none⟩)), (8, 116, vw), (9, 117, .int .i64 b2), (10, 118, .int .i64 e2), (11, 119, .int .i64 (wrap64 (b2 * e2))), (12, 120, m12_), (13, 121, vw1), (14, 122, .pointer (some ⟨gx, 0, none⟩)), (16, 123, .pointer (some ⟨gx, 1, none⟩))] ∧ (Below w6.heap.size w6 w') ∧ (b 15 = false → w'.heap[gx]? = some (.cells #[vc, vw] 63 (0, 0))) ∧ (b 15 = true → b 17 = false → w'.heap[gx]? = some (.cells #[vc1, vw] 63 (0, 0))) ∧ (b 17 = true → w'.heap[gx]? = some (.cells #[vc1, vw1] 63 (0, 0))) ∧ (b 5 = true → b 6 = false → Blk w' w6.heap.size gA (ints [wrap64 (b1 + e1)])) ∧ (b 12 = true → b 13 = false → Blk w' w6.heap.size gB (ints [wrap64 (b2 * e2)])) ∧ (b 12 = true → b 6 = false → some gB ≠ Value.ownBlock vc) ∧ (b 6 = false → Kd.R (Kd.int .i64) 3 w' w6.heap.size (fun j => True ∧ some j ≠ Value.ownBlock vw) vc cs) ∧ (b 6 = false → Kd.R (Kd.int .i64) 3 w' w6.heap.size (fun j => True ∧ some j ≠ Value.ownBlock vc) vw ws) ∧ (b 6 = true → b 13 = false → Kd.R (Kd.int .i64) 3 w' w6.heap.size (fun j => True ∧ some j ≠ Value.ownBlock vw) vc1 (cs ++ [wrap64 (b1 + e1)])) ∧ (b 6 = true → b 13 = false → Kd.R (Kd.int .i64) 3 w' w6.heap.size (fun j => True ∧ some j ≠ Value.ownBlock vc1) vw ws) ∧ (b 13 = true → Kd.R (Kd.int .i64) 3 w' w6.heap.size (fun j => True ∧ some j ≠ Value.ownBlock vw1) vc1 (cs ++ [wrap64 (b1 + e1)])) ∧ (b 13 = true → Kd.R (Kd.int .i64) 3 w' w6.heap.size (fun j => True ∧ some j ≠ Value.ownBlock vc1) vw1 (ws ++ [wrap64 (b2 * e2)])) ∧ (b 5 = true → (m5_ : Value) = .slice (some ⟨gA, 0, none⟩) 1 1) ∧ (b 12 = true → (m12_ : Value) = .slice (some ⟨gB, 0, none⟩) 1 1)) HT_.out HW_.out (by kernel_rfl) (by kernel_rfl) ?_ ?_ ?_
              · exact ⟨0, 0, .bool false, .bool false, .bool false, .bool false, by simp only [putSel, Bool.false_eq_true, if_false], HB5.out, fun _ => FX.out, fun h_ => absurd h_ (by decide), fun h_ => absurd h_ (by decide), fun h_ => absurd h_ (by decide), fun h_ => absurd h_ (by decide), fun h_ => absurd h_ (by decide), fun _ => FC.out, fun _ => FW.out, fun h_ => absurd h_ (by decide), fun h_ => absurd h_ (by decide), fun h_ => absurd h_ (by decide), fun h_ => absurd h_ (by decide), fun h_ => absurd h_ (by decide), fun h_ => absurd h_ (by decide)⟩
              · skip
                clear FC FW FX HB5
                refine steps_cons ?_ ?_
                · rintro b a w' ⟨gA, gB, vc1, vw1, m5_, m12_, ha, Q_HB5, Q_FX, Q_FX1, Q_FX2, Q_FA, Q_FB, Q_N1, Q_FC, Q_FW, Q_FC1, Q_FW1, Q_FC2, Q_FW2, Q_X5_, Q_X12_⟩ hb_ hon hoff
                  refine ⟨_, rfl, fun K hK => ?_⟩
                  have e14 : a.tmps[14]? = some (.pointer (some ⟨gx, 0, none⟩)) := by rw [ha]; exact (putSel_off rfl).trans rfl
                  replace ha := Aside0.mk ha
                  have HB5 := Aside0.mk Q_HB5
                  have FX := Aside0.mk (Q_FX (hoff 15 (by kernel_rfl)))
                  have FC := Aside0.mk (Q_FC (hoff 6 (by kernel_rfl)))
                  have FW := Aside0.mk (Q_FW (hoff 6 (by kernel_rfl)))
                  refine value_ (w1 := w') (v := .pointer (some ⟨gx, 0, none⟩)) (by rfl) rfl ?_ ?_
                  · go_simp
                    (try simp only [i64_w])
                    try rfl
                  refine hK.out _ _ ⟨gA, gB, vc1, vw1, m5_, m12_, (by rw [ha.out]; exact putSel_upk 0 hb_ rfl rfl rfl), Q_HB5, Q_FX, fun h0_ _ => absurd ((hoff 15 (by kernel_rfl)).symm.trans h0_) (by decide), fun h0_ => absurd ((hoff 17 (by kernel_rfl)).symm.trans h0_) (by decide), Q_FA, Q_FB, Q_N1, Q_FC, Q_FW, fun h0_ _ => absurd ((hoff 6 (by kernel_rfl)).symm.trans h0_) (by decide), fun h0_ _ => absurd ((hoff 6 (by kernel_rfl)).symm.trans h0_) (by decide), fun h0_ => absurd ((hoff 13 (by kernel_rfl)).symm.trans h0_) (by decide), fun h0_ => absurd ((hoff 13 (by kernel_rfl)).symm.trans h0_) (by decide), Q_X5_, Q_X12_⟩
                refine steps_cons ?_ ?_
                · rintro b a w' ⟨gA, gB, vc1, vw1, m5_, m12_, ha, Q_HB5, Q_FX, Q_FX1, Q_FX2, Q_FA, Q_FB, Q_N1, Q_FC, Q_FW, Q_FC1, Q_FW1, Q_FC2, Q_FW2, Q_X5_, Q_X12_⟩ hb_ hon hoff
                  refine ⟨_, rfl, fun K hK => ?_⟩
                  have e108 : a.tmps[108]? = some (.pointer (some ⟨gx, 0, none⟩)) := by rw [ha]; exact putSel_on (e := (0, 108, .pointer (some ⟨gx, 0, none⟩))) 0 rfl rfl (hon 0 (by kernel_rfl)) rfl
                  replace ha := Aside0.mk ha
                  have HB5 := Aside0.mk Q_HB5
                  have FX := Aside0.mk (Q_FX (hoff 15 (by kernel_rfl)))
                  have FC := Aside0.mk (Q_FC (hoff 6 (by kernel_rfl)))
                  have FW := Aside0.mk (Q_FW (hoff 6 (by kernel_rfl)))
                  have c_ := (blk_cell FX.out 0).trans rfl
                  refine value_ (w1 := w') (v := vc) (by rfl) rfl ?_ ?_
                  · go_simp
                    (try simp only [i64_w])
                    try rfl
                  refine hK.out _ _ ⟨gA, gB, vc1, vw1, m5_, m12_, (by rw [ha.out]; exact putSel_upk 1 hb_ rfl rfl rfl), Q_HB5, Q_FX, fun h0_ _ => absurd ((hoff 15 (by kernel_rfl)).symm.trans h0_) (by decide), fun h0_ => absurd ((hoff 17 (by kernel_rfl)).symm.trans h0_) (by decide), Q_FA, Q_FB, Q_N1, Q_FC, Q_FW, fun h0_ _ => absurd ((hoff 6 (by kernel_rfl)).symm.trans h0_) (by decide), fun h0_ _ => absurd ((hoff 6 (by kernel_rfl)).symm.trans h0_) (by decide), fun h0_ => absurd ((hoff 13 (by kernel_rfl)).symm.trans h0_) (by decide), fun h0_ => absurd ((hoff 13 (by kernel_rfl)).symm.trans h0_) (by decide), Q_X5_, Q_X12_⟩
                refine steps_cons ?_ ?_
                · rintro b a w' ⟨gA, gB, vc1, vw1, m5_, m12_, ha, Q_HB5, Q_FX, Q_FX1, Q_FX2, Q_FA, Q_FB, Q_N1, Q_FC, Q_FW, Q_FC1, Q_FW1, Q_FC2, Q_FW2, Q_X5_, Q_X12_⟩ hb_ hon hoff
                  refine ⟨_, rfl, fun K hK => ?_⟩
                  have e16 : a.tmps[16]? = some (.int .i64 b1) := by rw [ha]; exact (putSel_off rfl).trans rfl
                  replace ha := Aside0.mk ha
                  have HB5 := Aside0.mk Q_HB5
                  have FX := Aside0.mk (Q_FX (hoff 15 (by kernel_rfl)))
                  have FC := Aside0.mk (Q_FC (hoff 6 (by kernel_rfl)))
                  have FW := Aside0.mk (Q_FW (hoff 6 (by kernel_rfl)))
                  refine value_ (w1 := w') (v := .int .i64 b1) (by rfl) rfl ?_ ?_
                  · go_simp
                    (try simp only [i64_w])
                    try rfl
                  refine hK.out _ _ ⟨gA, gB, vc1, vw1, m5_, m12_, (by rw [ha.out]; exact putSel_upk 2 hb_ rfl rfl rfl), Q_HB5, Q_FX, fun h0_ _ => absurd ((hoff 15 (by kernel_rfl)).symm.trans h0_) (by decide), fun h0_ => absurd ((hoff 17 (by kernel_rfl)).symm.trans h0_) (by decide), fun h0_ _ => absurd ((hoff 5 (by kernel_rfl)).symm.trans h0_) (by decide), Q_FB, Q_N1, Q_FC, Q_FW, fun h0_ _ => absurd ((hoff 6 (by kernel_rfl)).symm.trans h0_) (by decide), fun h0_ _ => absurd ((hoff 6 (by kernel_rfl)).symm.trans h0_) (by decide), fun h0_ => absurd ((hoff 13 (by kernel_rfl)).symm.trans h0_) (by decide), fun h0_ => absurd ((hoff 13 (by kernel_rfl)).symm.trans h0_) (by decide), fun h0_ => absurd ((hoff 5 (by kernel_rfl)).symm.trans h0_) (by decide), Q_X12_⟩
                refine steps_cons ?_ ?_
                · rintro b a w' ⟨gA, gB, vc1, vw1, m5_, m12_, ha, Q_HB5, Q_FX, Q_FX1, Q_FX2, Q_FA, Q_FB, Q_N1, Q_FC, Q_FW, Q_FC1, Q_FW1, Q_FC2, Q_FW2, Q_X5_, Q_X12_⟩ hb_ hon hoff
                  refine ⟨_, rfl, fun K hK => ?_⟩
                  have e18 : a.tmps[18]? = some (.int .i64 e1) := by rw [ha]; exact (putSel_off rfl).trans rfl
                  replace ha := Aside0.mk ha
                  have HB5 := Aside0.mk Q_HB5
                  have FX := Aside0.mk (Q_FX (hoff 15 (by kernel_rfl)))
                  have FC := Aside0.mk (Q_FC (hoff 6 (by kernel_rfl)))
                  have FW := Aside0.mk (Q_FW (hoff 6 (by kernel_rfl)))
                  refine value_ (w1 := w') (v := .int .i64 e1) (by rfl) rfl ?_ ?_
                  · go_simp
                    (try simp only [i64_w])
                    try rfl
                  refine hK.out _ _ ⟨gA, gB, vc1, vw1, m5_, m12_, (by rw [ha.out]; exact putSel_upk 3 hb_ rfl rfl rfl), Q_HB5, Q_FX, fun h0_ _ => absurd ((hoff 15 (by kernel_rfl)).symm.trans h0_) (by decide), fun h0_ => absurd ((hoff 17 (by kernel_rfl)).symm.trans h0_) (by decide), fun h0_ _ => absurd ((hoff 5 (by kernel_rfl)).symm.trans h0_) (by decide), Q_FB, Q_N1, Q_FC, Q_FW, fun h0_ _ => absurd ((hoff 6 (by kernel_rfl)).symm.trans h0_) (by decide), fun h0_ _ => absurd ((hoff 6 (by kernel_rfl)).symm.trans h0_) (by decide), fun h0_ => absurd ((hoff 13 (by kernel_rfl)).symm.trans h0_) (by decide), fun h0_ => absurd ((hoff 13 (by kernel_rfl)).symm.trans h0_) (by decide), fun h0_ => absurd ((hoff 5 (by kernel_rfl)).symm.trans h0_) (by decide), Q_X12_⟩
                refine steps_cons ?_ ?_
                · rintro b a w' ⟨gA, gB, vc1, vw1, m5_, m12_, ha, Q_HB5, Q_FX, Q_FX1, Q_FX2, Q_FA, Q_FB, Q_N1, Q_FC, Q_FW, Q_FC1, Q_FW1, Q_FC2, Q_FW2, Q_X5_, Q_X12_⟩ hb_ hon hoff
                  refine ⟨_, rfl, fun K hK => ?_⟩
                  have e110 : a.tmps[110]? = some (.int .i64 b1) := by rw [ha]; exact putSel_on (e := (2, 110, .int .i64 b1)) 2 rfl rfl (hon 2 (by kernel_rfl)) rfl
                  have e111 : a.tmps[111]? = some (.int .i64 e1) := by rw [ha]; exact putSel_on (e := (3, 111, .int .i64 e1)) 3 rfl rfl (hon 3 (by kernel_rfl)) rfl
                  replace ha := Aside0.mk ha
                  have HB5 := Aside0.mk Q_HB5
                  have FX := Aside0.mk (Q_FX (hoff 15 (by kernel_rfl)))
                  have FC := Aside0.mk (Q_FC (hoff 6 (by kernel_rfl)))
                  have FW := Aside0.mk (Q_FW (hoff 6 (by kernel_rfl)))
                  refine value_ (w1 := w') (v := .int .i64 (wrap64 (b1 + e1))) (by rfl) rfl ?_ ?_
                  · go_simp
                    (try simp only [i64_w])
                    try rfl
                  refine hK.out _ _ ⟨gA, gB, vc1, vw1, m5_, m12_, (by rw [ha.out]; exact putSel_upk 4 hb_ rfl rfl rfl), Q_HB5, Q_FX, fun h0_ _ => absurd ((hoff 15 (by kernel_rfl)).symm.trans h0_) (by decide), fun h0_ => absurd ((hoff 17 (by kernel_rfl)).symm.trans h0_) (by decide), fun h0_ _ => absurd ((hoff 5 (by kernel_rfl)).symm.trans h0_) (by decide), Q_FB, Q_N1, Q_FC, Q_FW, fun h0_ _ => absurd ((hoff 6 (by kernel_rfl)).symm.trans h0_) (by decide), fun h0_ _ => absurd ((hoff 6 (by kernel_rfl)).symm.trans h0_) (by decide), fun h0_ => absurd ((hoff 13 (by kernel_rfl)).symm.trans h0_) (by decide), fun h0_ => absurd ((hoff 13 (by kernel_rfl)).symm.trans h0_) (by decide), fun h0_ => absurd ((hoff 5 (by kernel_rfl)).symm.trans h0_) (by decide), Q_X12_⟩
                refine steps_cons ?_ ?_
                · rintro b a w' ⟨gA, gB, vc1, vw1, m5_, m12_, ha, Q_HB5, Q_FX, Q_FX1, Q_FX2, Q_FA, Q_FB, Q_N1, Q_FC, Q_FW, Q_FC1, Q_FW1, Q_FC2, Q_FW2, Q_X5_, Q_X12_⟩ hb_ hon hoff
                  refine ⟨_, rfl, fun K hK => ?_⟩
                  have e112 : a.tmps[112]? = some (.int .i64 (wrap64 (b1 + e1))) := by rw [ha]; exact putSel_on (e := (4, 112, .int .i64 (wrap64 (b1 + e1)))) 4 rfl rfl (hon 4 (by kernel_rfl)) rfl
                  replace ha := Aside0.mk ha
                  have HB5 := Aside0.mk Q_HB5
                  have FX := Aside0.mk (Q_FX (hoff 15 (by kernel_rfl)))
                  have FC := Aside0.mk (Q_FC (hoff 6 (by kernel_rfl)))
                  have FW := Aside0.mk (Q_FW (hoff 6 (by kernel_rfl)))
                  refine value_ (w1 := ?_) (v := ?_) (by rfl) rfl ?_ ?_
                  rotate_left 2
                  · go_simp
                    constructor
                    · rfl
                    · rfl
                  refine hK.out _ _ ⟨w'.heap.size, gB, vc1, vw1, (.slice (some ⟨w'.heap.size, 0, none⟩) 1 1), m12_, (by rw [ha.out]; exact putSel_upk 5 hb_ rfl rfl rfl), (below_alloc HB5.out _), fun _ => (blk_alloc FX.out _), fun h0_ _ => absurd ((hoff 15 (by kernel_rfl)).symm.trans h0_) (by decide), fun h0_ => absurd ((hoff 17 (by kernel_rfl)).symm.trans h0_) (by decide), fun _ _ => (Blk.new _ _ HB5.out.size _), fun h0_ h1_ => ((Q_FB h0_ h1_).alloc _), Q_N1, fun _ => (Kd.R_alloc FC.out _), fun _ => (Kd.R_alloc FW.out _), fun h0_ _ => absurd ((hoff 6 (by kernel_rfl)).symm.trans h0_) (by decide), fun h0_ _ => absurd ((hoff 6 (by kernel_rfl)).symm.trans h0_) (by decide), fun h0_ => absurd ((hoff 13 (by kernel_rfl)).symm.trans h0_) (by decide), fun h0_ => absurd ((hoff 13 (by kernel_rfl)).symm.trans h0_) (by decide), fun _ => rfl, Q_X12_⟩
                refine steps_cons ?_ ?_
                · rintro b a w' ⟨gA, gB, vc1, vw1, m5_, m12_, ha, Q_HB5, Q_FX, Q_FX1, Q_FX2, Q_FA, Q_FB, Q_N1, Q_FC, Q_FW, Q_FC1, Q_FW1, Q_FC2, Q_FW2, Q_X5_, Q_X12_⟩ hb_ hon hoff
                  refine ⟨_, rfl, fun K hK => ?_⟩
                  have e109 : a.tmps[109]? = some (vc) := by rw [ha]; exact putSel_on (e := (1, 109, vc)) 1 rfl rfl (hon 1 (by kernel_rfl)) rfl
                  have e113 : a.tmps[113]? = some (m5_) := by rw [ha]; exact putSel_on (e := (5, 113, m5_)) 5 rfl rfl (hon 5 (by kernel_rfl)) rfl
                  rw [Q_X5_ (hon 5 (by kernel_rfl))] at e113
                  replace ha := Aside0.mk ha
                  have HB5 := Aside0.mk Q_HB5
                  have FX := Aside0.mk (Q_FX (hoff 15 (by kernel_rfl)))
                  have FA := Aside0.mk (Q_FA (hon 5 (by kernel_rfl)) hb_)
                  have FC := Aside0.mk (Q_FC hb_)
                  have FW := Aside0.mk (Q_FW hb_)
                  refine Kd.R_append_rows_step (Kd.int .i64) (w0 := w6) (W := w') w6.heap.size (by rfl) (.tmp 109) (.tmp 113) 25 3 (.int .i64 0) 8 (by rfl) Try.underlying25 info3 (by rfl) (by decide) (by omega) vc cs [wrap64 (b1 + e1)] (some ⟨gA, 0, none⟩) 1 1 (fun j => True ∧ some j ≠ Value.ownBlock vw) (fun _ => False) (by simp only [Act.eval, Array.getD_eq_getD_getElem?, e109, Option.getD_some]) (by simp only [Act.eval, Array.getD_eq_getD_getElem?, e113, Option.getD_some]) FC.out (Kd.R_reads' (FA.out.R (by simp))).2.2 (fun _ _ h => h) (fun _ hk => hk.elim) (fun j hj => ⟨trivial, fun e_ => by have := Kd.R_lt FW.out j e_.symm; omega⟩) HB5.out HB5.out.size (by have := HSZ.out; omega) ?_
                  intro v1 w1 ho hb hg hat
                  refine hK.out _ _ ⟨gA, gB, v1, vw1, m5_, m12_, (by rw [ha.out]; exact putSel_upk 6 hb_ rfl rfl rfl), hb, fun _ => (blk_grown FX.out hg (Kd.R_ne FC.out FX.out (by decide))), fun h0_ _ => absurd ((hoff 15 (by kernel_rfl)).symm.trans h0_) (by decide), fun h0_ => absurd ((hoff 17 (by kernel_rfl)).symm.trans h0_) (by decide), fun _ h1_ => absurd ((up_self b 6).symm.trans h1_) (by decide), fun h6_ h7_ => ⟨blk_grown (Q_FB h6_ h7_).1 hg (Q_N1 h6_ hb_), (Q_FB h6_ h7_).2⟩, fun _ h1_ => absurd ((up_self b 6).symm.trans h1_) (by decide), fun h0_ => absurd ((up_self b 6).symm.trans h0_) (by decide), fun h0_ => absurd ((up_self b 6).symm.trans h0_) (by decide), fun _ _ => ho, fun _ _ => (Kd.R_after (ok := fun _ => True) FW.out hg hat), fun h0_ => absurd ((hoff 13 (by kernel_rfl)).symm.trans h0_) (by decide), fun h0_ => absurd ((hoff 13 (by kernel_rfl)).symm.trans h0_) (by decide), Q_X5_, Q_X12_⟩
                refine steps_cons ?_ ?_
                · rintro b a w' ⟨gA, gB, vc1, vw1, m5_, m12_, ha, Q_HB5, Q_FX, Q_FX1, Q_FX2, Q_FA, Q_FB, Q_N1, Q_FC, Q_FW, Q_FC1, Q_FW1, Q_FC2, Q_FW2, Q_X5_, Q_X12_⟩ hb_ hon hoff
                  refine ⟨_, rfl, fun K hK => ?_⟩
                  have e14 : a.tmps[14]? = some (.pointer (some ⟨gx, 0, none⟩)) := by rw [ha]; exact (putSel_off rfl).trans rfl
                  replace ha := Aside0.mk ha
                  have HB5 := Aside0.mk Q_HB5
                  have FX := Aside0.mk (Q_FX (hoff 15 (by kernel_rfl)))
                  refine value_ (w1 := w') (v := .pointer (some ⟨gx, 1, none⟩)) (by rfl) rfl ?_ ?_
                  · go_simp
                    (try simp only [i64_w])
                    try rfl
                  refine hK.out _ _ ⟨gA, gB, vc1, vw1, m5_, m12_, (by rw [ha.out]; exact putSel_upk 7 hb_ rfl rfl rfl), Q_HB5, Q_FX, fun h0_ _ => absurd ((hoff 15 (by kernel_rfl)).symm.trans h0_) (by decide), fun h0_ => absurd ((hoff 17 (by kernel_rfl)).symm.trans h0_) (by decide), Q_FA, Q_FB, Q_N1, Q_FC, Q_FW, Q_FC1, Q_FW1, fun h0_ => absurd ((hoff 13 (by kernel_rfl)).symm.trans h0_) (by decide), fun h0_ => absurd ((hoff 13 (by kernel_rfl)).symm.trans h0_) (by decide), Q_X5_, Q_X12_⟩
                refine steps_cons ?_ ?_
                · rintro b a w' ⟨gA, gB, vc1, vw1, m5_, m12_, ha, Q_HB5, Q_FX, Q_FX1, Q_FX2, Q_FA, Q_FB, Q_N1, Q_FC, Q_FW, Q_FC1, Q_FW1, Q_FC2, Q_FW2, Q_X5_, Q_X12_⟩ hb_ hon hoff
                  refine ⟨_, rfl, fun K hK => ?_⟩
                  have e115 : a.tmps[115]? = some (.pointer (some ⟨gx, 1, none⟩)) := by rw [ha]; exact putSel_on (e := (7, 115, .pointer (some ⟨gx, 1, none⟩))) 7 rfl rfl (hon 7 (by kernel_rfl)) rfl
                  replace ha := Aside0.mk ha
                  have HB5 := Aside0.mk Q_HB5
                  have FX := Aside0.mk (Q_FX (hoff 15 (by kernel_rfl)))
                  have c_ := (blk_cell FX.out 1).trans rfl
                  refine value_ (w1 := w') (v := vw) (by rfl) rfl ?_ ?_
                  · go_simp
                    (try simp only [i64_w])
                    try rfl
                  refine hK.out _ _ ⟨gA, gB, vc1, vw1, m5_, m12_, (by rw [ha.out]; exact putSel_upk 8 hb_ rfl rfl rfl), Q_HB5, Q_FX, fun h0_ _ => absurd ((hoff 15 (by kernel_rfl)).symm.trans h0_) (by decide), fun h0_ => absurd ((hoff 17 (by kernel_rfl)).symm.trans h0_) (by decide), Q_FA, Q_FB, Q_N1, Q_FC, Q_FW, Q_FC1, Q_FW1, fun h0_ => absurd ((hoff 13 (by kernel_rfl)).symm.trans h0_) (by decide), fun h0_ => absurd ((hoff 13 (by kernel_rfl)).symm.trans h0_) (by decide), Q_X5_, Q_X12_⟩
                refine steps_cons ?_ ?_
                · rintro b a w' ⟨gA, gB, vc1, vw1, m5_, m12_, ha, Q_HB5, Q_FX, Q_FX1, Q_FX2, Q_FA, Q_FB, Q_N1, Q_FC, Q_FW, Q_FC1, Q_FW1, Q_FC2, Q_FW2, Q_X5_, Q_X12_⟩ hb_ hon hoff
                  refine ⟨_, rfl, fun K hK => ?_⟩
                  have e17 : a.tmps[17]? = some (.int .i64 b2) := by rw [ha]; exact (putSel_off rfl).trans rfl
                  replace ha := Aside0.mk ha
                  have HB5 := Aside0.mk Q_HB5
                  have FX := Aside0.mk (Q_FX (hoff 15 (by kernel_rfl)))
                  refine value_ (w1 := w') (v := .int .i64 b2) (by rfl) rfl ?_ ?_
                  · go_simp
                    (try simp only [i64_w])
                    try rfl
                  refine hK.out _ _ ⟨gA, gB, vc1, vw1, m5_, m12_, (by rw [ha.out]; exact putSel_upk 9 hb_ rfl rfl rfl), Q_HB5, Q_FX, fun h0_ _ => absurd ((hoff 15 (by kernel_rfl)).symm.trans h0_) (by decide), fun h0_ => absurd ((hoff 17 (by kernel_rfl)).symm.trans h0_) (by decide), Q_FA, fun h0_ _ => absurd ((hoff 12 (by kernel_rfl)).symm.trans h0_) (by decide), fun h0_ _ => absurd ((hoff 12 (by kernel_rfl)).symm.trans h0_) (by decide), Q_FC, Q_FW, Q_FC1, Q_FW1, fun h0_ => absurd ((hoff 13 (by kernel_rfl)).symm.trans h0_) (by decide), fun h0_ => absurd ((hoff 13 (by kernel_rfl)).symm.trans h0_) (by decide), Q_X5_, fun h0_ => absurd ((hoff 12 (by kernel_rfl)).symm.trans h0_) (by decide)⟩
                refine steps_cons ?_ ?_
                · rintro b a w' ⟨gA, gB, vc1, vw1, m5_, m12_, ha, Q_HB5, Q_FX, Q_FX1, Q_FX2, Q_FA, Q_FB, Q_N1, Q_FC, Q_FW, Q_FC1, Q_FW1, Q_FC2, Q_FW2, Q_X5_, Q_X12_⟩ hb_ hon hoff
                  refine ⟨_, rfl, fun K hK => ?_⟩
                  have e19 : a.tmps[19]? = some (.int .i64 e2) := by rw [ha]; exact (putSel_off rfl).trans rfl
                  replace ha := Aside0.mk ha
                  have HB5 := Aside0.mk Q_HB5
                  have FX := Aside0.mk (Q_FX (hoff 15 (by kernel_rfl)))
                  refine value_ (w1 := w') (v := .int .i64 e2) (by rfl) rfl ?_ ?_
                  · go_simp
                    (try simp only [i64_w])
                    try rfl
                  refine hK.out _ _ ⟨gA, gB, vc1, vw1, m5_, m12_, (by rw [ha.out]; exact putSel_upk 10 hb_ rfl rfl rfl), Q_HB5, Q_FX, fun h0_ _ => absurd ((hoff 15 (by kernel_rfl)).symm.trans h0_) (by decide), fun h0_ => absurd ((hoff 17 (by kernel_rfl)).symm.trans h0_) (by decide), Q_FA, fun h0_ _ => absurd ((hoff 12 (by kernel_rfl)).symm.trans h0_) (by decide), fun h0_ _ => absurd ((hoff 12 (by kernel_rfl)).symm.trans h0_) (by decide), Q_FC, Q_FW, Q_FC1, Q_FW1, fun h0_ => absurd ((hoff 13 (by kernel_rfl)).symm.trans h0_) (by decide), fun h0_ => absurd ((hoff 13 (by kernel_rfl)).symm.trans h0_) (by decide), Q_X5_, fun h0_ => absurd ((hoff 12 (by kernel_rfl)).symm.trans h0_) (by decide)⟩
                refine steps_cons ?_ ?_
                · rintro b a w' ⟨gA, gB, vc1, vw1, m5_, m12_, ha, Q_HB5, Q_FX, Q_FX1, Q_FX2, Q_FA, Q_FB, Q_N1, Q_FC, Q_FW, Q_FC1, Q_FW1, Q_FC2, Q_FW2, Q_X5_, Q_X12_⟩ hb_ hon hoff
                  refine ⟨_, rfl, fun K hK => ?_⟩
                  have e117 : a.tmps[117]? = some (.int .i64 b2) := by rw [ha]; exact putSel_on (e := (9, 117, .int .i64 b2)) 9 rfl rfl (hon 9 (by kernel_rfl)) rfl
                  have e118 : a.tmps[118]? = some (.int .i64 e2) := by rw [ha]; exact putSel_on (e := (10, 118, .int .i64 e2)) 10 rfl rfl (hon 10 (by kernel_rfl)) rfl
                  replace ha := Aside0.mk ha
                  have HB5 := Aside0.mk Q_HB5
                  have FX := Aside0.mk (Q_FX (hoff 15 (by kernel_rfl)))
                  refine value_ (w1 := w') (v := .int .i64 (wrap64 (b2 * e2))) (by rfl) rfl ?_ ?_
                  · go_simp
                    (try simp only [i64_w])
                    try rfl
                  refine hK.out _ _ ⟨gA, gB, vc1, vw1, m5_, m12_, (by rw [ha.out]; exact putSel_upk 11 hb_ rfl rfl rfl), Q_HB5, Q_FX, fun h0_ _ => absurd ((hoff 15 (by kernel_rfl)).symm.trans h0_) (by decide), fun h0_ => absurd ((hoff 17 (by kernel_rfl)).symm.trans h0_) (by decide), Q_FA, fun h0_ _ => absurd ((hoff 12 (by kernel_rfl)).symm.trans h0_) (by decide), fun h0_ _ => absurd ((hoff 12 (by kernel_rfl)).symm.trans h0_) (by decide), Q_FC, Q_FW, Q_FC1, Q_FW1, fun h0_ => absurd ((hoff 13 (by kernel_rfl)).symm.trans h0_) (by decide), fun h0_ => absurd ((hoff 13 (by kernel_rfl)).symm.trans h0_) (by decide), Q_X5_, fun h0_ => absurd ((hoff 12 (by kernel_rfl)).symm.trans h0_) (by decide)⟩
                refine steps_cons ?_ ?_
                · rintro b a w' ⟨gA, gB, vc1, vw1, m5_, m12_, ha, Q_HB5, Q_FX, Q_FX1, Q_FX2, Q_FA, Q_FB, Q_N1, Q_FC, Q_FW, Q_FC1, Q_FW1, Q_FC2, Q_FW2, Q_X5_, Q_X12_⟩ hb_ hon hoff
                  refine ⟨_, rfl, fun K hK => ?_⟩
                  have e119 : a.tmps[119]? = some (.int .i64 (wrap64 (b2 * e2))) := by rw [ha]; exact putSel_on (e := (11, 119, .int .i64 (wrap64 (b2 * e2)))) 11 rfl rfl (hon 11 (by kernel_rfl)) rfl
                  replace ha := Aside0.mk ha
                  have HB5 := Aside0.mk Q_HB5
                  have FX := Aside0.mk (Q_FX (hoff 15 (by kernel_rfl)))
                  refine value_ (w1 := ?_) (v := ?_) (by rfl) rfl ?_ ?_
                  rotate_left 2
                  · go_simp
                    constructor
                    · rfl
                    · rfl
                  refine hK.out _ _ ⟨gA, w'.heap.size, vc1, vw1, m5_, (.slice (some ⟨w'.heap.size, 0, none⟩) 1 1), (by rw [ha.out]; exact putSel_upk 12 hb_ rfl rfl rfl), (below_alloc HB5.out _), fun _ => (blk_alloc FX.out _), fun h0_ _ => absurd ((hoff 15 (by kernel_rfl)).symm.trans h0_) (by decide), fun h0_ => absurd ((hoff 17 (by kernel_rfl)).symm.trans h0_) (by decide), fun h0_ h1_ => ((Q_FA h0_ h1_).alloc _), fun _ _ => (Blk.new _ _ HB5.out.size _), fun _ h_ => (fun e_ => absurd (Kd.R_lt (Q_FC h_) _ e_.symm) (by omega)), fun h0_ => (Kd.R_alloc (Q_FC h0_) _), fun h0_ => (Kd.R_alloc (Q_FW h0_) _), fun h0_ h1_ => (Kd.R_alloc (Q_FC1 h0_ h1_) _), fun h0_ h1_ => (Kd.R_alloc (Q_FW1 h0_ h1_) _), fun h0_ => absurd ((hoff 13 (by kernel_rfl)).symm.trans h0_) (by decide), fun h0_ => absurd ((hoff 13 (by kernel_rfl)).symm.trans h0_) (by decide), Q_X5_, fun _ => rfl⟩
                refine steps_cons ?_ ?_
                · rintro b a w' ⟨gA, gB, vc1, vw1, m5_, m12_, ha, Q_HB5, Q_FX, Q_FX1, Q_FX2, Q_FA, Q_FB, Q_N1, Q_FC, Q_FW, Q_FC1, Q_FW1, Q_FC2, Q_FW2, Q_X5_, Q_X12_⟩ hb_ hon hoff
                  refine ⟨_, rfl, fun K hK => ?_⟩
                  have e116 : a.tmps[116]? = some (vw) := by rw [ha]; exact putSel_on (e := (8, 116, vw)) 8 rfl rfl (hon 8 (by kernel_rfl)) rfl
                  have e120 : a.tmps[120]? = some (m12_) := by rw [ha]; exact putSel_on (e := (12, 120, m12_)) 12 rfl rfl (hon 12 (by kernel_rfl)) rfl
                  rw [Q_X12_ (hon 12 (by kernel_rfl))] at e120
                  replace ha := Aside0.mk ha
                  have HB5 := Aside0.mk Q_HB5
                  have FX := Aside0.mk (Q_FX (hoff 15 (by kernel_rfl)))
                  have FB := Aside0.mk (Q_FB (hon 12 (by kernel_rfl)) hb_)
                  have FC1 := Aside0.mk (Q_FC1 (hon 6 (by kernel_rfl)) hb_)
                  have FW1 := Aside0.mk (Q_FW1 (hon 6 (by kernel_rfl)) hb_)
                  refine Kd.R_append_rows_step (Kd.int .i64) (w0 := w6) (W := w') w6.heap.size (by rfl) (.tmp 116) (.tmp 120) 25 3 (.int .i64 0) 8 (by rfl) Try.underlying25 info3 (by rfl) (by decide) (by omega) vw ws [wrap64 (b2 * e2)] (some ⟨gB, 0, none⟩) 1 1 (fun j => True ∧ some j ≠ Value.ownBlock vc1) (fun _ => False) (by simp only [Act.eval, Array.getD_eq_getD_getElem?, e116, Option.getD_some]) (by simp only [Act.eval, Array.getD_eq_getD_getElem?, e120, Option.getD_some]) FW1.out (Kd.R_reads' (FB.out.R (by simp))).2.2 (fun _ _ h => h) (fun _ hk => hk.elim) (fun j hj => ⟨trivial, fun e_ => by have := Kd.R_lt FC1.out j e_.symm; omega⟩) HB5.out HB5.out.size (by have := HSZ.out; omega) ?_
                  intro v1 w1 ho hb hg hat
                  refine hK.out _ _ ⟨gA, gB, vc1, v1, m5_, m12_, (by rw [ha.out]; exact putSel_upk 13 hb_ rfl rfl rfl), hb, fun _ => (blk_grown FX.out hg (Kd.R_ne FW1.out FX.out (by decide))), fun h0_ _ => absurd ((hoff 15 (by kernel_rfl)).symm.trans h0_) (by decide), fun h0_ => absurd ((hoff 17 (by kernel_rfl)).symm.trans h0_) (by decide), fun _ h1_ => absurd ((hon 6 (by kernel_rfl)).symm.trans h1_) (by decide), fun _ h1_ => absurd ((up_self b 13).symm.trans h1_) (by decide), fun _ h1_ => absurd ((hon 6 (by kernel_rfl)).symm.trans h1_) (by decide), fun h0_ => absurd ((hon 6 (by kernel_rfl)).symm.trans h0_) (by decide), fun h0_ => absurd ((hon 6 (by kernel_rfl)).symm.trans h0_) (by decide), fun _ h1_ => absurd ((up_self b 13).symm.trans h1_) (by decide), fun _ h1_ => absurd ((up_self b 13).symm.trans h1_) (by decide), fun _ => (Kd.R_after (ok := fun _ => True) FC1.out hg hat), fun _ => ho, Q_X5_, Q_X12_⟩
                refine steps_cons ?_ ?_
                · rintro b a w' ⟨gA, gB, vc1, vw1, m5_, m12_, ha, Q_HB5, Q_FX, Q_FX1, Q_FX2, Q_FA, Q_FB, Q_N1, Q_FC, Q_FW, Q_FC1, Q_FW1, Q_FC2, Q_FW2, Q_X5_, Q_X12_⟩ hb_ hon hoff
                  refine ⟨_, rfl, fun K hK => ?_⟩
                  have e14 : a.tmps[14]? = some (.pointer (some ⟨gx, 0, none⟩)) := by rw [ha]; exact (putSel_off rfl).trans rfl
                  replace ha := Aside0.mk ha
                  have HB5 := Aside0.mk Q_HB5
                  have FX := Aside0.mk (Q_FX (hoff 15 (by kernel_rfl)))
                  refine value_ (w1 := w') (v := .pointer (some ⟨gx, 0, none⟩)) (by rfl) rfl ?_ ?_
                  · go_simp
                    (try simp only [i64_w])
                    try rfl
                  refine hK.out _ _ ⟨gA, gB, vc1, vw1, m5_, m12_, (by rw [ha.out]; exact putSel_upk 14 hb_ rfl rfl rfl), Q_HB5, Q_FX, fun h0_ _ => absurd ((hoff 15 (by kernel_rfl)).symm.trans h0_) (by decide), fun h0_ => absurd ((hoff 17 (by kernel_rfl)).symm.trans h0_) (by decide), fun _ h1_ => absurd ((hon 6 (by kernel_rfl)).symm.trans h1_) (by decide), Q_FB, fun _ h1_ => absurd ((hon 6 (by kernel_rfl)).symm.trans h1_) (by decide), fun h0_ => absurd ((hon 6 (by kernel_rfl)).symm.trans h0_) (by decide), fun h0_ => absurd ((hon 6 (by kernel_rfl)).symm.trans h0_) (by decide), Q_FC1, Q_FW1, Q_FC2, Q_FW2, Q_X5_, Q_X12_⟩
                refine steps_cons ?_ ?_
                · rintro b a w' ⟨gA, gB, vc1, vw1, m5_, m12_, ha, Q_HB5, Q_FX, Q_FX1, Q_FX2, Q_FA, Q_FB, Q_N1, Q_FC, Q_FW, Q_FC1, Q_FW1, Q_FC2, Q_FW2, Q_X5_, Q_X12_⟩ hb_ hon hoff
                  refine ⟨_, rfl, fun K hK => ?_⟩
                  have e122 : a.tmps[122]? = some (.pointer (some ⟨gx, 0, none⟩)) := by rw [ha]; exact putSel_on (e := (14, 122, .pointer (some ⟨gx, 0, none⟩))) 14 rfl rfl (hon 14 (by kernel_rfl)) rfl
                  have e114 : a.tmps[114]? = some (vc1) := by rw [ha]; exact putSel_on (e := (6, 114, vc1)) 6 rfl rfl (hon 6 (by kernel_rfl)) rfl
                  replace ha := Aside0.mk ha
                  have HB5 := Aside0.mk Q_HB5
                  have FX := Aside0.mk (Q_FX hb_)
                  have FC2 := Aside0.mk (Q_FC2 (hon 13 (by kernel_rfl)))
                  have FW2 := Aside0.mk (Q_FW2 (hon 13 (by kernel_rfl)))
                  obtain ⟨Ac_, cc_, rfl⟩ := Kd.R_slice FC2.out
                  have c_ := (blk_cell FX.out 0).trans rfl
                  have f_ := blk_frozen FX.out 0
                  refine skip_ (w1 := ?_) (by rfl) rfl ?_ ?_
                  rotate_left
                  · go_simp
                    rfl
                  refine hK.out _ _ ⟨gA, gB, (.slice Ac_ (cs ++ [wrap64 (b1 + e1)]).length cc_), vw1, m5_, m12_, (by rw [ha.out]; exact putSel_none (v := undef) rfl), (HB5.out.setCell (p := ⟨gx, 0, none⟩) HGX.out _), fun h0_ => absurd ((up_self b 15).symm.trans h0_) (by decide), fun _ _ => (blk_put FX.out 0 _ (by simp)), fun h0_ => absurd ((hoff 17 (by kernel_rfl)).symm.trans h0_) (by decide), fun _ h1_ => absurd ((hon 6 (by kernel_rfl)).symm.trans h1_) (by decide), fun _ h1_ => absurd ((hon 13 (by kernel_rfl)).symm.trans h1_) (by decide), fun _ h1_ => absurd ((hon 6 (by kernel_rfl)).symm.trans h1_) (by decide), fun h0_ => absurd ((hon 6 (by kernel_rfl)).symm.trans h0_) (by decide), fun h0_ => absurd ((hon 6 (by kernel_rfl)).symm.trans h0_) (by decide), fun _ h1_ => absurd ((hon 13 (by kernel_rfl)).symm.trans h1_) (by decide), fun _ h1_ => absurd ((hon 13 (by kernel_rfl)).symm.trans h1_) (by decide), fun _ => (Kd.R_mono (Kd.R_far (p := ⟨gx, 0, none⟩) (Kd.R_types FC2.out FX.out (by decide)) (fun j hj => hj.2) _) (fun j hj => hj.1)), fun _ => (Kd.R_mono (Kd.R_far (p := ⟨gx, 0, none⟩) (Kd.R_types FW2.out FX.out (by decide)) (fun j hj => hj.2) _) (fun j hj => hj.1)), Q_X5_, Q_X12_⟩
                refine steps_cons ?_ ?_
                · rintro b a w' ⟨gA, gB, vc1, vw1, m5_, m12_, ha, Q_HB5, Q_FX, Q_FX1, Q_FX2, Q_FA, Q_FB, Q_N1, Q_FC, Q_FW, Q_FC1, Q_FW1, Q_FC2, Q_FW2, Q_X5_, Q_X12_⟩ hb_ hon hoff
                  refine ⟨_, rfl, fun K hK => ?_⟩
                  have e14 : a.tmps[14]? = some (.pointer (some ⟨gx, 0, none⟩)) := by rw [ha]; exact (putSel_off rfl).trans rfl
                  replace ha := Aside0.mk ha
                  have HB5 := Aside0.mk Q_HB5
                  have FX1 := Aside0.mk (Q_FX1 (hon 15 (by kernel_rfl)) (hoff 17 (by kernel_rfl)))
                  have FC2 := Aside0.mk (Q_FC2 (hon 13 (by kernel_rfl)))
                  have FW2 := Aside0.mk (Q_FW2 (hon 13 (by kernel_rfl)))
                  refine value_ (w1 := w') (v := .pointer (some ⟨gx, 1, none⟩)) (by rfl) rfl ?_ ?_
                  · go_simp
                    (try simp only [i64_w])
                    try rfl
                  refine hK.out _ _ ⟨gA, gB, vc1, vw1, m5_, m12_, (by rw [ha.out]; exact putSel_upk 15 hb_ rfl rfl rfl), Q_HB5, fun h0_ => absurd ((hon 15 (by kernel_rfl)).symm.trans h0_) (by decide), Q_FX1, fun h0_ => absurd ((hoff 17 (by kernel_rfl)).symm.trans h0_) (by decide), fun _ h1_ => absurd ((hon 6 (by kernel_rfl)).symm.trans h1_) (by decide), fun _ h1_ => absurd ((hon 13 (by kernel_rfl)).symm.trans h1_) (by decide), fun _ h1_ => absurd ((hon 6 (by kernel_rfl)).symm.trans h1_) (by decide), fun h0_ => absurd ((hon 6 (by kernel_rfl)).symm.trans h0_) (by decide), fun h0_ => absurd ((hon 6 (by kernel_rfl)).symm.trans h0_) (by decide), fun _ h1_ => absurd ((hon 13 (by kernel_rfl)).symm.trans h1_) (by decide), fun _ h1_ => absurd ((hon 13 (by kernel_rfl)).symm.trans h1_) (by decide), Q_FC2, Q_FW2, Q_X5_, Q_X12_⟩
                refine steps_cons ?_ ?_
                · rintro b a w' ⟨gA, gB, vc1, vw1, m5_, m12_, ha, Q_HB5, Q_FX, Q_FX1, Q_FX2, Q_FA, Q_FB, Q_N1, Q_FC, Q_FW, Q_FC1, Q_FW1, Q_FC2, Q_FW2, Q_X5_, Q_X12_⟩ hb_ hon hoff
                  refine ⟨_, rfl, fun K hK => ?_⟩
                  have e123 : a.tmps[123]? = some (.pointer (some ⟨gx, 1, none⟩)) := by rw [ha]; exact putSel_on (e := (16, 123, .pointer (some ⟨gx, 1, none⟩))) 15 rfl rfl (hon 16 (by kernel_rfl)) rfl
                  have e121 : a.tmps[121]? = some (vw1) := by rw [ha]; exact putSel_on (e := (13, 121, vw1)) 13 rfl rfl (hon 13 (by kernel_rfl)) rfl
                  replace ha := Aside0.mk ha
                  have HB5 := Aside0.mk Q_HB5
                  have FX1 := Aside0.mk (Q_FX1 (hon 15 (by kernel_rfl)) hb_)
                  have FC2 := Aside0.mk (Q_FC2 (hon 13 (by kernel_rfl)))
                  have FW2 := Aside0.mk (Q_FW2 (hon 13 (by kernel_rfl)))
                  obtain ⟨Aw_, cw_, rfl⟩ := Kd.R_slice FW2.out
                  have c_ := (blk_cell FX1.out 1).trans rfl
                  have f_ := blk_frozen FX1.out 1
                  refine skip_ (w1 := ?_) (by rfl) rfl ?_ ?_
                  rotate_left
                  · go_simp
                    rfl
                  refine hK.out _ _ ⟨gA, gB, vc1, (.slice Aw_ (ws ++ [wrap64 (b2 * e2)]).length cw_), m5_, m12_, (by rw [ha.out]; exact putSel_none (v := undef) rfl), (HB5.out.setCell (p := ⟨gx, 1, none⟩) HGX.out _), fun h0_ => absurd ((hon 15 (by kernel_rfl)).symm.trans h0_) (by decide), fun _ h1_ => absurd ((up_self b 17).symm.trans h1_) (by decide), fun _ => (blk_put FX1.out 1 _ (by simp)), fun _ h1_ => absurd ((hon 6 (by kernel_rfl)).symm.trans h1_) (by decide), fun _ h1_ => absurd ((hon 13 (by kernel_rfl)).symm.trans h1_) (by decide), fun _ h1_ => absurd ((hon 6 (by kernel_rfl)).symm.trans h1_) (by decide), fun h0_ => absurd ((hon 6 (by kernel_rfl)).symm.trans h0_) (by decide), fun h0_ => absurd ((hon 6 (by kernel_rfl)).symm.trans h0_) (by decide), fun _ h1_ => absurd ((hon 13 (by kernel_rfl)).symm.trans h1_) (by decide), fun _ h1_ => absurd ((hon 13 (by kernel_rfl)).symm.trans h1_) (by decide), fun _ => (Kd.R_mono (Kd.R_far (p := ⟨gx, 1, none⟩) (Kd.R_types FC2.out FX1.out (by decide)) (fun j hj => hj.2) _) (fun j hj => hj.1)), fun _ => (Kd.R_mono (Kd.R_far (p := ⟨gx, 1, none⟩) (Kd.R_types FW2.out FX1.out (by decide)) (fun j hj => hj.2) _) (fun j hj => hj.1)), Q_X5_, Q_X12_⟩
                exact steps_nil
              rintro b a w' hall ⟨gA, gB, vc1, vw1, m5_, m12_, ha, Q_HB5, Q_FX, Q_FX1, Q_FX2, Q_FA, Q_FB, Q_N1, Q_FC, Q_FW, Q_FC1, Q_FW1, Q_FC2, Q_FW2, Q_X5_, Q_X12_⟩
              clear FC FW FX HB5
              have hb0_ := hall 0 (by kernel_rfl)
              have hb1_ := hall 1 (by kernel_rfl)
              have hb2_ := hall 2 (by kernel_rfl)
              have hb3_ := hall 3 (by kernel_rfl)
              have hb4_ := hall 4 (by kernel_rfl)
              have hb5_ := hall 5 (by kernel_rfl)
              have hb6_ := hall 6 (by kernel_rfl)
              have hb7_ := hall 7 (by kernel_rfl)
              have hb8_ := hall 8 (by kernel_rfl)
              have hb9_ := hall 9 (by kernel_rfl)
              have hb10_ := hall 10 (by kernel_rfl)
              have hb11_ := hall 11 (by kernel_rfl)
              have hb12_ := hall 12 (by kernel_rfl)
              have hb13_ := hall 13 (by kernel_rfl)
              have hb14_ := hall 14 (by kernel_rfl)
              have hb15_ := hall 15 (by kernel_rfl)
              have hb16_ := hall 16 (by kernel_rfl)
              have hb17_ := hall 17 (by kernel_rfl)
              subst ha
              obtain rfl := Q_X5_ hb5_
              obtain rfl := Q_X12_ hb12_
              simp only [putSel, hb0_, hb1_, hb2_, hb3_, hb4_, hb5_, hb6_, hb7_, hb8_, hb9_, hb10_, hb11_, hb12_, hb13_, hb14_, hb15_, hb16_, hb17_, if_true, Act.put, List.setIfInBounds_toArray, List.set_cons_zero, List.set_cons_succ]
              have HB5 := Aside0.mk Q_HB5
              clear Q_HB5
              clear Q_FX
              clear Q_FX1
              have FX2 := Aside0.mk (Q_FX2 hb17_)
              clear Q_FX2
              clear Q_FA
              clear Q_FB
              clear Q_N1
              clear Q_FC
              clear Q_FW
              clear Q_FC1
              clear Q_FW1
              have FC2 := Aside0.mk (Q_FC2 hb13_)
              clear Q_FC2
              have FW2 := Aside0.mk (Q_FW2 hb13_)
              clear Q_FW2
              clear hall hb0_ hb1_ hb2_ hb3_ hb4_ hb5_ hb6_ hb7_ hb8_ hb9_ hb10_ hb11_ hb12_ hb13_ hb14_ hb15_ hb16_ hb17_
              go_wp2_with (fail)
              all_goals
                go_roundg (K - (s + 1))
                case measure => have := HLT2.out; omega
                case rel => exact ⟨s + 1, vc1, vw1, _, _, HLT2.out.1, Nat.le_refl _, by rw [w64_succ s (by have := HLT2.out.1; have := HSZ0.out; have := HK.out; omega)], HB5, FX2, FC2, FW2, HJN, ⟨by have := HCW.out; simp; omega⟩⟩
            · have hltb2 : decide ((s : Int) < (K : Int)) = false := decide_eq_false (by omega)
              have hltc2 : decide (s < K) = false := decide_eq_false hlt2
              obtain rfl : s = K := by omega
              have hjr := HJR.out
              rw [Nat.sub_self] at hjr
              obtain rfl : (⟨cs, ws⟩ : S63) = xn := Option.some.inj hjr
              have hc0 := (blk_cell FX.out 0).trans rfl
              have hc1 := (blk_cell FX.out 1).trans rfl
              have HTAB := Aside0.mk (show k63.M w7 w.heap.size (fun j => w6.heap.size ≤ j) ⟨cs, ws⟩ [vc, vw] from node_M HB.out.size FC.out FW.out)
              have HNW := Aside0.mk (Kd.S_below (Kd.S_mono (Kd.S_bound HN.out) (ok' := fun j => w.heap.size ≤ j ∧ ¬ w6.heap.size ≤ j) (fun j hj => ⟨hj.1, by have := hj.2.2.1; omega⟩)) HB5.out)
              have HOW := Aside0.mk (Kd.S_lt HN.out)
              have HBW := Aside0.mk (HB.out.trans (HB5.out.mono HB.out.size))
              have HGE := Aside0.mk HB.out.size
              clear hlt2 hgg2 hs FX FC FW HN HB HB5 hjr HJR
              go_wp2_with (first | ((with_reducible refine gate_builtin (b := .append) (xs := #[.tmp 124, .tmp 126]) rfl ?_); at_builtin; refine Kd.S_append k63 (w0 := w) w.heap.size rfl (.tmp 124) (.tmp 126) 60 63 (.agg #[.slice none 0 0, .slice none 0 0]) 48 rfl Try.underlying60 info63 rfl (by decide) (by omega) (.slice A9 out.length c9) out ⟨cs, ws⟩ [vc, vw] (fun j => w.heap.size ≤ j) (fun j => w6.heap.size ≤ j) rfl rfl HTAB.out ?aK ?aF HNW.out HBW.out HBW.out.size ?aL ?_; (case aK => exact (fun j hj => ⟨Nat.le_trans HGE.out hj, fun e_ => by have := HOW.out j e_.symm; omega⟩)); (case aF => exact (fun j hj => Nat.le_trans HBW.out.size hj)); (case aL => have := HSZ0.out; have := HOL.out; have := HLT.out; omega); intro v2 w8 ho hb hg hat; have HN8 := Aside0.mk ho; have HB8 := Aside0.mk hb; clear ho hb hg hat))
              all_goals
                go_roundg (J.length - (m + 1))
                case measure => have := HLT.out; omega
                case rel => exact ⟨m + 1, _, HLT.out.1, Nat.le_refl _, by rw [w64_succ m (by have := HLT.out.1; have := HSZ0.out; omega)], HNX, ⟨by have := HOL.out; simp; omega⟩, HB8, HN8⟩
        · have hltb : decide ((m : Int) < (J.length : Int)) = false := decide_eq_false (by omega)
          have hltc : decide (m < J.length) = false := decide_eq_false hlt
          obtain rfl : m = J.length := by omega
          have hfin : out = r := by
            have := HNR.out
            rw [Nat.sub_self] at this
            exact Option.some.inj this
          subst hfin
          clear hlt hgg hm HNR
          go_wp2
          go_ret
          exact ⟨_, rfl, Kd.S_mono HN.out (fun _ _ => trivial), HB.out⟩
end Go.Proofs.Ytcphmeeighhdjaa.P
