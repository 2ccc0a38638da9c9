/- The contract of hat.read: the game that it makes, and whether it is valid. -/
import Derived.Test.YtgjmfehdjbepiaaG52a
namespace Go.Proofs.Ytgjmfehdjbepiaa.P
set_option linter.unusedVariables false
open Go.RowKit Go.Proofs.YtgjmfehdjbepiaaW.PrintWords Go.Proofs.YtgjmfehdjbepiaaW.PrintLast Go.Proofs.YtgjmfehdjbepiaaW.PrintMore

/-- Do players i and j see each other? -/
def nb (l : List S71) (i j : Int) : Bool := i != j && (has l i j || has l j i)
/-- Those below j whom player i sees. -/
def rowTo (l : List S71) (i : Int) (j : Nat) : List Int := ((List.range j).map (fun k : Nat => (k : Int))).filter (nb l i)
theorem rowTo_succ (l : List S71) (i : Int) (j : Nat) : rowTo l i (j + 1) = if nb l i j then rowTo l i j ++ [(j : Int)] else rowTo l i j := by
  unfold rowTo
  rw [List.range_succ, List.map_append, List.filter_append]
  simp only [List.map_cons, List.map_nil, List.filter_cons, List.filter_nil]
  split <;> simp_all
theorem rowTo_len (l : List S71) (i : Int) (j : Nat) : (rowTo l i j).length ≤ j := by
  unfold rowTo
  refine Nat.le_trans (List.length_filter_le _ _) (by simp)
def seesTo (l : List S71) (n : Nat) (i : Nat) : List (List Int) := (List.range i).map (fun k : Nat => rowTo l k n)
theorem seesTo_succ (l : List S71) (n i : Nat) : seesTo l n (i + 1) = seesTo l n i ++ [rowTo l i n] := by
  unfold seesTo; rw [List.range_succ, List.map_append]; rfl
theorem seesTo_len (l : List S71) (n i : Nat) : (seesTo l n i).length = i := by unfold seesTo; simp

def goodNums (n q : Int) (l : List S71) : Prop := 1 ≤ n ∧ n ≤ 4 ∧ 1 ≤ q ∧ q ≤ 4 ∧ l.length ≤ 12

/-- What a pointer to a made game leads to. -/
theorem game_at {W : World} {G c : Nat} {A : Option Addr} {n q : Int} {s : List (List Int)} (h : W.heap[G]? = some (.cells #[.int .i64 n, .int .i64 q, .slice A s.length c] 103 (0, 0))) (hc : s.length ≤ c) (hr : Kd.C (Kd.slice 3 (Kd.int .i64)) W A s.length s) :
    Kd.C k103 W (some ⟨G, 0, none⟩) 1 [(⟨n, q, s⟩ : S103)] := by
  refine ⟨rfl, by omega, fun _ => ⟨⟨G, 0, none⟩, rfl, fun j p hj => ?_⟩⟩
  have hj0 : j = 0 := by
    have := (List.getElem?_eq_some_iff.1 hj).1
    simpa using this
  subst hj0
  obtain rfl : (⟨n, q, s⟩ : S103) = p := by simpa using hj
  refine ⟨_, rfl, k103_mk W _ hc hr, fun i u hi => ?_⟩
  have hcell : ∀ i : Nat, W.cell? ⟨G, i, none⟩ = (#[Value.int .i64 n, .int .i64 q, .slice A s.length c])[i]? := fun i => by simp [World.cell?, h]
  have ha : (⟨G, 0, none⟩ : Addr).add (0 * k103.sz + i) = ⟨G, i, none⟩ := by
    rw [Nat.zero_mul, Nat.zero_add]
    unfold Addr.add
    split
    · next e => rw [e]
    · simp
  rw [ha, hcell i]
  simpa using hi

set_option maxRecDepth 100000 in
set_option maxHeartbeats 4000000 in
theorem read_bad (n q : Int) (A : Option Addr) (c : Nat) (l : List S71) (w : World) (hc : l.length ≤ c) (hb : ¬ goodNums n q l) :
    Calls Try.prog 52 #[.int .i64 n, .int .i64 q, .slice A l.length c] w fun e w' => e = .returned (.tuple #[.pointer none, .bool false]) ∧ Below w.heap.size w w' := by
  have HB := Aside0.mk (below_alloc (Below.refl w.heap.size w) (.cells #[.int .i64 n] 3))
  unfold goodNums at hb
  by_cases h1 : n < 1
  · have h1b : decide (n < 1) = true := decide_eq_true h1
    clear h1 hb
    go_enter Try.func52, Try.ntmps52
    go_wp2
    go_ret2
    exact ⟨rfl, HB.out⟩
  · have h1b : decide (n < 1) = false := decide_eq_false h1
    by_cases h2 : n > 4
    · have h2b : decide (4 < n) = true := decide_eq_true h2
      clear h1 h2 hb
      go_enter Try.func52, Try.ntmps52
      go_wp2
      go_ret2
      exact ⟨rfl, HB.out⟩
    · have h2b : decide (4 < n) = false := decide_eq_false h2
      by_cases h3 : q < 1
      · have h3b : decide (q < 1) = true := decide_eq_true h3
        clear h1 h2 h3 hb
        go_enter Try.func52, Try.ntmps52
        go_wp2
        go_ret2
        exact ⟨rfl, HB.out⟩
      · have h3b : decide (q < 1) = false := decide_eq_false h3
        by_cases h4 : q > 4
        · have h4b : decide (4 < q) = true := decide_eq_true h4
          clear h1 h2 h3 h4 hb
          go_enter Try.func52, Try.ntmps52
          go_wp2
          go_ret2
          exact ⟨rfl, HB.out⟩
        · have h4b : decide (4 < q) = false := decide_eq_false h4
          have h5 : 12 < l.length := by omega
          have h5b : decide (12 < l.length) = true := decide_eq_true h5
          have h5c : decide (12 < (l.length : Int)) = true := decide_eq_true (by omega)
          clear h1 h2 h3 h4 h5 hb
          go_enter Try.func52, Try.ntmps52
          go_wp2
          go_ret2
          exact ⟨rfl, HB.out⟩

/-- What holds while the game is made: in the outer loop, and in the inner one. -/
structure Made (w W : World) (n q : Int) (vs : Value) (rows : List (List Int)) (ok : Nat → Prop) : Prop where
  hb : Below w.heap.size w W
  box : W.heap[w.heap.size]? = some (.cells #[.int .i64 n] 3 (0, 0))
  gm : W.heap[w.heap.size + 1]? = some (.cells #[.int .i64 n, .int .i64 q, vs] 103 (0, 0))
  hs : Kd.R (Kd.slice 3 (Kd.int .i64)) 37 W (w.heap.size + 2) ok vs rows
theorem Made.two {w W : World} {n q : Int} {vs : Value} {rows : List (List Int)} {ok : Nat → Prop} (h : Made w W n q vs rows ok) : w.heap.size + 2 ≤ W.heap.size := by
  have := blk_lt h.gm; omega
theorem Made.below {w W W1 : World} {n q : Int} {vs : Value} {rows : List (List Int)} {ok : Nat → Prop} (h : Made w W n q vs rows ok) (hb : Below W.heap.size W W1) : Made w W1 n q vs rows ok :=
  ⟨h.hb.trans (hb.mono h.hb.size), (hb.block _ (by have := h.two; omega)).trans h.box, (hb.block _ (by have := h.two; omega)).trans h.gm, Kd.R_below h.hs hb⟩
theorem Made.grown {w W W1 : World} {n q : Int} {vs v v1 : Value} {rows : List (List Int)} {ok : Nat → Prop} (h : Made w W n q vs rows (fun k => ok k ∧ some k ≠ v.ownBlock)) (hb : Below (w.heap.size + 2) W W1) (hg : W.grownBy W1 v.ownBlock)
    (hat : v1.ownBlock = v.ownBlock ∨ ∃ b, v1.ownBlock = some b ∧ W.heap.size ≤ b) : Made w W1 n q vs rows (fun k => ok k ∧ some k ≠ v1.ownBlock) :=
  ⟨h.hb.trans (hb.mono (by omega)), (hb.block _ (by omega)).trans h.box, (hb.block _ (by omega)).trans h.gm, Kd.R_after h.hs hg hat⟩
theorem Made.grown_ {w W W0 W1 : World} {n q : Int} {vs v v1 : Value} {rows : List (List Int)} {ok : Nat → Prop} (h : Made w W0 n q vs rows (fun k => ok k ∧ some k ≠ v.ownBlock)) (ha : Below W0.heap.size W0 W) (hb : Below (w.heap.size + 2) W W1) (hg : W.grownBy W1 v.ownBlock)
    (hat : v1.ownBlock = v.ownBlock ∨ ∃ b, v1.ownBlock = some b ∧ W.heap.size ≤ b) : Made w W1 n q vs rows (fun k => ok k ∧ some k ≠ v1.ownBlock) := (h.below ha).grown hb hg hat
theorem Made.append {w W W1 : World} {n q : Int} {vs v1 : Value} {rows rows' : List (List Int)} {ok : Nat → Prop} (h : Made w W n q vs rows ok) (hb : Below (w.heap.size + 2) W W1) (ho : Kd.R (Kd.slice 3 (Kd.int .i64)) 37 W1 (w.heap.size + 2) (fun _ => True) v1 rows') :
    W1.cell? ⟨w.heap.size + 1, 2, none⟩ = some vs ∧ W1.frozen? ⟨w.heap.size + 1, 2, none⟩ = false ∧ Made w (W1.setCell ⟨w.heap.size + 1, 2, none⟩ v1) n q v1 rows' (fun _ => True) := by
  have hg1 : W1.heap[w.heap.size + 1]? = some (.cells #[.int .i64 n, .int .i64 q, vs] 103 (0, 0)) := (hb.block _ (by omega)).trans h.gm
  have hx1 : W1.heap[w.heap.size]? = some (.cells #[.int .i64 n] 3 (0, 0)) := (hb.block _ (by omega)).trans h.box
  refine ⟨by simp [World.cell?, hg1], by simp [World.frozen?, hg1], ⟨below_set (h.hb.trans (hb.mono (by omega))) (by simp), blk_far hx1 (by simp) _, by simpa using blk_set hg1 2 v1, ?_⟩⟩
  exact Kd.R_mono (Kd.R_far (Kd.R_mono (Kd.R_bound ho) (fun k hk => hk.2.1)) (fun k (hk : w.heap.size + 2 ≤ k) => by simp; omega) _) (fun _ _ => trivial)
theorem Made.cellB {w W : World} {n q : Int} {vs : Value} {rows : List (List Int)} {ok : Nat → Prop} (h : Made w W n q vs rows ok) : W.cell? ⟨w.heap.size, 0, none⟩ = some (.int .i64 n) := by simp [World.cell?, h.box]
theorem Made.cellG {w W : World} {n q : Int} {vs : Value} {rows : List (List Int)} {ok : Nat → Prop} (h : Made w W n q vs rows ok) : W.cell? ⟨w.heap.size + 1, 2, none⟩ = some vs := by simp [World.cell?, h.gm]
theorem Made.frozenG {w W : World} {n q : Int} {vs : Value} {rows : List (List Int)} {ok : Nat → Prop} (h : Made w W n q vs rows ok) : W.frozen? ⟨w.heap.size + 1, 2, none⟩ = false := by simp [World.frozen?, h.gm]

theorem rows_ne {W : World} {b b' : Nat} {ok ok' : Nat → Prop} {u v : Value} {x : List Int} {y : List (List Int)} (h1 : Kd.R (Kd.int .i64) 3 W b ok u x) (h2 : Kd.R (Kd.slice 3 (Kd.int .i64)) 37 W b' ok' v y) (k : Nat) (hk : some k = u.ownBlock) : some k ≠ v.ownBlock := by
  intro e
  obtain ⟨c1, e1⟩ := Kd.R_typed h1 k hk.symm
  obtain ⟨c2, e2⟩ := Kd.R_typed h2 k e.symm
  rw [e1] at e2
  injection e2 with e2
  injection e2 with _ e2
  exact absurd e2 (by decide)
set_option maxRecDepth 100000 in
set_option maxHeartbeats 8000000 in
theorem read_good (n q : Int) (A : Option Addr) (c : Nat) (l : List S71) (w : World) (hr : Kd.C k71 w A l.length l) (hc : l.length ≤ c) (hg : goodNums n q l) :
    Calls Try.prog 52 #[.int .i64 n, .int .i64 q, .slice A l.length c] w fun e w' => e = .returned (.tuple #[.pointer (some ⟨w.heap.size + 1, 0, none⟩), .bool (!(l.any (badEdge n)))]) ∧
      Below w.heap.size w w' ∧ Kd.C k103 w' (some ⟨w.heap.size + 1, 0, none⟩) 1 [(⟨n, q, seesTo l n.toNat n.toNat⟩ : S103)] := by
  obtain ⟨g1, g2, g3, g4, g5⟩ := hg
  have HR := Aside0.mk hr
  have HC := Aside0.mk hc
  clear hr hc
  have h1b : decide (n < 1) = false := decide_eq_false (by omega)
  have h2b : decide (4 < n) = false := decide_eq_false (by omega)
  have h3b : decide (q < 1) = false := decide_eq_false (by omega)
  have h4b : decide (4 < q) = false := decide_eq_false (by omega)
  have h5b : decide (12 < l.length) = false := decide_eq_false (by omega)
  have h5c : decide (12 < (l.length : Int)) = false := decide_eq_false (by omega)
  have hu103 := Try.underlying103
  have hu71 := Try.underlying71
  obtain ⟨N, rfl⟩ := Int.eq_ofNat_of_zero_le (show 0 ≤ n by omega)
  rw [Int.toNat_natCast]
  have g2' : N ≤ 4 := by omega
  go_enter Try.func52, Try.ntmps52
  go_wp2
  go_loopg [37] N (fun gg v37 wr => ∃ (i : Nat) (vs : Value), i ≤ N ∧ N - i ≤ gg ∧ v37 = .int .i64 i ∧ Aside0 (Made w wr N q vs (seesTo l N i) (fun _ => True)))
  case atStart =>
    refine ⟨0, .slice none 0 0, Nat.zero_le _, by omega, rfl, ⟨⟨below_alloc (below_alloc (Below.refl _ _) _) _, ?_, ?_, Kd.R_nil _ _ _ _ _⟩⟩⟩
    · exact ((below_alloc (Below.refl (w.alloc (.cells #[.int .i64 (N : Int)] 3)).heap.size _) _).block _ (by simp)).trans (by simpa using heap_alloc_new w _)
    · simpa using heap_alloc_new (w.alloc (.cells #[.int .i64 (N : Int)] 3)) (.cells #[.int .i64 (N : Int), .int .i64 q, .slice none 0 0] 103)
  case round =>
    obtain ⟨i, vs, hi, hgi, rfl, HM⟩ := hrel
    by_cases hlt : i < N
    · have hltb : decide (i < N) = true := decide_eq_true hlt
      have hcb := HM.out.cellB
      go_wp2
      go_loopg [10, 41] N (fun gg v10 v41 w2 => ∃ (j : Nat), j ≤ N ∧ N - j ≤ gg ∧ v41 = .int .i64 j ∧ Aside0 (Kd.R (Kd.int .i64) 3 w2 (w.heap.size + 2) (fun _ => True) v10 (rowTo l i j)) ∧ Aside0 (Made w w2 N q vs (seesTo l N i) (fun k => True ∧ some k ≠ v10.ownBlock)))
      case atStart =>
        refine ⟨0, Nat.zero_le _, by omega, rfl, ⟨Kd.R_nil _ _ _ _ _⟩, ⟨⟨HM.out.hb, HM.out.box, HM.out.gm, Kd.R_apart_nil HM.out.hs⟩⟩⟩
      case round =>
        obtain ⟨j, hj, hgj, rfl, HL, HM2⟩ := hrel
        clear HM hcb
        by_cases hltj : j < N
        · have hltjb : decide (j < N) = true := decide_eq_true hltj
          have hHas := Lib.hid (fun (a b : Int) (W : World) (hW : Below w.heap.size w W) => contains.calls A c l a b W (Kd.C_below HR.out hW) HC.out)
          obtain ⟨b, hb⟩ : ∃ b, nb l i j = b := ⟨_, rfl⟩
          have hrow := rowTo_succ l i j
          rw [hb] at hrow
          have HROW := Aside0.mk hrow
          clear hrow
          unfold nb at hb
          by_cases hij : i = j
          · -- the player itself
            subst hij
            have hij1 : ((i : Int) != (i : Int)) = false := by simp
            have hij2 : (i != i) = false := by simp
            rw [hij1] at hb
            obtain rfl : false = b := hb
            go_wp2
            go_roundg (N - (i + 1))
            case measure => omega
            case rel => exact ⟨i + 1, by omega, by omega, by go_num, by rw [HROW.out]; exact HL, HM2⟩
          · have hij1 : ((i : Int) != (j : Int)) = true := by rw [bne_iff_ne]; omega
            have hij2 : (i != j) = true := by simp; exact hij
            rw [hij1, Bool.true_and] at hb
            clear hij
            cases h1 : has l i j with
            | true =>
              rw [h1, Bool.true_or] at hb
              obtain rfl : true = b := hb
              go_wp2_with (fail)
              refine (hHas.out _ _ _ HM2.out.hb).mono ?_
              rintro e W2 ⟨rfl, hbw⟩
              have HL2 := Aside0.mk (Kd.R_below HL.out hbw)
              have HM3 := Aside0.mk (HM2.out.below hbw)
              clear HL HM2 hbw
              rw [h1]
              go_wp2_with (first | ((with_reducible refine gate_builtin (b := .append) (xs := #[.tmp 61, .tmp 63]) rfl ?_); at_builtin; refine Kd.R_append (Kd.int .i64) (w0 := W2) (w.heap.size + 2) rfl (.tmp 61) (.tmp 63) 37 3 (.int .i64 0) 8 rfl Try.underlying37 info3 rfl (by decide) (by omega) u10 (rowTo l i j) (j : Int) [.int .i64 (j : Int)] (fun _ => True) (fun _ => False) rfl rfl ?aP (fun _ hk => hk.elim) ?aF ?aO ?aB ?aS ?aL ?_; (case aP => exact rfl); (case aB => exact Below.refl _ _); (case aF => exact (fun _ _ => trivial)); (case aO => exact HL2.out); (case aS => exact HM3.out.two); (case aL => have := rowTo_len l i j; omega); intro v1 w3 ho hb3 hg3 hat3))
              have HM4 := Aside0.mk (HM3.out.grown hb3 hg3 hat3)
              have HL4 := Aside0.mk (show Kd.R (Kd.int .i64) 3 w3 (w.heap.size + 2) (fun _ => True) v1 (rowTo l i (j + 1)) by rw [HROW.out]; exact ho)
              clear ho hb3 hg3 hat3 HL2 HM3
              go_wp2
              go_roundg (N - (j + 1))
              case measure => omega
              case rel => exact ⟨j + 1, by omega, by omega, by go_num, HL4, HM4⟩
            | false =>
              rw [h1, Bool.false_or] at hb
              go_wp2_with (fail)
              refine (hHas.out _ _ _ HM2.out.hb).mono ?_
              rintro e W1 ⟨rfl, hbw⟩
              have HL1 := Aside0.mk (Kd.R_below HL.out hbw)
              have HM1 := Aside0.mk (HM2.out.below hbw)
              clear HL HM2 hbw
              rw [h1]
              go_wp2_with (fail)
              refine (hHas.out _ _ _ HM1.out.hb).mono ?_
              rintro e W2 ⟨rfl, hbw⟩
              have HL2 := Aside0.mk (Kd.R_below HL1.out hbw)
              have HM3 := Aside0.mk (HM1.out.below hbw)
              clear HL1 HM1 hbw
              rw [hb]
              clear h1 hb
              cases b with
              | true =>
                go_wp2_with (first | ((with_reducible refine gate_builtin (b := .append) (xs := #[.tmp 61, .tmp 63]) rfl ?_); at_builtin; refine Kd.R_append (Kd.int .i64) (w0 := W2) (w.heap.size + 2) rfl (.tmp 61) (.tmp 63) 37 3 (.int .i64 0) 8 rfl Try.underlying37 info3 rfl (by decide) (by omega) u10 (rowTo l i j) (j : Int) [.int .i64 (j : Int)] (fun _ => True) (fun _ => False) rfl rfl ?aP (fun _ hk => hk.elim) ?aF ?aO ?aB ?aS ?aL ?_; (case aP => exact rfl); (case aB => exact Below.refl _ _); (case aF => exact (fun _ _ => trivial)); (case aO => exact HL2.out); (case aS => exact HM3.out.two); (case aL => have := rowTo_len l i j; omega); intro v1 w3 ho hb3 hg3 hat3))
                have HM4 := Aside0.mk (HM3.out.grown hb3 hg3 hat3)
                have HL4 := Aside0.mk (show Kd.R (Kd.int .i64) 3 w3 (w.heap.size + 2) (fun _ => True) v1 (rowTo l i (j + 1)) by rw [HROW.out]; exact ho)
                clear ho hb3 hg3 hat3 HL2 HM3
                go_wp2
                go_roundg (N - (j + 1))
                case measure => omega
                case rel => exact ⟨j + 1, by omega, by omega, by go_num, HL4, HM4⟩
              | false =>
                go_wp2
                go_roundg (N - (j + 1))
                case measure => omega
                case rel => exact ⟨j + 1, by omega, by omega, by go_num, by rw [HROW.out]; exact HL2, HM3⟩
        · have hltjb : decide (j < N) = false := decide_eq_false hltj
          have hjN := Aside0.mk (show j = N by omega)
          have hcg := HM2.out.cellG
          have hfg := HM2.out.frozenG
          clear hltj
          obtain ⟨Ao, co, eo⟩ := Kd.R_slice HL.out
          subst eo
          go_wp2_with (first | ((with_reducible refine gate_builtin (b := .append) (xs := #[.tmp 70, .tmp 72]) rfl ?_); at_builtin; refine Kd.R_append (Kd.slice 3 (Kd.int .i64)) (w0 := wr) (w.heap.size + 2) rfl (.tmp 70) (.tmp 72) 27 37 (.slice none 0 0) 24 rfl Try.underlying27 info37 rfl (by decide) (by omega) vs (seesTo l N i) (rowTo l i j) [.slice Ao (rowTo l i j).length co] (fun _ => True) (fun k => some k = (Value.slice Ao (rowTo l i j).length co).ownBlock) rfl rfl ?aP ?aA ?aF ?aO ?aB ?aS ?aL ?_; (case aP => exact Kd.M_row (Kd.R_tight rfl HL.out)); (case aA => exact fun k hk => ⟨trivial, rows_ne HL.out HM2.out.hs k hk⟩); (case aB => exact Below.refl _ _); (case aF => exact (fun _ _ => trivial)); (case aO => exact Kd.R_mono HM2.out.hs (fun _ _ => trivial)); (case aS => exact HM2.out.two); (case aL => rw [seesTo_len]; omega); intro v1 w3 ho hb3 hg3 hat3; obtain ⟨hc3, hf3, hM3⟩ := HM2.out.append hb3 ho; clear ho hb3 hg3 hat3 hcg hfg; obtain ⟨Ao1, co1, eo1⟩ := Kd.R_slice hM3.hs; subst eo1; have HM4 := Aside0.mk hM3; clear hM3))
          go_roundg (N - (i + 1))
          case measure => omega
          case rel => exact ⟨i + 1, _, by omega, by omega, by go_num, by have e := hjN.out; subst e; rw [seesTo_succ]; simp only [List.length_append, List.length_singleton] at HM4; exact HM4⟩
    · have hltb : decide (i < N) = false := decide_eq_false hlt
      have hiN := Aside0.mk (show i = N by omega)
      have hbad := Lib.hid (fun (W : World) (hW : Below w.heap.size w W) (hB : W.cell? ⟨w.heap.size, 0, none⟩ = some (.int .i64 (N : Int))) (hs : w.heap.size < W.heap.size) =>
        containsPair.calls (badEdge N) 72 #[.pointer (some ⟨w.heap.size, 0, none⟩)] (Go.Proofs.enters_of Try.func72 (by kernel_rfl) rfl) A c l W (Kd.C_below HR.out hW)
          (fun W2 x h2 => (bad_lit N w.heap.size W2 x ((h2.cell (p := ⟨w.heap.size, 0, none⟩) hs).trans hB)).mono fun e w' ⟨he, hb⟩ => ⟨he, h2.trans (hb.mono h2.size)⟩))
      clear hlt
      obtain ⟨Ao, co, eo⟩ := Kd.R_slice HM.out.hs
      subst eo
      go_wp2_with (fail)
      refine (hbad.out _ HM.out.hb HM.out.cellB (by have := HM.out.two; omega)).mono ?_
      rintro e w' ⟨rfl, hb'⟩
      have HM4 := Aside0.mk (HM.out.below hb')
      clear HM hb' hbad
      go_wp2
      go_ret2
      refine ⟨rfl, HM4.out.hb, ?_⟩
      have hr := Kd.R_reads' HM4.out.hs
      have e := hiN.out
      subst e
      exact game_at HM4.out.gm hr.2.1 hr.2.2

end Go.Proofs.Ytgjmfehdjbepiaa.P
