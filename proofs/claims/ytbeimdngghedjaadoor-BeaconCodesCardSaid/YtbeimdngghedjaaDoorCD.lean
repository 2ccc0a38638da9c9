/- Plain facts on graphs, glued. -/
import Derived.Test.YtbeimdngghedjaaDoorPL
import Derived.Test.YtbeimdngghedjaaDoorPM2
/-! Sets as bits: what or, shift and test do to them. -/
namespace Go.Proofs.YtbeimdngghedjaaDoor.Pure
open Go Go.Proofs Go.RowKit Go.Proofs.YtbeimdngghedjaaDoor.P Go.Proofs.YtbeimdngghedjaaDoorW.PrintWords Go.Proofs.YtbeimdngghedjaaDoorW.PrintLast
set_option linter.unusedVariables false
/-- The number holds a set of numbers below 10. -/
def Rep (x : Int) (S : Nat → Bool) : Prop := ∃ X : Nat, x = (X : Int) ∧ X < 1024 ∧ ∀ i, X.testBit i = S i
theorem wrap_small {A : Nat} (h : A < 1048576) : IntKind.wrap .i64 (A : Int) = (A : Int) := by
  rw [IntWalk.i64_left, IntWalk.wrap64_in _ (by omega)]
theorem or_nat {A B : Nat} (hA : A < 1048576) (hB : B < 1048576) : Go.bits .or .i64 (A : Int) (B : Int) = ((A ||| B : Nat) : Int) := by
  have e : (BitVec.ofInt 64 (A : Int) ||| BitVec.ofInt 64 (B : Int)).toNat = A ||| B := by
    rw [BitVec.ofInt_natCast, BitVec.ofInt_natCast, BitVec.toNat_or, BitVec.toNat_ofNat, BitVec.toNat_ofNat, Nat.mod_eq_of_lt (by omega), Nat.mod_eq_of_lt (by omega)]
  show IntKind.wrap .i64 ((BitVec.ofInt 64 (A : Int) ||| BitVec.ofInt 64 (B : Int)).toNat : Int) = _
  rw [e, wrap_small (Nat.or_lt_two_pow (n := 20) hA hB)]
theorem and_nat {A B : Nat} (hA : A < 1048576) (hB : B < 1048576) : Go.bits .and .i64 (A : Int) (B : Int) = ((A &&& B : Nat) : Int) := by
  have e : (BitVec.ofInt 64 (A : Int) &&& BitVec.ofInt 64 (B : Int)).toNat = A &&& B := by
    rw [BitVec.ofInt_natCast, BitVec.ofInt_natCast, BitVec.toNat_and, BitVec.toNat_ofNat, BitVec.toNat_ofNat, Nat.mod_eq_of_lt (by omega), Nat.mod_eq_of_lt (by omega)]
  show IntKind.wrap .i64 ((BitVec.ofInt 64 (A : Int) &&& BitVec.ofInt 64 (B : Int)).toNat : Int) = _
  rw [e, wrap_small (Nat.lt_of_le_of_lt Nat.and_le_left hA)]
theorem Rep.zero : Rep 0 (fun _ => false) := ⟨0, rfl, by omega, fun i => Nat.zero_testBit i⟩
theorem Rep.congr {x : Int} {S T : Nat → Bool} (h : Rep x S) (e : ∀ i, S i = T i) : Rep x T := by
  obtain ⟨X, h1, h2, h3⟩ := h
  exact ⟨X, h1, h2, fun i => (h3 i).trans (e i)⟩
theorem Rep.or {x y : Int} {S T : Nat → Bool} (h : Rep x S) (g : Rep y T) : Rep (Go.bits .or .i64 x y) (fun i => S i || T i) := by
  obtain ⟨X, rfl, h2, h3⟩ := h
  obtain ⟨Y, rfl, g2, g3⟩ := g
  refine ⟨X ||| Y, or_nat (by omega) (by omega), Nat.or_lt_two_pow (n := 10) h2 g2, fun i => ?_⟩
  rw [Nat.testBit_or, h3, g3]
theorem shl_all : ((List.range 10).all fun i => shl .i64 1 ((i : Nat) : Int) == ((2 ^ i : Nat) : Int)) = true := by decide +kernel
theorem Rep.one {i : Nat} (hi : i < 10) : Rep (shl .i64 1 (i : Int)) (fun j => decide (i = j)) := by
  refine ⟨2 ^ i, eq_of_beq (List.all_eq_true.1 shl_all i (List.mem_range.2 hi)), ?_, fun j => Nat.testBit_two_pow⟩
  have : 2 ^ i < 2 ^ 10 := Nat.pow_lt_pow_right (by omega) hi
  omega
theorem Rep.bit {x : Int} {S : Nat → Bool} (h : Rep x S) {v : Nat} (hv : v ≤ 20) : Go.bits .and .i64 (shr .i64 x (v : Int)) 1 = if S v = true then 1 else 0 := by
  obtain ⟨X, rfl, h2, h3⟩ := h
  have e : shr .i64 (X : Int) (v : Int) = ((X / 2 ^ v : Nat) : Int) := by
    unfold shr
    rw [Int.toNat_natCast, show min v IntKind.i64.bits = v from Nat.min_eq_left (by have : IntKind.i64.bits = 64 := rfl; omega)]
    rw [Int.natCast_ediv, Int.natCast_pow]; rfl
  have hl : X / 2 ^ v ≤ X := Nat.div_le_self _ _
  have a := and_nat (A := X / 2 ^ v) (B := 1) (by omega) (by omega)
  rw [e, show (1 : Int) = ((1 : Nat) : Int) from rfl, a, Nat.and_one_is_mod, ← h3 v, Nat.testBit_eq_decide_div_mod_eq]
  have : X / 2 ^ v % 2 < 2 := Nat.mod_lt _ (by omega)
  by_cases hh : X / 2 ^ v % 2 = 1
  · rw [hh]; simp
  · rw [show X / 2 ^ v % 2 = 0 by omega]; simp
theorem rd_set (L : List Int) (a v : Nat) (x : Int) (ha : a < L.length) : rd (L.set a x) (v : Int) = if a = v then x else rd L (v : Int) := by
  unfold rd
  rw [Int.toNat_natCast, List.getD_eq_getElem?_getD, List.getD_eq_getElem?_getD]
  by_cases h : a = v
  · subst h; rw [if_pos rfl, List.getElem?_set_self ha]; rfl
  · rw [if_neg h, List.getElem?_set_ne h]
end Go.Proofs.YtbeimdngghedjaaDoor.Pure

/-! The reference: Near, around, Ball, Distances and Doubly are the program's own distances. -/
namespace Go.Proofs.YtbeimdngghedjaaDoor.Pure
open Go Go.Proofs Go.RowKit Go.Proofs.YtbeimdngghedjaaDoor.P Go.Proofs.YtbeimdngghedjaaDoorW.PrintWords Go.Proofs.YtbeimdngghedjaaDoorW.PrintLast
set_option linter.unusedVariables false
/-- A row of sets, the neighbours of each vertex. -/
def NearRep (n : Nat) (E : Nat → Nat → Bool) (L : List Int) : Prop := L.length = n ∧ ∀ v, v < n → Rep (rd L (v : Int)) (E v)
theorem NearRep.add {n : Nat} {E : Nat → Nat → Bool} {L : List Int} (h : NearRep n E L) (hn : n ≤ 10) {a b : Nat} (ha : a < n) (hb : b < n) :
    NearRep n (fun v w => E v w || (decide (a = v) && decide (b = w))) (L.set a (Go.bits .or .i64 (rd L (a : Int)) (shl .i64 1 (b : Int)))) := by
  obtain ⟨h1, h2⟩ := h
  refine ⟨by rw [List.length_set]; exact h1, fun v hv => ?_⟩
  rw [rd_set L a v _ (by omega)]
  by_cases e : a = v
  · subst e
    rw [if_pos rfl]
    exact ((h2 a ha).or (Rep.one (by omega))).congr fun i => by simp
  · rw [if_neg e]
    exact (h2 v hv).congr fun i => by simp [e]
theorem near_l0 {n : Nat} (hn : n ≤ 10) {l : List S47} (hl : l.length ≤ 60) (hok : l.all (edOk n) = true) : ∀ (d i : Nat) (L : List Int), i + d = l.length → NearRep n (edE (l.take i)) L →
    ∃ L', NearRep n (edE l) L' ∧ Ev (fun k => woggleref06_Near.l0 k l L (i : Int)) L'
  | 0, i, L, hd, h => by
    obtain rfl : i = l.length := by omega
    rw [List.take_length] at h
    refine ⟨L, h, Ev.step (f := fun _ => some L) (fun k => ?_) (Ev.now _)⟩
    simp only [woggleref06_Near.l0]
    rw [if_neg (Int.lt_irrefl _)]
  | d + 1, i, L, hd, h => by
    have hi : i < l.length := by omega
    obtain ⟨q0, q1, q2, q3, q4⟩ := edOk_ne hok l[i] (List.getElem_mem hi)
    have e0 : rd_T47 l (i : Int) = l[i] := by unfold rd_T47; simp [hi]
    obtain ⟨A, hA⟩ : ∃ A : Nat, l[i].f0 = A := ⟨l[i].f0.toNat, by omega⟩
    obtain ⟨B, hB⟩ : ∃ B : Nat, l[i].f1 = B := ⟨l[i].f1.toNat, by omega⟩
    rw [hA, Int.toNat_natCast] at q0 q1
    rw [hB, Int.toNat_natCast] at q0 q2
    have h1 := h.add hn q1 q2
    have h2 := h1.add hn q2 q1
    have h3 : NearRep n (edE (l.take (i + 1))) ((L.set A (Go.bits .or .i64 (rd L (A : Int)) (shl .i64 1 (B : Int)))).set B (Go.bits .or .i64 (rd (L.set A (Go.bits .or .i64 (rd L (A : Int)) (shl .i64 1 (B : Int)))) (B : Int)) (shl .i64 1 (A : Int)))) := by
      refine ⟨h2.1, fun v hv => (h2.2 v hv).congr fun w => ?_⟩
      rw [take_up l i hi, edE_snoc, Bool.eq_iff_iff, updE_iff, updE_iff, hA, hB, Int.toNat_natCast, Int.toNat_natCast]
      simp only [Bool.or_eq_true, Bool.and_eq_true, decide_eq_true_eq]
      constructor
      · rintro ((h | h) | h)
        · exact .inr (.inr h)
        · exact .inr (.inl ⟨h.1.symm, h.2.symm⟩)
        · exact .inl ⟨h.1.symm, h.2.symm⟩
      · rintro (h | h | h)
        · exact .inr ⟨h.1.symm, h.2.symm⟩
        · exact .inl (.inr ⟨h.1.symm, h.2.symm⟩)
        · exact .inl (.inl h)
    obtain ⟨L', hL', hev⟩ := near_l0 hn hl hok d (i + 1) _ (by omega) h3
    refine ⟨L', hL', Ev.step (fun k => ?_) hev⟩
    have hl0 := h.1
    simp only [woggleref06_Near.l0]
    rw [if_pos (by omega), if_pos (by omega), e0, hA, hB]
    simp only [Option.bind_some, Int.toNat_natCast]
    rw [if_pos (by omega), if_pos (by omega), if_pos (by omega), if_pos (by omega), succ_w i (by omega)]
theorem near_ev {n : Nat} (hn : n ≤ 10) {l : List S47} (hl : l.length ≤ 60) (hok : l.all (edOk n) = true) : ∃ L, NearRep n (edE l) L ∧ Ev (fun k => woggleref06_Near.f k n l) L := by
  have h0 : NearRep n (edE (l.take 0)) (List.replicate n 0) := by
    refine ⟨List.length_replicate, fun v hv => ?_⟩
    have : rd (List.replicate n (0 : Int)) (v : Int) = 0 := by unfold rd; simp [List.getD_eq_getElem?_getD, hv]
    rw [this]
    exact Rep.zero.congr fun i => by simp [edE, noE]
  obtain ⟨L, hL, hev⟩ := near_l0 hn hl hok l.length 0 _ (by omega) h0
  refine ⟨L, hL, ?_⟩
  unfold woggleref06_Near.f
  refine ev_pos (by omega) (ev_pos (by rw [Int.toNat_natCast]; omega) ?_)
  rw [Int.toNat_natCast]; exact hev
section
variable {n : Nat} {E : Nat → Nat → Bool} {M : Mt} {L : List Int}
theorem around_l0 (hn : n ≤ 10) (hL : NearRep n E L) {x : Int} {S : Nat → Bool} (hx : Rep x S) : ∀ (d i : Nat) (acc : Int), i + d = n → Rep acc (fun w => (List.range i).any fun u => S u && E u w) →
    ∃ y, Rep y (fun w => (List.range n).any fun u => S u && E u w) ∧ Ev (fun k => woggleref06_around.l0 k L x acc (i : Int)) y
  | 0, i, acc, hd, h => by
    obtain rfl : i = n := by omega
    have := hL.1
    refine ⟨acc, h, Ev.step (f := fun _ => some acc) (fun k => ?_) (Ev.now _)⟩
    simp only [woggleref06_around.l0]
    rw [if_neg (by omega)]
  | d + 1, i, acc, hd, h => by
    have hl := hL.1
    have hi : i < n := by omega
    have hb := hx.bit (v := i) (by omega)
    by_cases hS : S i = true
    · rw [if_pos hS] at hb
      have h2 := (h.or (hL.2 i hi)).congr (T := fun w => (List.range (i + 1)).any fun u => S u && E u w) fun w => by
        rw [List.range_succ, List.any_append]; simp [hS]
      obtain ⟨y, hy, hev⟩ := around_l0 hn hL hx d (i + 1) _ (by omega) h2
      refine ⟨y, hy, Ev.step (fun k => ?_) hev⟩
      simp only [woggleref06_around.l0]
      rw [if_pos (by omega), if_pos (by omega), if_pos hb, succ_w i (by omega)]
    · rw [if_neg hS] at hb
      have h2 := h.congr (T := fun w => (List.range (i + 1)).any fun u => S u && E u w) fun w => by
        rw [List.range_succ, List.any_append]; simp [hS]
      obtain ⟨y, hy, hev⟩ := around_l0 hn hL hx d (i + 1) _ (by omega) h2
      refine ⟨y, hy, Ev.step (fun k => ?_) hev⟩
      simp only [woggleref06_around.l0]
      rw [if_pos (by omega), if_pos (by omega), hb, if_neg (by decide), succ_w i (by omega)]
theorem around_ev (hn : n ≤ 10) (hL : NearRep n E L) {x : Int} {S : Nat → Bool} (hx : Rep x S) : ∃ y, Rep y (fun w => (List.range n).any fun u => S u && E u w) ∧ Ev (fun k => woggleref06_around.f k L x) y :=
  around_l0 hn hL hx n 0 0 (by omega) (Rep.zero.congr fun i => by simp)
/-- The vertices at most j away from v. -/
def ballS (n : Nat) (M : Mt) (v : Nat) (j : Nat) (w : Nat) : Bool := decide (w < n) && decide (M v w ≤ j)
theorem ball_step (h : Met n E M) (hb : ∀ u w, E u w = true → w < n) {v : Nat} (hv : v < n) (j w : Nat) : (ballS n M v j w || (List.range n).any fun u => ballS n M v j u && E u w) = ballS n M v (j + 1) w := by
  rw [Bool.eq_iff_iff]
  unfold ballS
  simp only [Bool.or_eq_true, Bool.and_eq_true, decide_eq_true_eq, List.any_eq_true, List.mem_range]
  constructor
  · rintro (⟨h1, h2⟩ | ⟨u, _, ⟨h1, h2⟩, h3⟩)
    · exact ⟨h1, by omega⟩
    · have hw := hb u w h3
      have := h.tri hv h1 hw
      have := h.fl.edge u w h1 hw h3
      exact ⟨hw, by omega⟩
  · rintro ⟨h1, h2⟩
    by_cases hle : M v w ≤ j
    · exact .inl ⟨h1, hle⟩
    · have hw := h.fl.wk v w hv h1 (h.lt v w hv h1)
      rw [show (M v w).toNat = j + 1 by omega] at hw
      obtain ⟨u, hu, hw2, hE⟩ := Wk.snoc hv hw
      exact .inr ⟨u, hu, ⟨hu, h.fl.le_walk j v u hv hu hw2⟩, hE⟩
theorem ball_l0 (h : Met n E M) (hb : ∀ u w, E u w = true → w < n) (hL : NearRep n E L) {v : Nat} (hv : v < n) : ∀ (d j : Nat) (x : Int), d ≤ 20 → Rep x (ballS n M v j) →
    ∃ y, Rep y (ballS n M v (j + d)) ∧ Ev (fun k => woggleref06_Ball.l0 k L (d : Int) x) y
  | 0, j, x, _, hx => by
    refine ⟨x, hx, Ev.step (f := fun _ => some x) (fun k => ?_) (Ev.now _)⟩
    simp only [woggleref06_Ball.l0]
    rw [if_neg (by omega)]
  | d + 1, j, x, hd, hx => by
    obtain ⟨a, ha, haev⟩ := around_ev h.n10 hL hx
    have h2 := (hx.or ha).congr (ball_step h hb hv j)
    obtain ⟨y, hy, hev⟩ := ball_l0 h hb hL hv d (j + 1) _ (by omega) h2
    refine ⟨y, by rw [show j + (d + 1) = j + 1 + d by omega]; exact hy, Ev.step (f := fun k => (woggleref06_around.f k L x).bind fun t => woggleref06_Ball.l0 k L (d : Int) (Go.bits .or .i64 x t)) (fun k => ?_) (Ev.bind haev hev)⟩
    simp only [woggleref06_Ball.l0]
    rw [if_pos (by omega), pred_w d (by omega)]
theorem ball_ev (h : Met n E M) (hb : ∀ u w, E u w = true → w < n) (hL : NearRep n E L) {v : Nat} (hv : v < n) (r : Nat) (hr : r ≤ 20) : ∃ y, Rep y (ballS n M v r) ∧ Ev (fun k => woggleref06_Ball.f k L (v : Int) (r : Int)) y := by
  have hn := h.n10
  have h0 : Rep (shl .i64 1 (v : Int)) (ballS n M v 0) := (Rep.one (by omega)).congr fun w => by
    unfold ballS
    rw [Bool.eq_iff_iff]
    simp only [Bool.and_eq_true, decide_eq_true_eq]
    constructor
    · rintro rfl; exact ⟨hv, by rw [h.self hv]; omega⟩
    · rintro ⟨h1, h2⟩
      have := h.pos hv h1
      exact h.zero hv h1 (by omega)
  obtain ⟨y, hy, hev⟩ := ball_l0 h hb hL hv r 0 _ hr h0
  rw [Nat.zero_add] at hy
  refine ⟨y, hy, ?_⟩
  unfold woggleref06_Ball.f
  exact ev_pos (by omega) hev
theorem dist_l2 (h : Met n E M) (hb : ∀ u w, E u w = true → w < n) (hL : NearRep n E L) {v w : Nat} (hv : v < n) (hw : w < n) {D : List (List Int)} {row : List Int} (hrow : row.length ≤ 10) {res : List (List Int)}
    (hev : Ev (fun k => woggleref07_Distances.l1 k L D v (row ++ [M v w]) ((w + 1 : Nat) : Int)) res) : ∀ (d r : Nat), ((r + d : Nat) : Int) = M v w → Ev (fun k => woggleref07_Distances.l2 k L D v row w (r : Int)) res
  | 0, r, hd => by
    have hlt := h.lt v w hv hw
    have hn := h.n10
    obtain ⟨y, hy, hyev⟩ := ball_ev h hb hL hv r (by omega)
    have hbit := hy.bit (v := w) (by omega)
    rw [if_pos (by unfold ballS; simp; omega)] at hbit
    refine Ev.step (f := fun k => (woggleref06_Ball.f k L v r).bind fun t => if Go.bits .and .i64 (shr .i64 t w) 1 = 0 then woggleref07_Distances.l2 k L D v row w ((r + 1 : Nat) : Int) else woggleref07_Distances.l1 k L D v (row ++ [M v w]) ((w + 1 : Nat) : Int)) (fun k => ?_) (Ev.bind hyev (ev_neg (by rw [hbit]; decide) hev))
    simp only [woggleref07_Distances.l2]
    have q1 : (0 : Int) ≤ (w : Int) := by omega
    have q2 : row.length < 17592186044416 := by omega
    have e : (r : Int) = M v w := by omega
    simp only [if_pos q1, if_pos q2, succ_w w (by omega), succ_w r (by omega), ← e]
  | d + 1, r, hd => by
    have hlt := h.lt v w hv hw
    have hn := h.n10
    obtain ⟨y, hy, hyev⟩ := ball_ev h hb hL hv r (by omega)
    have hbit := hy.bit (v := w) (by omega)
    rw [if_neg (by unfold ballS; simp; omega)] at hbit
    refine Ev.step (f := fun k => (woggleref06_Ball.f k L v r).bind fun t => if Go.bits .and .i64 (shr .i64 t w) 1 = 0 then woggleref07_Distances.l2 k L D v row w ((r + 1 : Nat) : Int) else woggleref07_Distances.l1 k L D v (row ++ [(r : Int)]) ((w + 1 : Nat) : Int)) (fun k => ?_) (Ev.bind hyev (ev_pos hbit (dist_l2 h hb hL hv hw hrow hev d (r + 1) (by omega))))
    simp only [woggleref07_Distances.l2]
    have q1 : (0 : Int) ≤ (w : Int) := by omega
    have q2 : row.length < 17592186044416 := by omega
    simp only [if_pos q1, if_pos q2, succ_w w (by omega), succ_w r (by omega)]
theorem dist_l1 (h : Met n E M) (hb : ∀ u w, E u w = true → w < n) (hL : NearRep n E L) {v : Nat} (hv : v < n) {D : List (List Int)} (hD : D.length ≤ 10) {res : List (List Int)}
    (hev : Ev (fun k => woggleref07_Distances.l0 k L (D ++ [(List.range n).map (M v)]) ((v + 1 : Nat) : Int)) res) : Ev (fun k => woggleref07_Distances.l1 k L D v [] 0) res := by
  have hl := hL.1
  have hn := h.n10
  refine up_ind (fun i => Ev (fun k => woggleref07_Distances.l1 k L D v ((List.range i).map (M v)) (i : Int)) res) n ?_ ?_
  · refine Ev.step (fun k => ?_) hev
    simp only [woggleref07_Distances.l1]
    rw [if_neg (by omega), if_pos (by omega), succ_w v (by omega)]
  · intro i hi ih
    rw [range_succ_map] at ih
    have hp := h.pos hv hi
    refine Ev.step (fun k => ?_) (dist_l2 h hb hL hv hi (by simp; omega) ih (M v i).toNat 0 (by omega))
    simp only [woggleref07_Distances.l1]
    rw [if_pos (by omega)]; rfl
theorem dist_ev (h : Met n E M) (hb : ∀ u w, E u w = true → w < n) (hL : NearRep n E L) : Ev (fun k => woggleref07_Distances.f k L) (rowsA n M) := by
  have hl := hL.1
  have hn := h.n10
  refine up_ind (fun i => Ev (fun k => woggleref07_Distances.l0 k L ((List.range i).map fun v => (List.range n).map (M v)) (i : Int)) (rowsA n M)) n ?_ ?_
  · refine Ev.step (f := fun _ => some (rowsA n M)) (fun k => ?_) (Ev.now _)
    simp only [woggleref07_Distances.l0]
    rw [if_neg (by omega)]; rfl
  · intro i hi ih
    rw [range_succ_map] at ih
    refine Ev.step (fun k => ?_) (dist_l1 h hb hL hi (by simp; omega) ih)
    simp only [woggleref07_Distances.l0]
    rw [if_pos (by omega)]
end
theorem edE_lt {n : Nat} {l : List S47} (hok : l.all (edOk n) = true) (u w : Nat) (h : edE l u w = true) : w < n := by
  obtain ⟨e, he, h1⟩ := (edE_iff l u w).1 h
  obtain ⟨q0, q1, q2, q3, q4⟩ := edOk_ne hok e he
  omega
/-- The reference's distances are the program's. -/
theorem refdist_ev {n : Nat} {l : List S47} (hm : Made n l) : ∃ L, Ev (fun k => woggleref06_Near.f k n l) L ∧ Ev (fun k => woggleref07_Distances.f k L) (rowsA n (finalM n l)) := by
  obtain ⟨L, hL, hev⟩ := near_ev hm.n10 (by have := hm.len; omega) hm.ok
  exact ⟨L, hev, dist_ev (met_of hm.readOk) (fun u w => edE_lt hm.ok u w) hL⟩
end Go.Proofs.YtbeimdngghedjaaDoor.Pure

/-! The reference's Doubly is the program's doubly. -/
namespace Go.Proofs.YtbeimdngghedjaaDoor.Pure
open Go Go.Proofs Go.RowKit Go.Proofs.YtbeimdngghedjaaDoor.P Go.Proofs.YtbeimdngghedjaaDoorW.PrintWords Go.Proofs.YtbeimdngghedjaaDoorW.PrintLast
set_option linter.unusedVariables false
section
variable {n : Nat} {E : Nat → Nat → Bool} {M : Mt} {m : List Int} {r : Bool}
/-- The mark at a place. -/
def mk (m : List Int) (i : Nat) : Nat := (rd m (i : Int)).toNat
/-- Two marks tell two vertices apart. -/
def dif (M : Mt) (m : List Int) (u v i j : Nat) : Bool := (M u (mk m i) - M u (mk m j)) != (M v (mk m i) - M v (mk m j))
theorem mk_lt (hm : Mk n m) {i : Nat} (hi : i < m.length) : 0 ≤ rd m (i : Int) ∧ rd m (i : Int) < (n : Int) ∧ mk m i < n ∧ rd m (i : Int) = (mk m i : Int) := by
  have := hm.2 _ (List.getElem_mem hi)
  rw [← rd_nat m i hi] at this
  unfold mk
  omega
theorem dbl_l3 (h : Met n E M) (hm : Mk n m) {u v i : Nat} (hu : u < n) (hv : v < n) (hi : i < m.length) : ∀ (d j : Nat) (f : Bool), j + d = m.length → ∀ g : Bool, (g = true ↔ f = true ∨ ∃ x, j ≤ x ∧ x < m.length ∧ dif M m u v i x = true) →
    Ev (fun k => woggleref07_Doubly.l2 k (rowsA n M) m u v g ((i + 1 : Nat) : Int)) r → Ev (fun k => woggleref07_Doubly.l3 k (rowsA n M) m u v f i (j : Int)) r
  | 0, j, f, hd, g, hg, hev => by
    have e : g = f := by
      rw [Bool.eq_iff_iff, hg]
      constructor
      · rintro (h1 | ⟨x, h1, h2, _⟩)
        · exact h1
        · omega
      · exact .inl
    subst e
    have hl := hm.1
    refine Ev.step (fun k => ?_) hev
    simp only [woggleref07_Doubly.l3]
    rw [if_neg (by omega), succ_w i (by omega)]
  | d + 1, j, f, hd, g, hg, hev => by
    have hl := hm.1
    have hj : j < m.length := by omega
    cases f with
    | true =>
      refine Ev.step (fun k => ?_) (dbl_l3 h hm hu hv hi d (j + 1) true (by omega) g (by rw [hg]; simp) hev)
      simp only [woggleref07_Doubly.l3]
      rw [if_pos (by omega), succ_w j (by omega)]; rfl
    | false =>
      obtain ⟨a1, a2, a3, a4⟩ := mk_lt hm hi
      obtain ⟨b1, b2, b3, b4⟩ := mk_lt hm hj
      have hn := h.n10
      have p1 := h.pos hu a3; have p2 := h.pos hu b3; have p3 := h.pos hv a3; have p4 := h.pos hv b3
      have q1 := h.lt u _ hu a3; have q2 := h.lt u _ hu b3; have q3 := h.lt v _ hv a3; have q4 := h.lt v _ hv b3
      refine Ev.step (fun k => ?_) (dbl_l3 h hm hu hv hi d (j + 1) (dif M m u v i j) (by omega) g (by
        rw [hg]
        constructor
        · rintro (h1 | ⟨x, h1, h2, h3⟩)
          · cases h1
          · by_cases e : x = j
            · subst e; exact .inl h3
            · exact .inr ⟨x, by omega, h2, h3⟩
        · rintro (h1 | ⟨x, h1, h2, h3⟩)
          · exact .inr ⟨j, Nat.le_refl _, hj, h1⟩
          · exact .inr ⟨x, by omega, h2, h3⟩) hev)
      simp only [woggleref07_Doubly.l3]
      have e0 : ((rowsA n M).length : Int) = n := by simp [rowsA]
      have r0 : ∀ w, w < n → ((rd_L5 (rowsA n M) (w : Int)).length : Int) = n := fun w hw => by rw [row_at w hw]; simp
      rw [if_pos (by omega), if_neg (by decide), if_pos (by omega), if_pos (by omega), if_pos (by omega), if_pos (by omega), if_pos a1, if_pos (by rw [r0 u hu]; exact a2), if_pos (by omega), if_pos b1, if_pos (by rw [r0 u hu]; exact b2), if_pos (by omega), if_pos (by omega), if_pos (by rw [r0 v hv]; exact a2), if_pos (by rw [r0 v hv]; exact b2), succ_w j (by omega)]
      rw [row_at u hu, row_at v hv, cell_at_ u _ a1 a2, cell_at_ u _ b1 b2, cell_at_ v _ a1 a2, cell_at_ v _ b1 b2]
      have w1 : wrap64 (M u (rd m (i : Int)).toNat - M u (rd m (j : Int)).toNat) = M u (mk m i) - M u (mk m j) := IntWalk.wrap64_in _ (by unfold mk at *; omega)
      have w2 : wrap64 (M v (rd m (i : Int)).toNat - M v (rd m (j : Int)).toNat) = M v (mk m i) - M v (mk m j) := IntWalk.wrap64_in _ (by unfold mk at *; omega)
      rw [w1, w2]; rfl
theorem dbl_l2 (h : Met n E M) (hm : Mk n m) {u v : Nat} (hu : u < n) (hv : v < n) : ∀ (d i : Nat) (f : Bool), i + d = m.length → ∀ g : Bool, (g = true ↔ f = true ∨ ∃ y, i ≤ y ∧ y < m.length ∧ ∃ x, x < m.length ∧ dif M m u v y x = true) →
    Ev (fun k => if g = true then woggleref07_Doubly.l1 k (rowsA n M) m u ((v + 1 : Nat) : Int) else some false) r → Ev (fun k => woggleref07_Doubly.l2 k (rowsA n M) m u v f (i : Int)) r
  | 0, i, f, hd, g, hg, hev => by
    have e : g = f := by
      rw [Bool.eq_iff_iff, hg]
      constructor
      · rintro (h1 | ⟨x, h1, h2, _⟩)
        · exact h1
        · omega
      · exact .inl
    subst e
    have hl := hm.1
    have hn := h.n10
    refine Ev.step (fun k => ?_) hev
    simp only [woggleref07_Doubly.l2]
    rw [if_neg (by omega), succ_w v (by omega)]
  | d + 1, i, f, hd, g, hg, hev => by
    have hi : i < m.length := by omega
    have hex : ∃ f' : Bool, (f' = true ↔ f = true ∨ ∃ x, 0 ≤ x ∧ x < m.length ∧ dif M m u v i x = true) :=
      ⟨f || (List.range m.length).any fun x => dif M m u v i x, by simp⟩
    obtain ⟨f', hf'⟩ := hex
    have key := dbl_l2 h hm hu hv d (i + 1) f' (by omega) g (by
      rw [hg, hf']
      constructor
      · rintro (h1 | ⟨y, h1, h2, x, h3, h4⟩)
        · exact .inl (.inl h1)
        · by_cases e : y = i
          · subst e; exact .inl (.inr ⟨x, Nat.zero_le _, h3, h4⟩)
          · exact .inr ⟨y, by omega, h2, x, h3, h4⟩
      · rintro ((h1 | ⟨x, _, h3, h4⟩) | ⟨y, h1, h2, x, h3, h4⟩)
        · exact .inl h1
        · exact .inr ⟨i, Nat.le_refl _, hi, x, h3, h4⟩
        · exact .inr ⟨y, by omega, h2, x, h3, h4⟩) hev
    refine Ev.step (fun k => ?_) (dbl_l3 h hm hu hv hi m.length 0 f (by omega) f' hf' key)
    simp only [woggleref07_Doubly.l2]
    rw [if_pos (by omega)]; rfl
theorem sep_dif (hm : Mk n m) {u v : Nat} : sepP M u v m = true ↔ ∃ y, y < m.length ∧ ∃ x, x < m.length ∧ dif M m u v y x = true := by
  rw [sep_iff]
  constructor
  · rintro ⟨a, ha, b, hb, hne⟩
    obtain ⟨i, hi, rfl⟩ := List.getElem_of_mem ha
    obtain ⟨j, hj, rfl⟩ := List.getElem_of_mem hb
    refine ⟨i, hi, j, hj, ?_⟩
    unfold dif mk
    rw [rd_nat m i hi, rd_nat m j hj]
    simp only [bne_iff_ne]
    omega
  · rintro ⟨i, hi, j, hj, hne⟩
    refine ⟨m[i], List.getElem_mem hi, m[j], List.getElem_mem hj, ?_⟩
    unfold dif mk at hne
    rw [rd_nat m i hi, rd_nat m j hj] at hne
    simp only [bne_iff_ne] at hne
    omega
theorem dbl_l1 (h : Met n E M) (hm : Mk n m) {u : Nat} (hu : u < n) (hev : (∀ v, v < u → sepP M u v m = true) → Ev (fun k => woggleref07_Doubly.l0 k (rowsA n M) m ((u + 1 : Nat) : Int)) (dblP n M m)) :
    ∀ (d v : Nat), v + d = u → (∀ x, x < v → sepP M u x m = true) → Ev (fun k => woggleref07_Doubly.l1 k (rowsA n M) m u (v : Int)) (dblP n M m)
  | 0, v, hd, hb => by
    obtain rfl : v = u := by omega
    have hn := h.n10
    refine Ev.step (fun k => ?_) (hev hb)
    simp only [woggleref07_Doubly.l1]
    rw [if_neg (Int.lt_irrefl _), succ_w v (by omega)]
  | d + 1, v, hd, hb => by
    have hv : v < n := by omega
    have key := dbl_l2 (r := dblP n M m) h hm hu hv m.length 0 false (by omega) (sepP M u v m) (by
      rw [sep_dif hm]
      constructor
      · rintro ⟨y, h1, h2⟩; exact .inr ⟨y, Nat.zero_le _, h1, h2⟩
      · rintro (h1 | ⟨y, _, h1, h2⟩)
        · cases h1
        · exact ⟨y, h1, h2⟩) (by
      by_cases hs : sepP M u v m = true
      · refine ev_pos hs (dbl_l1 h hm hu hev d (v + 1) (by omega) fun x hx => ?_)
        by_cases e : x = v
        · subst e; exact hs
        · exact hb x (by omega)
      · refine ev_neg hs ?_
        have : dblP n M m = false := by
          cases hq : dblP n M m with
          | false => rfl
          | true => exact absurd (dblP_iff.1 hq u v (by omega) hu) hs
        rw [this]; exact Ev.now _)
    refine Ev.step (fun k => ?_) key
    simp only [woggleref07_Doubly.l1]
    rw [if_pos (by omega)]; rfl
theorem dbl_l0 (h : Met n E M) (hm : Mk n m) : ∀ (d u : Nat), u + d = n → (∀ a b, b < a → a < u → sepP M a b m = true) → Ev (fun k => woggleref07_Doubly.l0 k (rowsA n M) m (u : Int)) (dblP n M m)
  | 0, u, hd, hb => by
    obtain rfl : u = n := by omega
    have : dblP u M m = true := dblP_iff.2 fun a b h1 h2 => hb a b h1 h2
    rw [this]
    refine Ev.step (f := fun _ => some true) (fun k => ?_) (Ev.now _)
    simp only [woggleref07_Doubly.l0]
    rw [if_neg (by simp [rowsA])]
  | d + 1, u, hd, hb => by
    refine Ev.step (fun k => ?_) (dbl_l1 h hm (u := u) (by omega) (fun hs => dbl_l0 h hm d (u + 1) (by omega) fun a b h1 h2 => by
      by_cases e : a = u
      · subst e; exact hs b h1
      · exact hb a b h1 (by omega)) u 0 (by omega) fun x hx => by omega)
    simp only [woggleref07_Doubly.l0]
    rw [if_pos (by simp [rowsA]; omega)]; rfl
theorem refdbl_ev (h : Met n E M) (hm : Mk n m) : Ev (fun k => woggleref07_Doubly.f k (rowsA n M) m) (dblP n M m) := by
  unfold woggleref07_Doubly.f
  exact dbl_l0 h hm n 0 (by omega) fun a b h1 h2 => by omega
end
end Go.Proofs.YtbeimdngghedjaaDoor.Pure
