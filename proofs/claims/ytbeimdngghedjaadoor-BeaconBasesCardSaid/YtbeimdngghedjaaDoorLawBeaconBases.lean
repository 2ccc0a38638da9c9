/- The statement BeaconBases: for every input the law answers true and leaves its arguments; the package variable `none` of beacon starts as the text of the program lays it. -/
import Derived.Test.YtbeimdngghedjaaDoorPL
import Derived.Test.YtbeimdngghedjaaDoorPM2
import Derived.Test.YtbeimdngghedjaaDoorPM3
import Derived.Test.YtbeimdngghedjaaDoorPF21
import Derived.Test.YtbeimdngghedjaaDoorG38
import Derived.Test.YtbeimdngghedjaaDoorPF39
import Derived.Test.YtbeimdngghedjaaDoorPF3
import Derived.Test.YtbeimdngghedjaaDoorRows
import Derived.Test.YtbeimdngghedjaaDoorRD
import Derived.Test.YtbeimdngghedjaaDoorBY
import Derived.Test.YtbeimdngghedjaaDoorTie
import Derived.Test.YtbeimdngghedjaaDoorCards
import Derived.SevenTiedAt
import Derived.LaidMore
import Derived.Stop.Joined
import Derived.WalkKit
import Derived.ProofKit
import Derived.OpenShut
import Derived.ShutString
import Derived.ChangeOld
import Derived.Below
import Derived.SizedLaws
/-! Basis and Double answer the first of the smallest landmarks that resolve, or doubly resolve, by the distances of the reference, or ErrArg: for all graphs of at most 8 vertices. -/
/-! Plain facts on graphs, glued. -/
/-! Sets as bits: what or, shift and test do to them. -/
namespace Go.Proofs.YtbeimdngghedjaaDoor.Pure
open Go Go.Proofs Go.RowKit Go.Proofs.YtbeimdngghedjaaDoor.P Go.Proofs.YtbeimdngghedjaaDoorW.PrintWords Go.Proofs.YtbeimdngghedjaaDoorW.PrintLast
set_option linter.unusedVariables false
/-- The number holds a set of numbers below 10. -/
def Rep (x : Int) (S : Nat → Bool) : Prop := ∃ X : Nat, x = (X : Int) ∧ X < 1024 ∧ ∀ i, X.testBit i = S i
theorem wrap_small {A : Nat} (h : A < 1048576) : IntKind.wrap .i64 (A : Int) = (A : Int) := by
  rw [IntWalk.i64_left, IntWalk.wrap64_in _ (by omega)]
theorem or_nat {A B : Nat} (hA : A < 1048576) (hB : B < 1048576) : Go.bits .or .i64 (A : Int) (B : Int) = ((A ||| B : Nat) : Int) := by
  have e : (BitVec.ofInt 64 (A : Int) ||| BitVec.ofInt 64 (B : Int)).toNat = A ||| B := by
    rw [BitVec.ofInt_natCast, BitVec.ofInt_natCast, BitVec.toNat_or, BitVec.toNat_ofNat, BitVec.toNat_ofNat, Nat.mod_eq_of_lt (by omega), Nat.mod_eq_of_lt (by omega)]
  show IntKind.wrap .i64 ((BitVec.ofInt 64 (A : Int) ||| BitVec.ofInt 64 (B : Int)).toNat : Int) = _
  rw [e, wrap_small (Nat.or_lt_two_pow (n := 20) hA hB)]
theorem and_nat {A B : Nat} (hA : A < 1048576) (hB : B < 1048576) : Go.bits .and .i64 (A : Int) (B : Int) = ((A &&& B : Nat) : Int) := by
  have e : (BitVec.ofInt 64 (A : Int) &&& BitVec.ofInt 64 (B : Int)).toNat = A &&& B := by
    rw [BitVec.ofInt_natCast, BitVec.ofInt_natCast, BitVec.toNat_and, BitVec.toNat_ofNat, BitVec.toNat_ofNat, Nat.mod_eq_of_lt (by omega), Nat.mod_eq_of_lt (by omega)]
  show IntKind.wrap .i64 ((BitVec.ofInt 64 (A : Int) &&& BitVec.ofInt 64 (B : Int)).toNat : Int) = _
  rw [e, wrap_small (Nat.lt_of_le_of_lt Nat.and_le_left hA)]
theorem Rep.zero : Rep 0 (fun _ => false) := ⟨0, rfl, by omega, fun i => Nat.zero_testBit i⟩
theorem Rep.congr {x : Int} {S T : Nat → Bool} (h : Rep x S) (e : ∀ i, S i = T i) : Rep x T := by
  obtain ⟨X, h1, h2, h3⟩ := h
  exact ⟨X, h1, h2, fun i => (h3 i).trans (e i)⟩
theorem Rep.or {x y : Int} {S T : Nat → Bool} (h : Rep x S) (g : Rep y T) : Rep (Go.bits .or .i64 x y) (fun i => S i || T i) := by
  obtain ⟨X, rfl, h2, h3⟩ := h
  obtain ⟨Y, rfl, g2, g3⟩ := g
  refine ⟨X ||| Y, or_nat (by omega) (by omega), Nat.or_lt_two_pow (n := 10) h2 g2, fun i => ?_⟩
  rw [Nat.testBit_or, h3, g3]
theorem shl_all : ((List.range 10).all fun i => shl .i64 1 ((i : Nat) : Int) == ((2 ^ i : Nat) : Int)) = true := by decide +kernel
theorem Rep.one {i : Nat} (hi : i < 10) : Rep (shl .i64 1 (i : Int)) (fun j => decide (i = j)) := by
  refine ⟨2 ^ i, eq_of_beq (List.all_eq_true.1 shl_all i (List.mem_range.2 hi)), ?_, fun j => Nat.testBit_two_pow⟩
  have : 2 ^ i < 2 ^ 10 := Nat.pow_lt_pow_right (by omega) hi
  omega
theorem Rep.bit {x : Int} {S : Nat → Bool} (h : Rep x S) {v : Nat} (hv : v ≤ 20) : Go.bits .and .i64 (shr .i64 x (v : Int)) 1 = if S v = true then 1 else 0 := by
  obtain ⟨X, rfl, h2, h3⟩ := h
  have e : shr .i64 (X : Int) (v : Int) = ((X / 2 ^ v : Nat) : Int) := by
    unfold shr
    rw [Int.toNat_natCast, show min v IntKind.i64.bits = v from Nat.min_eq_left (by have : IntKind.i64.bits = 64 := rfl; omega)]
    rw [Int.natCast_ediv, Int.natCast_pow]; rfl
  have hl : X / 2 ^ v ≤ X := Nat.div_le_self _ _
  have a := and_nat (A := X / 2 ^ v) (B := 1) (by omega) (by omega)
  rw [e, show (1 : Int) = ((1 : Nat) : Int) from rfl, a, Nat.and_one_is_mod, ← h3 v, Nat.testBit_eq_decide_div_mod_eq]
  have : X / 2 ^ v % 2 < 2 := Nat.mod_lt _ (by omega)
  by_cases hh : X / 2 ^ v % 2 = 1
  · rw [hh]; simp
  · rw [show X / 2 ^ v % 2 = 0 by omega]; simp
theorem rd_set (L : List Int) (a v : Nat) (x : Int) (ha : a < L.length) : rd (L.set a x) (v : Int) = if a = v then x else rd L (v : Int) := by
  unfold rd
  rw [Int.toNat_natCast, List.getD_eq_getElem?_getD, List.getD_eq_getElem?_getD]
  by_cases h : a = v
  · subst h; rw [if_pos rfl, List.getElem?_set_self ha]; rfl
  · rw [if_neg h, List.getElem?_set_ne h]
end Go.Proofs.YtbeimdngghedjaaDoor.Pure

/-! The reference: Near, around, Ball, Distances and Doubly are the program's own distances. -/
namespace Go.Proofs.YtbeimdngghedjaaDoor.Pure
open Go Go.Proofs Go.RowKit Go.Proofs.YtbeimdngghedjaaDoor.P Go.Proofs.YtbeimdngghedjaaDoorW.PrintWords Go.Proofs.YtbeimdngghedjaaDoorW.PrintLast
set_option linter.unusedVariables false
/-- A row of sets, the neighbours of each vertex. -/
def NearRep (n : Nat) (E : Nat → Nat → Bool) (L : List Int) : Prop := L.length = n ∧ ∀ v, v < n → Rep (rd L (v : Int)) (E v)
theorem NearRep.add {n : Nat} {E : Nat → Nat → Bool} {L : List Int} (h : NearRep n E L) (hn : n ≤ 10) {a b : Nat} (ha : a < n) (hb : b < n) :
    NearRep n (fun v w => E v w || (decide (a = v) && decide (b = w))) (L.set a (Go.bits .or .i64 (rd L (a : Int)) (shl .i64 1 (b : Int)))) := by
  obtain ⟨h1, h2⟩ := h
  refine ⟨by rw [List.length_set]; exact h1, fun v hv => ?_⟩
  rw [rd_set L a v _ (by omega)]
  by_cases e : a = v
  · subst e
    rw [if_pos rfl]
    exact ((h2 a ha).or (Rep.one (by omega))).congr fun i => by simp
  · rw [if_neg e]
    exact (h2 v hv).congr fun i => by simp [e]
theorem near_l0 {n : Nat} (hn : n ≤ 10) {l : List S47} (hl : l.length ≤ 60) (hok : l.all (edOk n) = true) : ∀ (d i : Nat) (L : List Int), i + d = l.length → NearRep n (edE (l.take i)) L →
    ∃ L', NearRep n (edE l) L' ∧ Ev (fun k => woggleref06_Near.l0 k l L (i : Int)) L'
  | 0, i, L, hd, h => by
    obtain rfl : i = l.length := by omega
    rw [List.take_length] at h
    refine ⟨L, h, Ev.step (f := fun _ => some L) (fun k => ?_) (Ev.now _)⟩
    simp only [woggleref06_Near.l0]
    rw [if_neg (Int.lt_irrefl _)]
  | d + 1, i, L, hd, h => by
    have hi : i < l.length := by omega
    obtain ⟨q0, q1, q2, q3, q4⟩ := edOk_ne hok l[i] (List.getElem_mem hi)
    have e0 : rd_T47 l (i : Int) = l[i] := by unfold rd_T47; simp [hi]
    obtain ⟨A, hA⟩ : ∃ A : Nat, l[i].f0 = A := ⟨l[i].f0.toNat, by omega⟩
    obtain ⟨B, hB⟩ : ∃ B : Nat, l[i].f1 = B := ⟨l[i].f1.toNat, by omega⟩
    rw [hA, Int.toNat_natCast] at q0 q1
    rw [hB, Int.toNat_natCast] at q0 q2
    have h1 := h.add hn q1 q2
    have h2 := h1.add hn q2 q1
    have h3 : NearRep n (edE (l.take (i + 1))) ((L.set A (Go.bits .or .i64 (rd L (A : Int)) (shl .i64 1 (B : Int)))).set B (Go.bits .or .i64 (rd (L.set A (Go.bits .or .i64 (rd L (A : Int)) (shl .i64 1 (B : Int)))) (B : Int)) (shl .i64 1 (A : Int)))) := by
      refine ⟨h2.1, fun v hv => (h2.2 v hv).congr fun w => ?_⟩
      rw [take_up l i hi, edE_snoc, Bool.eq_iff_iff, updE_iff, updE_iff, hA, hB, Int.toNat_natCast, Int.toNat_natCast]
      simp only [Bool.or_eq_true, Bool.and_eq_true, decide_eq_true_eq]
      constructor
      · rintro ((h | h) | h)
        · exact .inr (.inr h)
        · exact .inr (.inl ⟨h.1.symm, h.2.symm⟩)
        · exact .inl ⟨h.1.symm, h.2.symm⟩
      · rintro (h | h | h)
        · exact .inr ⟨h.1.symm, h.2.symm⟩
        · exact .inl (.inr ⟨h.1.symm, h.2.symm⟩)
        · exact .inl (.inl h)
    obtain ⟨L', hL', hev⟩ := near_l0 hn hl hok d (i + 1) _ (by omega) h3
    refine ⟨L', hL', Ev.step (fun k => ?_) hev⟩
    have hl0 := h.1
    simp only [woggleref06_Near.l0]
    rw [if_pos (by omega), if_pos (by omega), e0, hA, hB]
    simp only [Option.bind_some, Int.toNat_natCast]
    rw [if_pos (by omega), if_pos (by omega), if_pos (by omega), if_pos (by omega), succ_w i (by omega)]
theorem near_ev {n : Nat} (hn : n ≤ 10) {l : List S47} (hl : l.length ≤ 60) (hok : l.all (edOk n) = true) : ∃ L, NearRep n (edE l) L ∧ Ev (fun k => woggleref06_Near.f k n l) L := by
  have h0 : NearRep n (edE (l.take 0)) (List.replicate n 0) := by
    refine ⟨List.length_replicate, fun v hv => ?_⟩
    have : rd (List.replicate n (0 : Int)) (v : Int) = 0 := by unfold rd; simp [List.getD_eq_getElem?_getD, hv]
    rw [this]
    exact Rep.zero.congr fun i => by simp [edE, noE]
  obtain ⟨L, hL, hev⟩ := near_l0 hn hl hok l.length 0 _ (by omega) h0
  refine ⟨L, hL, ?_⟩
  unfold woggleref06_Near.f
  refine ev_pos (by omega) (ev_pos (by rw [Int.toNat_natCast]; omega) ?_)
  rw [Int.toNat_natCast]; exact hev
section
variable {n : Nat} {E : Nat → Nat → Bool} {M : Mt} {L : List Int}
theorem around_l0 (hn : n ≤ 10) (hL : NearRep n E L) {x : Int} {S : Nat → Bool} (hx : Rep x S) : ∀ (d i : Nat) (acc : Int), i + d = n → Rep acc (fun w => (List.range i).any fun u => S u && E u w) →
    ∃ y, Rep y (fun w => (List.range n).any fun u => S u && E u w) ∧ Ev (fun k => woggleref06_around.l0 k L x acc (i : Int)) y
  | 0, i, acc, hd, h => by
    obtain rfl : i = n := by omega
    have := hL.1
    refine ⟨acc, h, Ev.step (f := fun _ => some acc) (fun k => ?_) (Ev.now _)⟩
    simp only [woggleref06_around.l0]
    rw [if_neg (by omega)]
  | d + 1, i, acc, hd, h => by
    have hl := hL.1
    have hi : i < n := by omega
    have hb := hx.bit (v := i) (by omega)
    by_cases hS : S i = true
    · rw [if_pos hS] at hb
      have h2 := (h.or (hL.2 i hi)).congr (T := fun w => (List.range (i + 1)).any fun u => S u && E u w) fun w => by
        rw [List.range_succ, List.any_append]; simp [hS]
      obtain ⟨y, hy, hev⟩ := around_l0 hn hL hx d (i + 1) _ (by omega) h2
      refine ⟨y, hy, Ev.step (fun k => ?_) hev⟩
      simp only [woggleref06_around.l0]
      rw [if_pos (by omega), if_pos (by omega), if_pos hb, succ_w i (by omega)]
    · rw [if_neg hS] at hb
      have h2 := h.congr (T := fun w => (List.range (i + 1)).any fun u => S u && E u w) fun w => by
        rw [List.range_succ, List.any_append]; simp [hS]
      obtain ⟨y, hy, hev⟩ := around_l0 hn hL hx d (i + 1) _ (by omega) h2
      refine ⟨y, hy, Ev.step (fun k => ?_) hev⟩
      simp only [woggleref06_around.l0]
      rw [if_pos (by omega), if_pos (by omega), hb, if_neg (by decide), succ_w i (by omega)]
theorem around_ev (hn : n ≤ 10) (hL : NearRep n E L) {x : Int} {S : Nat → Bool} (hx : Rep x S) : ∃ y, Rep y (fun w => (List.range n).any fun u => S u && E u w) ∧ Ev (fun k => woggleref06_around.f k L x) y :=
  around_l0 hn hL hx n 0 0 (by omega) (Rep.zero.congr fun i => by simp)
/-- The vertices at most j away from v. -/
def ballS (n : Nat) (M : Mt) (v : Nat) (j : Nat) (w : Nat) : Bool := decide (w < n) && decide (M v w ≤ j)
theorem ball_step (h : Met n E M) (hb : ∀ u w, E u w = true → w < n) {v : Nat} (hv : v < n) (j w : Nat) : (ballS n M v j w || (List.range n).any fun u => ballS n M v j u && E u w) = ballS n M v (j + 1) w := by
  rw [Bool.eq_iff_iff]
  unfold ballS
  simp only [Bool.or_eq_true, Bool.and_eq_true, decide_eq_true_eq, List.any_eq_true, List.mem_range]
  constructor
  · rintro (⟨h1, h2⟩ | ⟨u, _, ⟨h1, h2⟩, h3⟩)
    · exact ⟨h1, by omega⟩
    · have hw := hb u w h3
      have := h.tri hv h1 hw
      have := h.fl.edge u w h1 hw h3
      exact ⟨hw, by omega⟩
  · rintro ⟨h1, h2⟩
    by_cases hle : M v w ≤ j
    · exact .inl ⟨h1, hle⟩
    · have hw := h.fl.wk v w hv h1 (h.lt v w hv h1)
      rw [show (M v w).toNat = j + 1 by omega] at hw
      obtain ⟨u, hu, hw2, hE⟩ := Wk.snoc hv hw
      exact .inr ⟨u, hu, ⟨hu, h.fl.le_walk j v u hv hu hw2⟩, hE⟩
theorem ball_l0 (h : Met n E M) (hb : ∀ u w, E u w = true → w < n) (hL : NearRep n E L) {v : Nat} (hv : v < n) : ∀ (d j : Nat) (x : Int), d ≤ 20 → Rep x (ballS n M v j) →
    ∃ y, Rep y (ballS n M v (j + d)) ∧ Ev (fun k => woggleref06_Ball.l0 k L (d : Int) x) y
  | 0, j, x, _, hx => by
    refine ⟨x, hx, Ev.step (f := fun _ => some x) (fun k => ?_) (Ev.now _)⟩
    simp only [woggleref06_Ball.l0]
    rw [if_neg (by omega)]
  | d + 1, j, x, hd, hx => by
    obtain ⟨a, ha, haev⟩ := around_ev h.n10 hL hx
    have h2 := (hx.or ha).congr (ball_step h hb hv j)
    obtain ⟨y, hy, hev⟩ := ball_l0 h hb hL hv d (j + 1) _ (by omega) h2
    refine ⟨y, by rw [show j + (d + 1) = j + 1 + d by omega]; exact hy, Ev.step (f := fun k => (woggleref06_around.f k L x).bind fun t => woggleref06_Ball.l0 k L (d : Int) (Go.bits .or .i64 x t)) (fun k => ?_) (Ev.bind haev hev)⟩
    simp only [woggleref06_Ball.l0]
    rw [if_pos (by omega), pred_w d (by omega)]
theorem ball_ev (h : Met n E M) (hb : ∀ u w, E u w = true → w < n) (hL : NearRep n E L) {v : Nat} (hv : v < n) (r : Nat) (hr : r ≤ 20) : ∃ y, Rep y (ballS n M v r) ∧ Ev (fun k => woggleref06_Ball.f k L (v : Int) (r : Int)) y := by
  have hn := h.n10
  have h0 : Rep (shl .i64 1 (v : Int)) (ballS n M v 0) := (Rep.one (by omega)).congr fun w => by
    unfold ballS
    rw [Bool.eq_iff_iff]
    simp only [Bool.and_eq_true, decide_eq_true_eq]
    constructor
    · rintro rfl; exact ⟨hv, by rw [h.self hv]; omega⟩
    · rintro ⟨h1, h2⟩
      have := h.pos hv h1
      exact h.zero hv h1 (by omega)
  obtain ⟨y, hy, hev⟩ := ball_l0 h hb hL hv r 0 _ hr h0
  rw [Nat.zero_add] at hy
  refine ⟨y, hy, ?_⟩
  unfold woggleref06_Ball.f
  exact ev_pos (by omega) hev
theorem dist_l2 (h : Met n E M) (hb : ∀ u w, E u w = true → w < n) (hL : NearRep n E L) {v w : Nat} (hv : v < n) (hw : w < n) {D : List (List Int)} {row : List Int} (hrow : row.length ≤ 10) {res : List (List Int)}
    (hev : Ev (fun k => woggleref07_Distances.l1 k L D v (row ++ [M v w]) ((w + 1 : Nat) : Int)) res) : ∀ (d r : Nat), ((r + d : Nat) : Int) = M v w → Ev (fun k => woggleref07_Distances.l2 k L D v row w (r : Int)) res
  | 0, r, hd => by
    have hlt := h.lt v w hv hw
    have hn := h.n10
    obtain ⟨y, hy, hyev⟩ := ball_ev h hb hL hv r (by omega)
    have hbit := hy.bit (v := w) (by omega)
    rw [if_pos (by unfold ballS; simp; omega)] at hbit
    refine Ev.step (f := fun k => (woggleref06_Ball.f k L v r).bind fun t => if Go.bits .and .i64 (shr .i64 t w) 1 = 0 then woggleref07_Distances.l2 k L D v row w ((r + 1 : Nat) : Int) else woggleref07_Distances.l1 k L D v (row ++ [M v w]) ((w + 1 : Nat) : Int)) (fun k => ?_) (Ev.bind hyev (ev_neg (by rw [hbit]; decide) hev))
    simp only [woggleref07_Distances.l2]
    have q1 : (0 : Int) ≤ (w : Int) := by omega
    have q2 : row.length < 17592186044416 := by omega
    have e : (r : Int) = M v w := by omega
    simp only [if_pos q1, if_pos q2, succ_w w (by omega), succ_w r (by omega), ← e]
  | d + 1, r, hd => by
    have hlt := h.lt v w hv hw
    have hn := h.n10
    obtain ⟨y, hy, hyev⟩ := ball_ev h hb hL hv r (by omega)
    have hbit := hy.bit (v := w) (by omega)
    rw [if_neg (by unfold ballS; simp; omega)] at hbit
    refine Ev.step (f := fun k => (woggleref06_Ball.f k L v r).bind fun t => if Go.bits .and .i64 (shr .i64 t w) 1 = 0 then woggleref07_Distances.l2 k L D v row w ((r + 1 : Nat) : Int) else woggleref07_Distances.l1 k L D v (row ++ [(r : Int)]) ((w + 1 : Nat) : Int)) (fun k => ?_) (Ev.bind hyev (ev_pos hbit (dist_l2 h hb hL hv hw hrow hev d (r + 1) (by omega))))
    simp only [woggleref07_Distances.l2]
    have q1 : (0 : Int) ≤ (w : Int) := by omega
    have q2 : row.length < 17592186044416 := by omega
    simp only [if_pos q1, if_pos q2, succ_w w (by omega), succ_w r (by omega)]
theorem dist_l1 (h : Met n E M) (hb : ∀ u w, E u w = true → w < n) (hL : NearRep n E L) {v : Nat} (hv : v < n) {D : List (List Int)} (hD : D.length ≤ 10) {res : List (List Int)}
    (hev : Ev (fun k => woggleref07_Distances.l0 k L (D ++ [(List.range n).map (M v)]) ((v + 1 : Nat) : Int)) res) : Ev (fun k => woggleref07_Distances.l1 k L D v [] 0) res := by
  have hl := hL.1
  have hn := h.n10
  refine up_ind (fun i => Ev (fun k => woggleref07_Distances.l1 k L D v ((List.range i).map (M v)) (i : Int)) res) n ?_ ?_
  · refine Ev.step (fun k => ?_) hev
    simp only [woggleref07_Distances.l1]
    rw [if_neg (by omega), if_pos (by omega), succ_w v (by omega)]
  · intro i hi ih
    rw [range_succ_map] at ih
    have hp := h.pos hv hi
    refine Ev.step (fun k => ?_) (dist_l2 h hb hL hv hi (by simp; omega) ih (M v i).toNat 0 (by omega))
    simp only [woggleref07_Distances.l1]
    rw [if_pos (by omega)]; rfl
theorem dist_ev (h : Met n E M) (hb : ∀ u w, E u w = true → w < n) (hL : NearRep n E L) : Ev (fun k => woggleref07_Distances.f k L) (rowsA n M) := by
  have hl := hL.1
  have hn := h.n10
  refine up_ind (fun i => Ev (fun k => woggleref07_Distances.l0 k L ((List.range i).map fun v => (List.range n).map (M v)) (i : Int)) (rowsA n M)) n ?_ ?_
  · refine Ev.step (f := fun _ => some (rowsA n M)) (fun k => ?_) (Ev.now _)
    simp only [woggleref07_Distances.l0]
    rw [if_neg (by omega)]; rfl
  · intro i hi ih
    rw [range_succ_map] at ih
    refine Ev.step (fun k => ?_) (dist_l1 h hb hL hi (by simp; omega) ih)
    simp only [woggleref07_Distances.l0]
    rw [if_pos (by omega)]
end
theorem edE_lt {n : Nat} {l : List S47} (hok : l.all (edOk n) = true) (u w : Nat) (h : edE l u w = true) : w < n := by
  obtain ⟨e, he, h1⟩ := (edE_iff l u w).1 h
  obtain ⟨q0, q1, q2, q3, q4⟩ := edOk_ne hok e he
  omega
/-- The reference's distances are the program's. -/
theorem refdist_ev {n : Nat} {l : List S47} (hm : Made n l) : ∃ L, Ev (fun k => woggleref06_Near.f k n l) L ∧ Ev (fun k => woggleref07_Distances.f k L) (rowsA n (finalM n l)) := by
  obtain ⟨L, hL, hev⟩ := near_ev hm.n10 (by have := hm.len; omega) hm.ok
  exact ⟨L, hev, dist_ev (met_of hm.readOk) (fun u w => edE_lt hm.ok u w) hL⟩
end Go.Proofs.YtbeimdngghedjaaDoor.Pure

/-! The reference's Doubly is the program's doubly. -/
namespace Go.Proofs.YtbeimdngghedjaaDoor.Pure
open Go Go.Proofs Go.RowKit Go.Proofs.YtbeimdngghedjaaDoor.P Go.Proofs.YtbeimdngghedjaaDoorW.PrintWords Go.Proofs.YtbeimdngghedjaaDoorW.PrintLast
set_option linter.unusedVariables false
section
variable {n : Nat} {E : Nat → Nat → Bool} {M : Mt} {m : List Int} {r : Bool}
/-- The mark at a place. -/
def mk (m : List Int) (i : Nat) : Nat := (rd m (i : Int)).toNat
/-- Two marks tell two vertices apart. -/
def dif (M : Mt) (m : List Int) (u v i j : Nat) : Bool := (M u (mk m i) - M u (mk m j)) != (M v (mk m i) - M v (mk m j))
theorem mk_lt (hm : Mk n m) {i : Nat} (hi : i < m.length) : 0 ≤ rd m (i : Int) ∧ rd m (i : Int) < (n : Int) ∧ mk m i < n ∧ rd m (i : Int) = (mk m i : Int) := by
  have := hm.2 _ (List.getElem_mem hi)
  rw [← rd_nat m i hi] at this
  unfold mk
  omega
theorem dbl_l3 (h : Met n E M) (hm : Mk n m) {u v i : Nat} (hu : u < n) (hv : v < n) (hi : i < m.length) : ∀ (d j : Nat) (f : Bool), j + d = m.length → ∀ g : Bool, (g = true ↔ f = true ∨ ∃ x, j ≤ x ∧ x < m.length ∧ dif M m u v i x = true) →
    Ev (fun k => woggleref07_Doubly.l2 k (rowsA n M) m u v g ((i + 1 : Nat) : Int)) r → Ev (fun k => woggleref07_Doubly.l3 k (rowsA n M) m u v f i (j : Int)) r
  | 0, j, f, hd, g, hg, hev => by
    have e : g = f := by
      rw [Bool.eq_iff_iff, hg]
      constructor
      · rintro (h1 | ⟨x, h1, h2, _⟩)
        · exact h1
        · omega
      · exact .inl
    subst e
    have hl := hm.1
    refine Ev.step (fun k => ?_) hev
    simp only [woggleref07_Doubly.l3]
    rw [if_neg (by omega), succ_w i (by omega)]
  | d + 1, j, f, hd, g, hg, hev => by
    have hl := hm.1
    have hj : j < m.length := by omega
    cases f with
    | true =>
      refine Ev.step (fun k => ?_) (dbl_l3 h hm hu hv hi d (j + 1) true (by omega) g (by rw [hg]; simp) hev)
      simp only [woggleref07_Doubly.l3]
      rw [if_pos (by omega), succ_w j (by omega)]; rfl
    | false =>
      obtain ⟨a1, a2, a3, a4⟩ := mk_lt hm hi
      obtain ⟨b1, b2, b3, b4⟩ := mk_lt hm hj
      have hn := h.n10
      have p1 := h.pos hu a3; have p2 := h.pos hu b3; have p3 := h.pos hv a3; have p4 := h.pos hv b3
      have q1 := h.lt u _ hu a3; have q2 := h.lt u _ hu b3; have q3 := h.lt v _ hv a3; have q4 := h.lt v _ hv b3
      refine Ev.step (fun k => ?_) (dbl_l3 h hm hu hv hi d (j + 1) (dif M m u v i j) (by omega) g (by
        rw [hg]
        constructor
        · rintro (h1 | ⟨x, h1, h2, h3⟩)
          · cases h1
          · by_cases e : x = j
            · subst e; exact .inl h3
            · exact .inr ⟨x, by omega, h2, h3⟩
        · rintro (h1 | ⟨x, h1, h2, h3⟩)
          · exact .inr ⟨j, Nat.le_refl _, hj, h1⟩
          · exact .inr ⟨x, by omega, h2, h3⟩) hev)
      simp only [woggleref07_Doubly.l3]
      have e0 : ((rowsA n M).length : Int) = n := by simp [rowsA]
      have r0 : ∀ w, w < n → ((rd_L5 (rowsA n M) (w : Int)).length : Int) = n := fun w hw => by rw [row_at w hw]; simp
      rw [if_pos (by omega), if_neg (by decide), if_pos (by omega), if_pos (by omega), if_pos (by omega), if_pos (by omega), if_pos a1, if_pos (by rw [r0 u hu]; exact a2), if_pos (by omega), if_pos b1, if_pos (by rw [r0 u hu]; exact b2), if_pos (by omega), if_pos (by omega), if_pos (by rw [r0 v hv]; exact a2), if_pos (by rw [r0 v hv]; exact b2), succ_w j (by omega)]
      rw [row_at u hu, row_at v hv, cell_at_ u _ a1 a2, cell_at_ u _ b1 b2, cell_at_ v _ a1 a2, cell_at_ v _ b1 b2]
      have w1 : wrap64 (M u (rd m (i : Int)).toNat - M u (rd m (j : Int)).toNat) = M u (mk m i) - M u (mk m j) := IntWalk.wrap64_in _ (by unfold mk at *; omega)
      have w2 : wrap64 (M v (rd m (i : Int)).toNat - M v (rd m (j : Int)).toNat) = M v (mk m i) - M v (mk m j) := IntWalk.wrap64_in _ (by unfold mk at *; omega)
      rw [w1, w2]; rfl
theorem dbl_l2 (h : Met n E M) (hm : Mk n m) {u v : Nat} (hu : u < n) (hv : v < n) : ∀ (d i : Nat) (f : Bool), i + d = m.length → ∀ g : Bool, (g = true ↔ f = true ∨ ∃ y, i ≤ y ∧ y < m.length ∧ ∃ x, x < m.length ∧ dif M m u v y x = true) →
    Ev (fun k => if g = true then woggleref07_Doubly.l1 k (rowsA n M) m u ((v + 1 : Nat) : Int) else some false) r → Ev (fun k => woggleref07_Doubly.l2 k (rowsA n M) m u v f (i : Int)) r
  | 0, i, f, hd, g, hg, hev => by
    have e : g = f := by
      rw [Bool.eq_iff_iff, hg]
      constructor
      · rintro (h1 | ⟨x, h1, h2, _⟩)
        · exact h1
        · omega
      · exact .inl
    subst e
    have hl := hm.1
    have hn := h.n10
    refine Ev.step (fun k => ?_) hev
    simp only [woggleref07_Doubly.l2]
    rw [if_neg (by omega), succ_w v (by omega)]
  | d + 1, i, f, hd, g, hg, hev => by
    have hi : i < m.length := by omega
    have hex : ∃ f' : Bool, (f' = true ↔ f = true ∨ ∃ x, 0 ≤ x ∧ x < m.length ∧ dif M m u v i x = true) :=
      ⟨f || (List.range m.length).any fun x => dif M m u v i x, by simp⟩
    obtain ⟨f', hf'⟩ := hex
    have key := dbl_l2 h hm hu hv d (i + 1) f' (by omega) g (by
      rw [hg, hf']
      constructor
      · rintro (h1 | ⟨y, h1, h2, x, h3, h4⟩)
        · exact .inl (.inl h1)
        · by_cases e : y = i
          · subst e; exact .inl (.inr ⟨x, Nat.zero_le _, h3, h4⟩)
          · exact .inr ⟨y, by omega, h2, x, h3, h4⟩
      · rintro ((h1 | ⟨x, _, h3, h4⟩) | ⟨y, h1, h2, x, h3, h4⟩)
        · exact .inl h1
        · exact .inr ⟨i, Nat.le_refl _, hi, x, h3, h4⟩
        · exact .inr ⟨y, by omega, h2, x, h3, h4⟩) hev
    refine Ev.step (fun k => ?_) (dbl_l3 h hm hu hv hi m.length 0 f (by omega) f' hf' key)
    simp only [woggleref07_Doubly.l2]
    rw [if_pos (by omega)]; rfl
theorem sep_dif (hm : Mk n m) {u v : Nat} : sepP M u v m = true ↔ ∃ y, y < m.length ∧ ∃ x, x < m.length ∧ dif M m u v y x = true := by
  rw [sep_iff]
  constructor
  · rintro ⟨a, ha, b, hb, hne⟩
    obtain ⟨i, hi, rfl⟩ := List.getElem_of_mem ha
    obtain ⟨j, hj, rfl⟩ := List.getElem_of_mem hb
    refine ⟨i, hi, j, hj, ?_⟩
    unfold dif mk
    rw [rd_nat m i hi, rd_nat m j hj]
    simp only [bne_iff_ne]
    omega
  · rintro ⟨i, hi, j, hj, hne⟩
    refine ⟨m[i], List.getElem_mem hi, m[j], List.getElem_mem hj, ?_⟩
    unfold dif mk at hne
    rw [rd_nat m i hi, rd_nat m j hj] at hne
    simp only [bne_iff_ne] at hne
    omega
theorem dbl_l1 (h : Met n E M) (hm : Mk n m) {u : Nat} (hu : u < n) (hev : (∀ v, v < u → sepP M u v m = true) → Ev (fun k => woggleref07_Doubly.l0 k (rowsA n M) m ((u + 1 : Nat) : Int)) (dblP n M m)) :
    ∀ (d v : Nat), v + d = u → (∀ x, x < v → sepP M u x m = true) → Ev (fun k => woggleref07_Doubly.l1 k (rowsA n M) m u (v : Int)) (dblP n M m)
  | 0, v, hd, hb => by
    obtain rfl : v = u := by omega
    have hn := h.n10
    refine Ev.step (fun k => ?_) (hev hb)
    simp only [woggleref07_Doubly.l1]
    rw [if_neg (Int.lt_irrefl _), succ_w v (by omega)]
  | d + 1, v, hd, hb => by
    have hv : v < n := by omega
    have key := dbl_l2 (r := dblP n M m) h hm hu hv m.length 0 false (by omega) (sepP M u v m) (by
      rw [sep_dif hm]
      constructor
      · rintro ⟨y, h1, h2⟩; exact .inr ⟨y, Nat.zero_le _, h1, h2⟩
      · rintro (h1 | ⟨y, _, h1, h2⟩)
        · cases h1
        · exact ⟨y, h1, h2⟩) (by
      by_cases hs : sepP M u v m = true
      · refine ev_pos hs (dbl_l1 h hm hu hev d (v + 1) (by omega) fun x hx => ?_)
        by_cases e : x = v
        · subst e; exact hs
        · exact hb x (by omega)
      · refine ev_neg hs ?_
        have : dblP n M m = false := by
          cases hq : dblP n M m with
          | false => rfl
          | true => exact absurd (dblP_iff.1 hq u v (by omega) hu) hs
        rw [this]; exact Ev.now _)
    refine Ev.step (fun k => ?_) key
    simp only [woggleref07_Doubly.l1]
    rw [if_pos (by omega)]; rfl
theorem dbl_l0 (h : Met n E M) (hm : Mk n m) : ∀ (d u : Nat), u + d = n → (∀ a b, b < a → a < u → sepP M a b m = true) → Ev (fun k => woggleref07_Doubly.l0 k (rowsA n M) m (u : Int)) (dblP n M m)
  | 0, u, hd, hb => by
    obtain rfl : u = n := by omega
    have : dblP u M m = true := dblP_iff.2 fun a b h1 h2 => hb a b h1 h2
    rw [this]
    refine Ev.step (f := fun _ => some true) (fun k => ?_) (Ev.now _)
    simp only [woggleref07_Doubly.l0]
    rw [if_neg (by simp [rowsA])]
  | d + 1, u, hd, hb => by
    refine Ev.step (fun k => ?_) (dbl_l1 h hm (u := u) (by omega) (fun hs => dbl_l0 h hm d (u + 1) (by omega) fun a b h1 h2 => by
      by_cases e : a = u
      · subst e; exact hs b h1
      · exact hb a b h1 (by omega)) u 0 (by omega) fun x hx => by omega)
    simp only [woggleref07_Doubly.l0]
    rw [if_pos (by simp [rowsA]; omega)]; rfl
theorem refdbl_ev (h : Met n E M) (hm : Mk n m) : Ev (fun k => woggleref07_Doubly.f k (rowsA n M) m) (dblP n M m) := by
  unfold woggleref07_Doubly.f
  exact dbl_l0 h hm n 0 (by omega) fun a b h1 h2 => by omega
end
end Go.Proofs.YtbeimdngghedjaaDoor.Pure

/-! Graphs of any kind: what the laws' few and the reference's Graph, Connected, Rising and Codes answer. -/
namespace Go.Proofs.YtbeimdngghedjaaDoor.Pure
open Go Go.Proofs Go.RowKit Go.Proofs.YtbeimdngghedjaaDoor.P Go.Proofs.YtbeimdngghedjaaDoorW.PrintWords Go.Proofs.YtbeimdngghedjaaDoorW.PrintLast
set_option linter.unusedVariables false
/-- A number of 64 bits. -/
def I64 (a : Int) : Prop := -9223372036854775808 ≤ a ∧ a ≤ 9223372036854775807
theorem i64_of {a : Int} (h : (Lit.int .i64 a).wf = true) : I64 a := by
  unfold Lit.wf at h
  simp only [Bool.and_eq_true, decide_eq_true_eq] at h
  have e1 : IntKind.i64.min = -9223372036854775808 := by decide
  have e2 : IntKind.i64.max = 9223372036854775807 := by decide
  rw [e1, e2] at h
  exact h
theorem in6_is (a b c : Int) : woggleref06_in.f a b c = some (decide (b ≤ a) && decide (a ≤ c)) := by
  unfold woggleref06_in.f
  by_cases h : a ≥ b
  · rw [if_pos h, decide_eq_true (show b ≤ a from h), Bool.true_and]
  · rw [if_neg h, decide_eq_false (show ¬ b ≤ a from h), Bool.false_and]
theorem in1_is (a b c : Int) : woggleref01_in.f a b c = some (decide (b ≤ a) && decide (a ≤ c)) := by
  unfold woggleref01_in.f
  by_cases h : a ≥ b
  · rw [if_pos h, decide_eq_true (show b ≤ a from h), Bool.true_and]
  · rw [if_neg h, decide_eq_false (show ¬ b ≤ a from h), Bool.false_and]
/-- What the reference's Graph answers. -/
def graphB (n : Int) (l : List S47) : Bool := decide (1 ≤ n) && decide (n ≤ 10) && decide (l.length ≤ 60) && l.all (edOk n.toNat)
theorem graph_l0 {n : Int} (hn : I64 n) {l : List S47} (hl : l.length ≤ 100) : ∀ (d i : Nat), i + d = l.length → (1 ≤ n → n ≤ 10 → (l.take i).all (edOk n.toNat) = true) → Ev (fun k => woggleref06_Graph.l0 k n l (i : Int)) (graphB n l)
  | 0, i, hd, hb => by
    obtain rfl : i = l.length := by omega
    rw [List.take_length] at hb
    refine Ev.step (f := fun _ => some (graphB n l)) (fun k => ?_) (Ev.now _)
    simp only [woggleref06_Graph.l0]
    rw [if_neg (by omega), in6_is]
    simp only [Option.bind_some]
    unfold graphB
    by_cases h1 : 1 ≤ n
    · by_cases h2 : n ≤ 10
      · rw [decide_eq_true h1, decide_eq_true h2, hb h1 h2]
        simp
        omega
      · rw [decide_eq_false h2]; simp
    · rw [decide_eq_false h1]; simp
  | d + 1, i, hd, hb => by
    have hi : i < l.length := by omega
    have e0 : rd_T47 l (i : Int) = l[i] := by unfold rd_T47; simp [hi]
    have bad : (1 ≤ n → n ≤ 10 → edOk n.toNat l[i] = false) → graphB n l = false := fun h => by
      unfold graphB
      by_cases h1 : 1 ≤ n
      · by_cases h2 : n ≤ 10
        · have : l.all (edOk n.toNat) = false := by
            cases hq : l.all (edOk n.toNat) with
            | false => rfl
            | true =>
              have := List.all_eq_true.1 hq l[i] (List.getElem_mem hi)
              rw [h h1 h2] at this; cases this
          rw [this]; simp
        · rw [decide_eq_false h2]; simp
      · rw [decide_eq_false h1]; simp
    have stop : (1 ≤ n → n ≤ 10 → edOk n.toNat l[i] = false) → Ev (fun _ : Nat => some false) (graphB n l) := fun h => by rw [bad h]; exact Ev.now _
    have q1 : (i : Int) < l.length := by omega
    have q2 : (0 : Int) ≤ i := by omega
    have w1 : 1 ≤ n → n ≤ 10 → wrap64 (n - 1) = n - 1 := fun h1 h2 => IntWalk.wrap64_in _ (by omega)
    have parts : ∀ e : S47, edOk n.toNat e = true → 0 ≤ e.f0 ∧ e.f0 < n.toNat ∧ 0 ≤ e.f1 ∧ e.f1 < n.toNat ∧ e.f0 ≠ e.f1 := fun e h => edOk_parts (a := e.f0) (b := e.f1) h
    by_cases c1 : (decide (0 ≤ (l[i]).f0) && decide ((l[i]).f0 ≤ wrap64 (n - 1))) = true
    · by_cases c2 : (decide (0 ≤ (l[i]).f1) && decide ((l[i]).f1 ≤ wrap64 (n - 1))) = true
      · by_cases c3 : (l[i]).f0 = (l[i]).f1
        · refine Ev.step (f := fun _ => some false) (fun k => ?_) (stop fun h1 h2 => ?_)
          · simp only [woggleref06_Graph.l0]
            rw [if_pos q1, if_pos q2, e0, in6_is, Option.bind_some, if_pos c1, in6_is, Option.bind_some, if_pos c2, if_pos c3]
          · cases hq : edOk n.toNat l[i] with
            | false => rfl
            | true => exact absurd c3 (parts _ hq).2.2.2.2
        · refine Ev.step (fun k => ?_) (graph_l0 hn hl d (i + 1) (by omega) fun h1 h2 => ?_)
          · simp only [woggleref06_Graph.l0]
            rw [if_pos q1, if_pos q2, e0, in6_is, Option.bind_some, if_pos c1, in6_is, Option.bind_some, if_pos c2, if_neg c3, succ_w i (by omega)]
          · rw [take_up l i hi, List.all_append, hb h1 h2]
            simp only [Bool.and_eq_true, decide_eq_true_eq] at c1 c2
            rw [w1 h1 h2] at c1 c2
            have := edOk_mk (n := n.toNat) (a := (l[i]).f0) (b := (l[i]).f1) c1.1 (by omega) c2.1 (by omega) c3
            simp [this]
      · refine Ev.step (f := fun _ => some false) (fun k => ?_) (stop fun h1 h2 => ?_)
        · simp only [woggleref06_Graph.l0]
          rw [if_pos q1, if_pos q2, e0, in6_is, Option.bind_some, if_pos c1, in6_is, Option.bind_some, if_neg c2]
        · cases hq : edOk n.toNat l[i] with
          | false => rfl
          | true =>
            obtain ⟨p1, p2, p3, p4, p5⟩ := parts _ hq
            refine absurd ?_ c2
            rw [w1 h1 h2, decide_eq_true p3, decide_eq_true (by omega)]; rfl
    · refine Ev.step (f := fun _ => some false) (fun k => ?_) (stop fun h1 h2 => ?_)
      · simp only [woggleref06_Graph.l0]
        rw [if_pos q1, if_pos q2, e0, in6_is, Option.bind_some, if_neg c1]
      · cases hq : edOk n.toNat l[i] with
        | false => rfl
        | true =>
          obtain ⟨p1, p2, p3, p4, p5⟩ := parts _ hq
          refine absurd ?_ c1
          rw [w1 h1 h2, decide_eq_true p1, decide_eq_true (by omega)]; rfl
theorem graph_ev {n : Int} (hn : I64 n) {l : List S47} (hl : l.length ≤ 100) : Ev (fun k => woggleref06_Graph.f k n l) (graphB n l) := by
  unfold woggleref06_Graph.f
  exact graph_l0 hn hl l.length 0 (by omega) fun _ _ => rfl
section
variable {n : Nat} {E : Nat → Nat → Bool} {M : Mt} {L : List Int}
/-- The vertices that are reached from v by at most j edges. -/
def ballW (n : Nat) (M : Mt) (v : Nat) (j : Nat) (w : Nat) : Bool := decide (w < n) && (decide (M v w ≤ j) && decide (M v w < n))
theorem ballw_step (h : FlOk n E n M) (hb : ∀ u w, E u w = true → w < n) {v : Nat} (hv : v < n) (j w : Nat) : (ballW n M v j w || (List.range n).any fun u => ballW n M v j u && E u w) = ballW n M v (j + 1) w := by
  rw [Bool.eq_iff_iff]
  unfold ballW
  simp only [Bool.or_eq_true, Bool.and_eq_true, decide_eq_true_eq, List.any_eq_true, List.mem_range]
  constructor
  · rintro (⟨h1, h2, h3⟩ | ⟨u, _, ⟨h1, h2, h3⟩, h4⟩)
    · exact ⟨h1, by omega, h3⟩
    · have hw := hb u w h4
      have a1 := h.tri u v w h1 h1 hv hw
      have a2 := h.edge u w h1 hw h4
      have a3 := h.reach _ v w hv hw ((h.wk v u hv h1 h3).cat (Wk.one hw h4))
      exact ⟨hw, by omega, a3⟩
  · rintro ⟨h1, h2, h3⟩
    by_cases hle : M v w ≤ j
    · exact .inl ⟨h1, hle, h3⟩
    · have hw := h.wk v w hv h1 h3
      rw [show (M v w).toNat = j + 1 by omega] at hw
      obtain ⟨u, hu, hw2, hE⟩ := Wk.snoc hv hw
      exact .inr ⟨u, hu, ⟨hu, h.le_walk j v u hv hu hw2, h.reach j v u hv hu hw2⟩, hE⟩
theorem ballw_l0 (hn : n ≤ 10) (h : FlOk n E n M) (hb : ∀ u w, E u w = true → w < n) (hL : NearRep n E L) {v : Nat} (hv : v < n) : ∀ (d j : Nat) (x : Int), d ≤ 20 → Rep x (ballW n M v j) →
    ∃ y, Rep y (ballW n M v (j + d)) ∧ Ev (fun k => woggleref06_Ball.l0 k L (d : Int) x) y
  | 0, j, x, _, hx => by
    refine ⟨x, hx, Ev.step (f := fun _ => some x) (fun k => ?_) (Ev.now _)⟩
    simp only [woggleref06_Ball.l0]
    rw [if_neg (by omega)]
  | d + 1, j, x, hd, hx => by
    obtain ⟨a, ha, haev⟩ := around_ev hn hL hx
    have h2 := (hx.or ha).congr (ballw_step h hb hv j)
    obtain ⟨y, hy, hev⟩ := ballw_l0 hn h hb hL hv d (j + 1) _ (by omega) h2
    refine ⟨y, by rw [show j + (d + 1) = j + 1 + d by omega]; exact hy, Ev.step (f := fun k => (woggleref06_around.f k L x).bind fun t => woggleref06_Ball.l0 k L (d : Int) (Go.bits .or .i64 x t)) (fun k => ?_) (Ev.bind haev hev)⟩
    simp only [woggleref06_Ball.l0]
    rw [if_pos (by omega), pred_w d (by omega)]
theorem ballw_ev (hn : n ≤ 10) (h : FlOk n E n M) (hb : ∀ u w, E u w = true → w < n) (hL : NearRep n E L) {v : Nat} (hv : v < n) (r : Nat) (hr : r ≤ 20) : ∃ y, Rep y (ballW n M v r) ∧ Ev (fun k => woggleref06_Ball.f k L (v : Int) (r : Int)) y := by
  have h0 : Rep (shl .i64 1 (v : Int)) (ballW n M v 0) := (Rep.one (by omega)).congr fun w => by
    unfold ballW
    rw [Bool.eq_iff_iff]
    simp only [Bool.and_eq_true, decide_eq_true_eq]
    constructor
    · rintro rfl
      have := h.diag v hv
      exact ⟨hv, by omega, by omega⟩
    · rintro ⟨h1, h2, h3⟩
      have hp := h.pos v w hv h1
      have hw := h.wk v w hv h1 h3
      rw [show (M v w).toNat = 0 by omega] at hw
      exact hw
  obtain ⟨y, hy, hev⟩ := ballw_l0 hn h hb hL hv r 0 _ hr h0
  rw [Nat.zero_add] at hy
  refine ⟨y, hy, ?_⟩
  unfold woggleref06_Ball.f
  exact ev_pos (by omega) hev
theorem connected_ev (h1 : 1 ≤ n) (hn : n ≤ 10) (h : FlOk n E n M) (hb : ∀ u w, E u w = true → w < n) (hL : NearRep n E L) : Ev (fun k => woggleref06_Connected.f k L) ((List.range n).all fun w => decide (M 0 w < n)) := by
  obtain ⟨y, ⟨Y, rfl, hY, hbits⟩, hev⟩ := ballw_ev hn h hb hL (v := 0) (by omega) n (by omega)
  unfold woggleref06_Connected.f
  rw [hL.1]
  refine ev_eq (Ev.bind hev (Ev.now _)) ?_
  rw [eq_of_beq (List.all_eq_true.1 masks n (List.mem_range.2 (by omega))), Bool.eq_iff_iff, beq_iff_eq, List.all_eq_true]
  constructor
  · intro e w hw
    have hw : w < n := by simpa using hw
    have e2 : Y = 2 ^ n - 1 := Int.ofNat.inj e
    have := hbits w
    rw [e2, Nat.testBit_two_pow_sub_one, decide_eq_true hw] at this
    have := this.symm
    unfold ballW at this
    simp only [Bool.and_eq_true] at this
    exact this.2.2
  · intro hall
    refine congrArg Int.ofNat (Nat.eq_of_testBit_eq fun i => ?_)
    rw [hbits, Nat.testBit_two_pow_sub_one]
    unfold ballW
    by_cases hi : i < n
    · have h2 := of_decide_eq_true (hall i (List.mem_range.2 hi))
      have h3 : M 0 i ≤ n := by omega
      rw [decide_eq_true hi, decide_eq_true h2, decide_eq_true h3]; rfl
    · rw [decide_eq_false hi]; rfl
end
/-- What few hands on. -/
theorem few_ev {n : Int} (hn : I64 n) (l : List S47) : Ev (fun k => wogglelaw07_Graph_few.f k n l) (n, l.take 61, readOk n (l.take 61)) := by
  have hl : (l.take 61).length ≤ 61 := by rw [List.length_take]; omega
  have hm := mn_cut l.length 61 (by omega)
  have ht : l.take (mn (l.length : Int) 61).toNat = l.take 61 := cut_take l 61 (by omega)
  unfold wogglelaw07_Graph_few.f
  simp only [Option.bind_some]
  refine ev_pos hm.1 (ev_pos hm.2 ?_)
  rw [ht]
  refine ev_pos (by simp; omega) ?_
  rw [List.nil_append]
  generalize l.take 61 = y at hl
  refine Ev.bind (graph_ev hn (by omega)) ?_
  by_cases hg : graphB n y = true
  · refine ev_pos hg ?_
    have hg2 := hg
    unfold graphB at hg2
    simp only [Bool.and_eq_true, decide_eq_true_eq] at hg2
    obtain ⟨⟨⟨g1, g2⟩, g3⟩, g4⟩ := hg2
    obtain ⟨N, rfl⟩ : ∃ N : Nat, n = N := ⟨n.toNat, by omega⟩
    rw [Int.toNat_natCast] at g4
    obtain ⟨L, hL, hLev⟩ := near_ev (n := N) (by omega) g3 g4
    have hf := final_ok (n := N) (by omega) g4
    refine Ev.bind hLev (Ev.bind (connected_ev (by omega) (by omega) hf (fun u w => edE_lt g4 u w) hL) ?_)
    refine ev_eq (Ev.now _) ?_
    have e : ((List.range N).all fun w => decide (finalM N y 0 w < N)) = readOk N y := by
      rw [Bool.eq_iff_iff, List.all_eq_true]
      unfold readOk
      simp only [Bool.and_eq_true, decide_eq_true_eq, Int.toNat_natCast, rowMax_iff (show 1 ≤ N by omega)]
      constructor
      · exact fun h => ⟨⟨⟨⟨g1, g2⟩, g3⟩, g4⟩, fun j hj => h j (List.mem_range.2 hj)⟩
      · exact fun h w hw => h.2 w (List.mem_range.1 hw)
    rw [e]
  · refine ev_neg hg ?_
    refine ev_eq (Ev.now _) ?_
    have : readOk n y = false := by
      cases hq : readOk n y with
      | false => rfl
      | true =>
        refine absurd ?_ hg
        unfold readOk at hq
        unfold graphB
        simp only [Bool.and_eq_true] at hq ⊢
        exact hq.1
    rw [this]
/-- Which list comes first. -/
def befL : List Int → List Int → Bool
  | x :: xs, y :: ys => if x = y then befL xs ys else decide (x < y)
  | xs, ys => decide (xs.length < ys.length)
theorem befL_self : ∀ l : List Int, befL l l = false
  | [] => by simp [befL]
  | x :: l => by simp [befL, befL_self l]
theorem befL_both : ∀ xs ys : List Int, befL xs ys = false → befL ys xs = false → xs = ys
  | [], [], _, _ => rfl
  | [], y :: ys, h, _ => by simp [befL] at h
  | x :: xs, [], _, h => by simp [befL] at h
  | x :: xs, y :: ys, h1, h2 => by
    by_cases e : x = y
    · subst e
      simp only [befL, if_true] at h1 h2
      rw [befL_both xs ys h1 h2]
    · simp only [befL, if_neg e, if_neg (fun e2 => e e2.symm : ¬ y = x), decide_eq_false_iff_not] at h1 h2
      omega
theorem before_l0 (a b : List Int) (ha : a.length ≤ 1000) (hb : b.length ≤ 1000) : ∀ (d i : Nat), i + d = a.length → i ≤ b.length → Ev (fun k => woggleref01_Before.l0 k a b (i : Int)) (befL (a.drop i) (b.drop i))
  | 0, i, hd, hib => by
    have e : befL (a.drop i) (b.drop i) = decide ((a.length : Int) < b.length) := by
      rw [List.drop_eq_nil_of_le (by omega : a.length ≤ i)]
      have : befL [] (b.drop i) = decide (([] : List Int).length < (b.drop i).length) := by cases b.drop i <;> rfl
      rw [this, List.length_drop, List.length_nil, Bool.eq_iff_iff, decide_eq_true_eq, decide_eq_true_eq]
      omega
    rw [e]
    have : Ev (fun k => woggleref01_Before.j1 k a b (i : Int) false) (decide ((a.length : Int) < b.length)) := by
      refine Ev.step (f := fun _ => some (decide ((a.length : Int) < b.length))) (fun k => ?_) (Ev.now _)
      simp only [woggleref01_Before.j1]
      rw [if_neg (by decide)]
    refine Ev.step (fun k => ?_) this
    simp only [woggleref01_Before.l0]
    rw [if_neg (by omega)]
  | d + 1, i, hd, hib => by
    have hi : i < a.length := by omega
    have q1 : (i : Int) < a.length := by omega
    have q2 : (0 : Int) ≤ i := by omega
    by_cases hb2 : i < b.length
    · have q3 : (i : Int) < b.length := by omega
      rw [List.drop_eq_getElem_cons hi, List.drop_eq_getElem_cons hb2]
      by_cases e : a[i] = b[i]
      · have ih := before_l0 a b ha hb d (i + 1) (by omega) (by omega)
        have e2 : befL (a[i] :: a.drop (i + 1)) (b[i] :: b.drop (i + 1)) = befL (a.drop (i + 1)) (b.drop (i + 1)) := by simp only [befL]; rw [if_pos e]
        rw [e2]
        have : Ev (fun k => woggleref01_Before.j1 k a b (i : Int) (decide ((i : Int) < b.length))) (befL (a.drop (i + 1)) (b.drop (i + 1))) := by
          refine Ev.step (fun k => ?_) ih
          simp only [woggleref01_Before.j1]
          rw [if_pos (by simpa using q3), if_pos q2, if_pos q1, if_pos q3, rd_nat a i hi, rd_nat b i hb2, if_pos e, succ_w i (by omega)]
        refine Ev.step (fun k => ?_) this
        simp only [woggleref01_Before.l0]
        rw [if_pos q1]
      · have e2 : befL (a[i] :: a.drop (i + 1)) (b[i] :: b.drop (i + 1)) = decide (a[i] < b[i]) := by simp only [befL]; rw [if_neg e]
        rw [e2]
        have : Ev (fun k => woggleref01_Before.j1 k a b (i : Int) (decide ((i : Int) < b.length))) (decide (a[i] < b[i])) := by
          refine Ev.step (f := fun _ => some (decide (a[i] < b[i]))) (fun k => ?_) (Ev.now _)
          simp only [woggleref01_Before.j1]
          rw [if_pos (by simpa using q3), if_pos q2, if_pos q1, if_pos q3, rd_nat a i hi, rd_nat b i hb2, if_neg e]
        refine Ev.step (fun k => ?_) this
        simp only [woggleref01_Before.l0]
        rw [if_pos q1]
    · have e : befL (a.drop i) (b.drop i) = decide ((a.length : Int) < b.length) := by
        rw [List.drop_eq_nil_of_le (by omega : b.length ≤ i), List.drop_eq_getElem_cons hi]
        simp only [befL, List.length_nil]
        rw [Bool.eq_iff_iff, decide_eq_true_eq, decide_eq_true_eq]
        omega
      rw [e]
      have : Ev (fun k => woggleref01_Before.j1 k a b (i : Int) (decide ((i : Int) < b.length))) (decide ((a.length : Int) < b.length)) := by
        refine Ev.step (f := fun _ => some (decide ((a.length : Int) < b.length))) (fun k => ?_) (Ev.now _)
        simp only [woggleref01_Before.j1]
        rw [if_neg (by simp; omega)]
      refine Ev.step (fun k => ?_) this
      simp only [woggleref01_Before.l0]
      rw [if_pos q1]
theorem same_ev (a b : List Int) (ha : a.length ≤ 1000) (hb : b.length ≤ 1000) : Ev (fun k => woggleref01_Same.f k a b) (decide (a = b)) := by
  have h1 := before_l0 a b ha hb a.length 0 (by omega) (by omega)
  have h2 := before_l0 b a hb ha b.length 0 (by omega) (by omega)
  rw [List.drop_zero, List.drop_zero] at h1 h2
  unfold woggleref01_Same.f
  unfold woggleref01_Before.f
  refine Ev.bind h1 ?_
  by_cases c1 : befL a b = true
  · refine ev_pos c1 ?_
    have : a ≠ b := fun e => by subst e; rw [befL_self] at c1; cases c1
    rw [decide_eq_false this]; exact Ev.now _
  · refine ev_neg c1 (ev_eq (Ev.bind h2 (Ev.now _)) ?_)
    cases c2 : befL b a with
    | true =>
      have : a ≠ b := fun e => by subst e; rw [befL_self] at c2; cases c2
      rw [decide_eq_false this]; rfl
    | false => rw [decide_eq_true (befL_both a b (by simpa using c1) c2)]; rfl
end Go.Proofs.YtbeimdngghedjaaDoor.Pure

/-! The first of the smallest lists that are good: what the search finds, and what trying all sets keeps. -/
namespace Go.Proofs.YtbeimdngghedjaaDoor.Pure
open Go Go.Proofs Go.RowKit Go.Proofs.YtbeimdngghedjaaDoor.P Go.Proofs.YtbeimdngghedjaaDoorW.PrintWords Go.Proofs.YtbeimdngghedjaaDoorW.PrintLast
set_option linter.unusedVariables false
set_option maxRecDepth 100000
theorem befL_asymm : ∀ a b : List Int, befL a b = true → befL b a = false
  | [], [], h => by simp [befL] at h
  | [], y :: ys, h => by simp [befL]
  | x :: xs, [], h => by simp [befL] at h
  | x :: xs, y :: ys, h => by
    by_cases e : x = y
    · subst e
      simp only [befL, if_true] at h ⊢
      exact befL_asymm xs ys h
    · simp only [befL, if_neg e, if_neg (fun e2 => e e2.symm : ¬ y = x), decide_eq_true_eq] at h ⊢
      rw [decide_eq_false]; omega
/-- Fewer, or as many and first. -/
def ltL (a b : List Int) : Bool := decide (a.length < b.length) || (decide (a.length = b.length) && befL a b)
theorem ltL_asymm {a b : List Int} (h : ltL a b = true) : ltL b a = false := by
  unfold ltL at h ⊢
  simp only [Bool.or_eq_true, Bool.and_eq_true, decide_eq_true_eq] at h
  rcases h with h | ⟨h1, h2⟩
  · rw [decide_eq_false (by omega : ¬ b.length < a.length), decide_eq_false (by omega : ¬ b.length = a.length)]; rfl
  · rw [decide_eq_false (by omega : ¬ b.length < a.length), befL_asymm _ _ h2]; simp
theorem ltL_self (a : List Int) : ltL a a = false := by
  unfold ltL
  rw [befL_self, decide_eq_false (Nat.lt_irrefl _)]; simp
theorem findF_first {p : List Int → Bool} {n : Nat} : ∀ {k : Nat} {l r s : List Int}, findF p n k l = some r → s.length = k → Ris n (fromI l) s → p (l ++ s) = true → ∃ t, r = l ++ t ∧ t.length = k ∧ (t = s ∨ befL t s = true)
  | 0, l, r, s, h, hs, hr, hp => by
    obtain ⟨_, t, e, ht, _⟩ := findF_sound h
    obtain rfl := List.eq_nil_of_length_eq_zero hs
    obtain rfl := List.eq_nil_of_length_eq_zero ht
    exact ⟨[], e, rfl, .inl rfl⟩
  | k + 1, l, r, s, h, hs, hr, hp => by
    cases s with
    | nil => simp at hs
    | cons y s =>
      obtain ⟨h1, h2, h3⟩ := hr
      have hs' : s.length = k := by simpa using hs
      have hp' : p ((l ++ [y]) ++ s) = true := by simpa using hp
      simp only [findF] at h
      obtain ⟨x, q1, q2, q3, q4⟩ := tryF_some h
      by_cases hlt : y < x
      · obtain ⟨r2, hr2⟩ := findF_complete (p := p) (l := l ++ [y]) (s := s) hs' (by rw [fromI_snoc]; exact h3) hp'
        rw [q4 y h1 hlt] at hr2; cases hr2
      · by_cases e : x = y
        · subst e
          obtain ⟨t, e2, ht, hb⟩ := findF_first (s := s) q3 hs' (by rw [fromI_snoc]; exact h3) hp'
          refine ⟨x :: t, by rw [e2]; simp, by simp [ht], ?_⟩
          rcases hb with rfl | hb
          · exact .inl rfl
          · right; simp only [befL, if_true]; exact hb
        · obtain ⟨_, t, e2, ht, _⟩ := findF_sound q3
          refine ⟨x :: t, by rw [e2]; simp, by simp [ht], .inr ?_⟩
          simp only [befL, if_neg e]
          exact decide_eq_true (by omega)
theorem smallF_first {p : List Int → Bool} {n : Nat} {r : List Int} (h : smallF p n 11 0 = some r) {s : List Int} (hs : Ris n 0 s) (hp : p s = true) : r = s ∨ ltL r s = true := by
  obtain ⟨j, _, hj, hf, _⟩ := smallF_some h
  obtain ⟨_, t0, e0, ht0, _⟩ := findF_sound hf
  have hl : r.length = j := by rw [e0]; simpa using ht0
  have hle := (smallF_least h).2.2 s hs hp
  by_cases he : s.length = j
  · obtain ⟨t, e, ht, hb⟩ := findF_first hf he hs (by simpa using hp)
    have e : r = t := by simpa using e
    subst e
    rcases hb with hb | hb
    · exact .inl hb
    · right; unfold ltL; rw [hb, decide_eq_true (by omega : r.length = s.length)]; simp
  · right; unfold ltL; rw [decide_eq_true (by omega : r.length < s.length)]; rfl
/-- One round of the reference's search. -/
def pick (p : List Int → Bool) (best : Option (List Int)) (l : List Int) : Option (List Int) :=
  if p l = true then (match best with
    | none => some l
    | some b => if ltL l b = true then some l else some b) else best
theorem pick_first {p : List Int → Bool} {r : List Int} (hp : p r = true) : ∀ (L : List (List Int)) (best : Option (List Int)), (∀ s ∈ L, p s = true → r = s ∨ ltL r s = true) → (best = some r ∨ r ∈ L ∧ ∀ b, best = some b → ltL r b = true) → L.foldl (pick p) best = some r
  | [], best, _, h => by
    rcases h with h | ⟨h, _⟩
    · exact h
    · cases h
  | s :: L, best, hL, h => by
    rw [List.foldl_cons]
    refine pick_first hp L _ (fun x hx => hL x (List.mem_cons_of_mem _ hx)) ?_
    have hs := hL s (List.mem_cons_self)
    unfold pick
    rcases h with rfl | ⟨hm, hb⟩
    · left
      by_cases hps : p s = true
      · rw [if_pos hps]
        rcases hs hps with rfl | h2
        · simp only [ltL_self]; simp
        · simp only [ltL_asymm h2]; simp
      · rw [if_neg hps]
    · by_cases e : s = r
      · subst e
        left
        rw [if_pos hp]
        cases best with
        | none => rfl
        | some b => simp only [hb b rfl]; simp
      · right
        refine ⟨by rcases List.mem_cons.1 hm with h | h; exact absurd h.symm e; exact h, fun b hbb => ?_⟩
        by_cases hps : p s = true
        · rw [if_pos hps] at hbb
          have h2 := (hs hps).resolve_left (fun h => e h.symm)
          cases best with
          | none => obtain rfl := Option.some.inj hbb; exact h2
          | some b0 =>
            by_cases hlt : ltL s b0 = true
            · simp only [hlt, if_true] at hbb; obtain rfl := Option.some.inj hbb; exact h2
            · simp only [if_neg hlt] at hbb; obtain rfl := Option.some.inj hbb; exact hb b0 rfl
        · rw [if_neg hps] at hbb; exact hb b hbb
/-- The members of a set. -/
def mems (s : Nat) : List Int := (woggleref01_Members.f 20 (s : Int)).getD []
def bitSum : List Int → Nat
  | [] => 0
  | x :: l => 2 ^ x.toNat + bitSum l
theorem mems_all : ((List.range 9).all fun n => (List.range (2 ^ n)).all fun s => (woggleref01_Members.f 20 (s : Int)).isSome) = true := by decide +kernel
theorem mems_every : ((List.range 9).all fun n => (enum n 0).all fun m => decide (bitSum m < 2 ^ n) && (mems (bitSum m) == m)) = true := by decide +kernel
theorem mems_ev {n s : Nat} (hn : n ≤ 8) (hs : s < 2 ^ n) : Ev (fun k => woggleref01_Members.f k (s : Int)) (mems s) ∧ Ris n 0 (mems s) := by
  have h1 := List.all_eq_true.1 (List.all_eq_true.1 mems_all n (List.mem_range.2 (by omega))) s (List.mem_range.2 hs)
  obtain ⟨m, hm⟩ := Option.isSome_iff_exists.1 h1
  have e : mems s = m := by unfold mems; rw [hm]; rfl
  obtain ⟨m2, hr, K, hk⟩ := members_ev (n := n) (by omega) hs
  have h2 := Ev.mono_at (woggleref01_Members.mono _) hm
  obtain ⟨K2, hk2⟩ := h2
  have : m = m2 := by
    have a := hk (K + K2) (by omega)
    have b := hk2 (K + K2) (by omega)
    have : some m = some m2 := b.symm.trans a
    exact Option.some.inj this
  subst this
  rw [e]
  exact ⟨⟨K2, hk2⟩, hr⟩
theorem mems_hit {n : Nat} (hn : n ≤ 8) {m : List Int} (hm : Ris n 0 m) : m ∈ (List.range (2 ^ n)).map mems := by
  have h1 := List.all_eq_true.1 (List.all_eq_true.1 mems_every n (List.mem_range.2 (by omega))) m (ris_enum n 0 m (by omega) hm)
  simp only [Bool.and_eq_true, decide_eq_true_eq, beq_iff_eq] at h1
  exact List.mem_map.2 ⟨bitSum m, List.mem_range.2 h1.1, h1.2⟩
theorem pick_small {p : List Int → Bool} {n : Nat} (hn : n ≤ 8) {r : List Int} (h : smallF p n 11 0 = some r) : ((List.range (2 ^ n)).map mems).foldl (pick p) none = some r := by
  obtain ⟨hp, hr, _⟩ := smallF_least h
  refine pick_first hp _ _ (fun s hs hps => ?_) (.inr ⟨mems_hit hn hr, fun b hb => by cases hb⟩)
  obtain ⟨x, hx, rfl⟩ := List.mem_map.1 hs
  exact smallF_first h (mems_ev hn (List.mem_range.1 hx)).2 hps
end Go.Proofs.YtbeimdngghedjaaDoor.Pure

/-! What the law's cut, and the reference's Rising, Codes, Confused and SameLists answer. -/
namespace Go.Proofs.YtbeimdngghedjaaDoor.Pure
open Go Go.Proofs Go.RowKit Go.Proofs.YtbeimdngghedjaaDoor.P Go.Proofs.YtbeimdngghedjaaDoorW.PrintWords Go.Proofs.YtbeimdngghedjaaDoorW.PrintLast
set_option linter.unusedVariables false
theorem cut_is (l : List Int) : wogglelaw07_cut.f l = some (l.take 11) := by
  have hm := mn_cut l.length 11 (by omega)
  have ht : l.take (mn (l.length : Int) 11).toNat = l.take 11 := cut_take l 11 (by omega)
  unfold wogglelaw07_cut.f
  simp only [Option.bind_some]
  rw [if_pos hm.1, if_pos hm.2, ht, if_pos (by simp; omega), List.nil_append]
theorem rising_any_l0 {n : Nat} (h1 : 1 ≤ n) (hn : n ≤ 10) {m : List Int} (hl : m.length ≤ 1000) : ∀ (d i : Nat), i + d = m.length → (List.range i).any (badMark n m) = false → Ev (fun k => woggleref01_Rising.l0 k n m (i : Int)) (!(List.range m.length).any (badMark n m))
  | 0, i, hd, hb => by
    obtain rfl : i = m.length := by omega
    rw [hb]
    refine Ev.step (f := fun _ => some true) (fun k => ?_) (Ev.now _)
    simp only [woggleref01_Rising.l0]
    rw [if_neg (by omega)]
  | d + 1, i, hd, hb => by
    have hi : i < m.length := by omega
    have q1 : (i : Int) < m.length := by omega
    have q2 : (0 : Int) ≤ i := by omega
    have w : wrap64 ((n : Int) - 1) = (n : Int) - 1 := IntWalk.wrap64_in _ (by omega)
    have stop : badMark n m i = true → Ev (fun _ : Nat => some false) (!(List.range m.length).any (badMark n m)) := fun h => by
      rw [any_bad hi h]; exact Ev.now _
    have next : badMark n m i = false → Ev (fun k => woggleref01_Rising.l0 k n m ((i + 1 : Nat) : Int)) (!(List.range m.length).any (badMark n m)) := fun h =>
      rising_any_l0 h1 hn hl d (i + 1) (by omega) (by rw [List.range_succ, List.any_append, hb]; simp [h])
    by_cases c1 : (decide (0 ≤ rd m (i : Int)) && decide (rd m (i : Int) ≤ (n : Int) - 1)) = true
    · have c1' := c1
      simp only [Bool.and_eq_true, decide_eq_true_eq] at c1'
      by_cases c2 : 0 < i
      · have q3 : (i : Int) > 0 := by omega
        have w2 : wrap64 ((i : Int) - 1) = (i : Int) - 1 := IntWalk.wrap64_in _ (by omega)
        have q4 : (0 : Int) ≤ (i : Int) - 1 := by omega
        have q5 : (i : Int) - 1 < m.length := by omega
        by_cases c3 : rd m (i : Int) ≤ rd m ((i : Int) - 1)
        · refine Ev.step (f := fun _ => some false) (fun k => ?_) (stop (by unfold badMark; simp [c2, c3]))
          simp only [woggleref01_Rising.l0]
          rw [if_pos q1, if_pos q2, w, in1_is, Option.bind_some, if_pos c1, if_pos q3, w2, if_pos q4, if_pos q5, if_pos c3]
        · refine Ev.step (fun k => ?_) (next (by
            unfold badMark
            rw [decide_eq_false (show ¬ rd m (i : Int) < 0 by omega), decide_eq_false (show ¬ (n : Int) ≤ rd m (i : Int) by omega), decide_eq_false c3]; simp))
          simp only [woggleref01_Rising.l0]
          rw [if_pos q1, if_pos q2, w, in1_is, Option.bind_some, if_pos c1, if_pos q3, w2, if_pos q4, if_pos q5, if_neg c3, succ_w i (by omega)]
      · have q3 : ¬ (i : Int) > 0 := by omega
        refine Ev.step (fun k => ?_) (next (by
            unfold badMark
            rw [decide_eq_false (show ¬ rd m (i : Int) < 0 by omega), decide_eq_false (show ¬ (n : Int) ≤ rd m (i : Int) by omega), decide_eq_false c2]; simp))
        simp only [woggleref01_Rising.l0]
        rw [if_pos q1, if_pos q2, w, in1_is, Option.bind_some, if_pos c1, if_neg q3, succ_w i (by omega)]
    · have hbad : badMark n m i = true := by
        unfold badMark
        by_cases a1 : rd m (i : Int) < 0
        · rw [decide_eq_true a1]; simp
        · have a2 : (n : Int) ≤ rd m (i : Int) := by
            simp only [Bool.and_eq_true, decide_eq_true_eq] at c1
            omega
          rw [decide_eq_true a2]; simp
      refine Ev.step (f := fun _ => some false) (fun k => ?_) (stop hbad)
      simp only [woggleref01_Rising.l0]
      rw [if_pos q1, if_pos q2, w, in1_is, Option.bind_some, if_neg c1]
theorem rising_any {n : Nat} (h1 : 1 ≤ n) (hn : n ≤ 10) {m : List Int} (hl : m.length ≤ 1000) : Ev (fun k => woggleref01_Rising.f k n m) (!(List.range m.length).any (badMark n m)) := by
  unfold woggleref01_Rising.f
  exact rising_any_l0 h1 hn hl m.length 0 (by omega) rfl
theorem mk_good {n : Nat} {m : List Int} (hl : m.length ≤ 1000) (h : (List.range m.length).any (badMark n m) = false) : Mk n m := by
  refine ⟨by omega, fun x hx => ?_⟩
  obtain ⟨i, hi, rfl⟩ := List.getElem_of_mem hx
  have h2 : badMark n m i = false := by
    cases hq : badMark n m i with
    | false => rfl
    | true => rw [any_bad hi hq] at h; cases h
  unfold badMark at h2
  rw [rd_nat m i hi] at h2
  simp only [Bool.or_eq_false_iff, decide_eq_false_iff_not] at h2
  obtain ⟨⟨a, b⟩, _⟩ := h2
  omega
section
variable {n : Nat} {M : Mt} {m : List Int}
theorem rcodes_l1 (hn : n ≤ 10) (hm : Mk n m) (hl : m.length ≤ 1000) {v : Nat} (hv : v < n) {D : List (List Int)} (hD : D.length ≤ 10) {r : List (List Int)}
    (hev : Ev (fun k => woggleref07_Codes.l0 k (rowsA n M) m (D ++ [codeL M v m]) ((v + 1 : Nat) : Int)) r) : Ev (fun k => woggleref07_Codes.l1 k (rowsA n M) m D v [] 0) r := by
  refine up_ind (fun i => Ev (fun k => woggleref07_Codes.l1 k (rowsA n M) m D v (codeL M v (m.take i)) (i : Int)) r) m.length ?_ ?_
  · rw [List.take_length]
    refine Ev.step (fun k => ?_) hev
    simp only [woggleref07_Codes.l1]
    rw [if_neg (by omega), if_pos (by omega), succ_w v (by omega)]
  · intro i hi ih
    obtain ⟨b0, b1⟩ := hm.2 _ (List.getElem_mem hi)
    have q1 : (i : Int) < m.length := by omega
    have q2 : (0 : Int) ≤ v := by omega
    have q3 : (v : Int) < ((rowsA n M).length : Int) := by simp [rowsA]; omega
    have q4 : (0 : Int) ≤ i := by omega
    have q5 : m[i] < ((rd_L5 (rowsA n M) (v : Int)).length : Int) := by rw [row_at v hv]; simp; omega
    have q6 : (codeL M v (m.take i)).length < 17592186044416 := by rw [codeL_len, List.length_take]; omega
    refine Ev.step (fun k => ?_) ih
    simp only [woggleref07_Codes.l1]
    rw [if_pos q1, if_pos q2, if_pos q3, if_pos q4, rd_nat m i hi, if_pos b0, if_pos q5, if_pos q6, succ_w i (by omega), row_at v hv, cell_at_ v _ b0 b1, take_up m i hi]
    unfold codeL
    rw [List.map_append]
    rfl
theorem rcodes_ev (hn : n ≤ 10) (hm : Mk n m) (hl : m.length ≤ 1000) : Ev (fun k => woggleref07_Codes.f k (rowsA n M) m) (codesL n M m) := by
  unfold woggleref07_Codes.f
  refine up_ind (fun i => Ev (fun k => woggleref07_Codes.l0 k (rowsA n M) m ((List.range i).map fun v => codeL M v m) (i : Int)) (codesL n M m)) n ?_ ?_
  · refine Ev.step (f := fun _ => some (codesL n M m)) (fun k => ?_) (Ev.now _)
    simp only [woggleref07_Codes.l0]
    rw [if_neg (by simp [rowsA])]; rfl
  · intro i hi ih
    rw [range_succ_map] at ih
    refine Ev.step (fun k => ?_) (rcodes_l1 hn hm hl hi (by simp; omega) ih)
    simp only [woggleref07_Codes.l0]
    rw [if_pos (by simp [rowsA]; omega)]
theorem rd_codesL {i : Nat} (hi : i < n) : rd_L5 (codesL n M m) (i : Int) = codeL M i m := by unfold rd_L5 codesL; simp [hi]
/-- The pair as a list; the pair of minus ones is no pair. -/
def toL (p : Int × Int) : List Int := if p.1 = -1 ∧ p.2 = -1 then [] else [p.1, p.2]
theorem refconf_ev (hn : n ≤ 10) (hm : Mk n m) (hl : m.length ≤ 1000) : Ev (fun k => woggleref07_Confused.f k (rowsA n M) m) (toL (confF n M m)) := by
  unfold woggleref07_Confused.f
  refine Ev.bind (rcodes_ev hn hm hl) ?_
  have len : (codesL n M m).length = n := by simp [codesL]
  have key := up_ind (fun u => Ev (fun k => woggleref07_Confused.l0 k (codesL n M m) (u : Int)) (toL (cfU M m n (n - u) u))) n ?_ ?_
  · exact key
  · refine Ev.step (f := fun _ => some []) (fun k => ?_) ?_
    · simp only [woggleref07_Confused.l0]
      rw [if_neg (by omega)]
    · rw [Nat.sub_self]; exact Ev.now _
  · intro u hu ih
    refine Ev.step (f := fun k => woggleref07_Confused.l1 k (codesL n M m) (u : Int) ((u + 1 : Nat) : Int)) (fun k => ?_) ?_
    · simp only [woggleref07_Confused.l0]
      rw [if_pos (by omega), succ_w u (by omega)]
    have inner := up_from (fun v => Ev (fun k => woggleref07_Confused.l1 k (codesL n M m) (u : Int) (v : Int)) (toL (match cfV M m u (n - v) v with | some x => ((u : Int), (x : Int)) | none => cfU M m n (n - (u + 1)) (u + 1)))) (u + 1) n (by omega) ?_ ?_
    · rw [show n - u = (n - (u + 1)) + 1 by omega]
      exact inner
    · refine Ev.step (fun k => ?_) (show Ev (fun k => woggleref07_Confused.l0 k (codesL n M m) ((u + 1 : Nat) : Int)) (toL (match cfV M m u (n - n) n with | some x => ((u : Int), (x : Int)) | none => cfU M m n (n - (u + 1)) (u + 1))) by rw [Nat.sub_self]; exact ih)
      simp only [woggleref07_Confused.l1]
      rw [if_neg (by omega), succ_w u (by omega)]
    · intro v hv1 hv ih2
      refine Ev.step (f := fun k => (woggleref01_Same.f k (codeL M u m) (codeL M v m)).bind fun t => if t = true then some [(u : Int), (v : Int)] else woggleref07_Confused.l1 k (codesL n M m) (u : Int) ((v + 1 : Nat) : Int)) (fun k => ?_) ?_
      · simp only [woggleref07_Confused.l1]
        rw [if_pos (by omega), if_pos (by omega), if_pos (by omega), if_pos (by omega), rd_codesL hu, rd_codesL hv, succ_w v (by omega)]
      refine Ev.bind (same_ev _ _ (by rw [codeL_len]; exact hl) (by rw [codeL_len]; exact hl)) ?_
      rw [show n - v = (n - (v + 1)) + 1 by omega]
      by_cases he : codeL M u m = codeL M v m
      · rw [decide_eq_true he]
        simp only [cfV]
        rw [if_pos he]
        refine Ev.congr (fun _ => if_pos trivial) (ev_eq (Ev.now _) ?_)
        unfold toL
        rw [if_neg (show ¬ ((u : Int) = -1 ∧ (v : Int) = -1) by omega)]
      · rw [decide_eq_false he]
        simp only [cfV]
        rw [if_neg he]
        exact Ev.congr (fun _ => if_neg (by decide)) ih2
end
theorem rd_L5_nat (X : List (List Int)) (i : Nat) (h : i < X.length) : rd_L5 X (i : Int) = X[i] := by unfold rd_L5; simp [h]
theorem samelists_self {X : List (List Int)} (h : X.length ≤ 1000) (hr : ∀ r ∈ X, r.length ≤ 1000) : Ev (fun k => woggleref01_SameLists.f k X X) true := by
  unfold woggleref01_SameLists.f
  refine ev_pos rfl ?_
  refine up_ind (fun i => Ev (fun k => woggleref01_SameLists.l0 k X X (i : Int)) true) X.length ?_ ?_
  · refine Ev.step (f := fun _ => some true) (fun k => ?_) (Ev.now _)
    simp only [woggleref01_SameLists.l0]
    rw [if_neg (by omega)]
  · intro i hi ih
    refine Ev.step (f := fun k => (woggleref01_Same.f k X[i] X[i]).bind fun t => if t = true then woggleref01_SameLists.l0 k X X ((i + 1 : Nat) : Int) else some false) (fun k => ?_) ?_
    · simp only [woggleref01_SameLists.l0]
      rw [if_pos (by omega), if_pos (by omega), if_pos (by omega), rd_L5_nat X i hi, succ_w i (by omega)]
    · have := hr _ (List.getElem_mem hi)
      exact Ev.bind (same_ev _ _ this this) (ev_pos (by simp) ih)
end Go.Proofs.YtbeimdngghedjaaDoor.Pure

/-! Basis and Double answer the first of the smallest landmarks that resolve, or doubly resolve, by the reference's distances, or ErrArg: for all graphs of at most 8 vertices. -/
namespace Go.Proofs.YtbeimdngghedjaaDoor.Pure
open Go Go.Proofs Go.RowKit Go.Proofs.YtbeimdngghedjaaDoor.P Go.Proofs.YtbeimdngghedjaaDoorW.PrintWords Go.Proofs.YtbeimdngghedjaaDoorW.PrintLast
set_option linter.unusedVariables false
theorem before_ev (a b : List Int) (ha : a.length ≤ 1000) (hb : b.length ≤ 1000) : Ev (fun k => woggleref01_Before.f k a b) (befL a b) := by
  have h := before_l0 a b ha hb a.length 0 (by omega) (by omega)
  rw [List.drop_zero, List.drop_zero] at h
  unfold woggleref01_Before.f
  exact h
/-- What the loop carries. -/
def stL : Option (List Int) → List Int
  | none => []
  | some b => b
def stN : Option (List Int) → Bool
  | none => true
  | some _ => false
def takeB (best : Option (List Int)) (l : List Int) : Option (List Int) := match best with
  | none => some l
  | some b => if ltL l b = true then some l else some b
theorem pow_all : ((List.range 9).all fun n => shl .i64 1 (n : Int) == ((2 ^ n : Nat) : Int)) = true := by decide +kernel
section
variable {n : Nat} {E : Nat → Nat → Bool} {M : Mt}
theorem take_ev (dbl : Bool) (r : List Int) (s : Nat) (hs : s ≤ 1000) (best : Option (List Int)) (l : List Int) (hl : l.length ≤ 1000) (hb : ∀ b, best = some b → b.length ≤ 1000)
    (ih : Ev (fun k => woggleref07_Basis.l0 k (rowsA n M) dbl (stL (takeB best l)) (stN (takeB best l)) ((s + 1 : Nat) : Int)) r) :
    Ev (fun k => if stN best = true then (woggleref07_Basis.l0 k (rowsA n M) dbl l false (wrap64 ((s : Int) + 1))) else (if (l.length : Int) < ((stL best).length : Int) then (woggleref07_Basis.l0 k (rowsA n M) dbl l false (wrap64 ((s : Int) + 1))) else (if (l.length : Int) = ((stL best).length : Int) then ((woggleref01_Before.f k l (stL best)).bind fun t => (if t = true then (woggleref07_Basis.l0 k (rowsA n M) dbl l false (wrap64 ((s : Int) + 1))) else (woggleref07_Basis.l0 k (rowsA n M) dbl (stL best) (stN best) (wrap64 ((s : Int) + 1))))) else (woggleref07_Basis.l0 k (rowsA n M) dbl (stL best) (stN best) (wrap64 ((s : Int) + 1)))))) r := by
  rw [succ_w s (by omega)]
  cases best with
  | none => exact ev_pos rfl ih
  | some b =>
    have hbl := hb b rfl
    refine ev_neg (by simp [stN]) ?_
    simp only [stL, stN, takeB] at ih ⊢
    by_cases c1 : l.length < b.length
    · rw [if_pos (by unfold ltL; rw [decide_eq_true c1]; rfl)] at ih
      exact ev_pos (by omega) ih
    · refine ev_neg (by omega) ?_
      by_cases c2 : l.length = b.length
      · refine ev_pos (by omega) (Ev.bind (before_ev l b hl hbl) ?_)
        cases c3 : befL l b with
        | true =>
          rw [if_pos (by unfold ltL; rw [decide_eq_true c2, c3]; simp)] at ih
          exact ev_pos rfl ih
        | false =>
          rw [if_neg (by unfold ltL; rw [decide_eq_false c1, c3]; simp)] at ih
          exact ev_neg (by decide) ih
      · rw [if_neg (by unfold ltL; rw [decide_eq_false c1, decide_eq_false c2]; simp)] at ih
        exact ev_neg (by omega) ih
theorem toL_zero (p : Int × Int) : (toL p).length = 0 ↔ p.1 = -1 ∧ p.2 = -1 := by
  unfold toL
  by_cases hc : p.1 = -1 ∧ p.2 = -1
  · rw [if_pos hc]; simp [hc.1, hc.2]
  · rw [if_neg hc]; simpa using hc
theorem refbasis_l0 (hn : n ≤ 8) (h : Met n E M) (dbl : Bool) (r : List Int) : ∀ (d s : Nat) (best : Option (List Int)), s + d = 2 ^ n → (∀ b, best = some b → b.length ≤ 1000) →
    ((List.range' s d).map mems).foldl (pick (if dbl = true then dblP n M else resP n M)) best = some r → Ev (fun k => woggleref07_Basis.l0 k (rowsA n M) dbl (stL best) (stN best) (s : Int)) r
  | 0, s, best, hd, hb, hf => by
    have hp := eq_of_beq (List.all_eq_true.1 pow_all n (List.mem_range.2 (by omega)))
    obtain rfl : best = some r := hf
    refine Ev.step (f := fun _ => some r) (fun k => ?_) (Ev.now _)
    simp only [woggleref07_Basis.l0]
    rw [if_neg (by rw [show ((rowsA n M).length : Int) = (n : Int) by simp [rowsA], hp]; omega)]
    rfl
  | d + 1, s, best, hd, hb, hf => by
    have hp := eq_of_beq (List.all_eq_true.1 pow_all n (List.mem_range.2 (by omega)))
    have h8 : 2 ^ n ≤ 2 ^ 8 := Nat.pow_le_pow_right (by omega) hn
    obtain ⟨hmem, hris⟩ := mems_ev hn (s := s) (by omega)
    have hmk := ris_mk (by omega : n ≤ 10) hris
    have hml : (mems s).length ≤ 1000 := by have := ris_len hris (by omega); omega
    have hc := refconf_ev (M := M) (by omega : n ≤ 10) hmk hml
    have hdb := refdbl_ev h hmk
    rw [List.range'_succ, List.map_cons, List.foldl_cons] at hf
    have hsh : (s : Int) < shl .i64 1 ((rowsA n M).length : Int) := by
      rw [show ((rowsA n M).length : Int) = (n : Int) by simp [rowsA], hp]; omega
    have hb2 : ∀ b, pick (if dbl = true then dblP n M else resP n M) best (mems s) = some b → b.length ≤ 1000 := fun b hbb => by
      unfold pick at hbb
      by_cases c : (if dbl = true then dblP n M else resP n M) (mems s) = true
      · rw [if_pos c] at hbb
        cases best with
        | none => obtain rfl := Option.some.inj hbb; exact hml
        | some b0 =>
          simp only at hbb
          by_cases c2 : ltL (mems s) b0 = true
          · rw [if_pos c2] at hbb; obtain rfl := Option.some.inj hbb; exact hml
          · rw [if_neg c2] at hbb; obtain rfl := Option.some.inj hbb; exact hb _ rfl
      · rw [if_neg c] at hbb; exact hb b hbb
    have ih := refbasis_l0 hn h dbl r d (s + 1) _ (by omega) hb2 hf
    have hz := toL_zero (confF n M (mems s))
    have hrp : resP n M (mems s) = true ↔ (confF n M (mems s)).1 = -1 ∧ (confF n M (mems s)).2 = -1 := by unfold resP; simp
    have yes : (if dbl = true then dblP n M else resP n M) (mems s) = true → Ev (fun k => woggleref07_Basis.l0 k (rowsA n M) dbl (stL (takeB best (mems s))) (stN (takeB best (mems s))) ((s + 1 : Nat) : Int)) r := fun hp => by
      unfold pick at ih
      rw [if_pos hp] at ih
      exact ih
    have no : ¬ (if dbl = true then dblP n M else resP n M) (mems s) = true → Ev (fun k => woggleref07_Basis.l0 k (rowsA n M) dbl (stL best) (stN best) (wrap64 ((s : Int) + 1))) r := fun hp => by
      unfold pick at ih
      rw [if_neg hp] at ih
      rw [succ_w s (by omega)]
      exact ih
    have hok : Ev (fun k => if dbl = true then (woggleref07_Doubly.f k (rowsA n M) (mems s)) else (some (((toL (confF n M (mems s))).length : Int) == 0))) ((if dbl = true then dblP n M else resP n M) (mems s)) := by
      cases dbl with
      | true => exact ev_pos rfl hdb
      | false =>
        refine ev_neg (by decide) (ev_eq (Ev.now _) ?_)
        simp only [Bool.false_eq_true, if_false]
        rw [Bool.eq_iff_iff, beq_iff_eq, hrp, ← hz]
        omega
    refine Ev.step (f := fun k => (woggleref01_Members.f k s).bind fun t262 => ((woggleref07_Confused.f k (rowsA n M) t262).bind fun t265 => ((if dbl = true then (woggleref07_Doubly.f k (rowsA n M) t262) else (some ((t265.length : Int) == 0))).bind fun ok => (if ok = true then (if stN best = true then (woggleref07_Basis.l0 k (rowsA n M) dbl t262 false (wrap64 ((s : Int) + 1))) else (if (t262.length : Int) < ((stL best).length : Int) then (woggleref07_Basis.l0 k (rowsA n M) dbl t262 false (wrap64 ((s : Int) + 1))) else (if (t262.length : Int) = ((stL best).length : Int) then ((woggleref01_Before.f k t262 (stL best)).bind fun t => (if t = true then (woggleref07_Basis.l0 k (rowsA n M) dbl t262 false (wrap64 ((s : Int) + 1))) else (woggleref07_Basis.l0 k (rowsA n M) dbl (stL best) (stN best) (wrap64 ((s : Int) + 1))))) else (woggleref07_Basis.l0 k (rowsA n M) dbl (stL best) (stN best) (wrap64 ((s : Int) + 1)))))) else (woggleref07_Basis.l0 k (rowsA n M) dbl (stL best) (stN best) (wrap64 ((s : Int) + 1))))))) (fun k => by
      rw [woggleref07_Basis.l0, if_pos hsh]) (Ev.bind hmem (Ev.bind hc (Ev.bind hok ?_)))
    cases hq : (if dbl = true then dblP n M else resP n M) (mems s) with
    | true => exact ev_pos rfl (take_ev dbl r s (by omega) best (mems s) hml hb (yes hq))
    | false => exact ev_neg (by decide) (no (by rw [hq]; decide))
theorem refbasis_ev (hn : n ≤ 8) (h : Met n E M) (dbl : Bool) {r : List Int} (hr : smallF (if dbl = true then dblP n M else resP n M) n 11 0 = some r) : Ev (fun k => woggleref07_Basis.f k (rowsA n M) dbl) r := by
  unfold woggleref07_Basis.f
  refine refbasis_l0 hn h dbl r (2 ^ n) 0 none (by omega) (fun b hb => by cases hb) ?_
  rw [← List.range_eq_range']
  exact pick_small hn hr
end
theorem BeaconBases : wogglelaw07_BeaconBases.Pure := by
  intro n e hn he
  have hfew := few_ev (i64_of hn) e
  generalize hy : e.take 61 = y at hfew
  have key : Ev (fun k => wogglelaw07_BeaconBases.f k n e) true := by
    unfold wogglelaw07_BeaconBases.f
    refine Ev.bind hfew ?_
    by_cases hr : readOk n y = true
    · have hr0 := hr
      obtain ⟨N, rfl, n1, n10, ylen, yok, yrow⟩ := readOk_parts hr
      have hM := met_of hr
      refine ev_pos hr ?_
      by_cases h8 : N ≤ 8
      · obtain ⟨p, hp⟩ := small_ex (p := resP N (finalM N y)) hM.n10 (res_full hM)
        obtain ⟨q, hq⟩ := small_ex (p := dblP N (finalM N y)) hM.n10 (dbl_full hM)
        have hB : beacon_Basis.f N y = some (p, 0) := by unfold beacon_Basis.f; rw [if_pos hr, Int.toNat_natCast, hp]; rfl
        have hD : beacon_Double.f N y = some (q, 0) := by unfold beacon_Double.f; rw [if_pos hr, Int.toNat_natCast, hq]; rfl
        have r1 := refbasis_ev h8 hM false (r := p) (by simpa using hp)
        have r2 := refbasis_ev h8 hM true (r := q) (by simpa using hq)
        have lp : p.length ≤ 1000 := by have := ris_len (smallF_least hp).2.1 (by omega); omega
        have lq : q.length ≤ 1000 := by have := ris_len (smallF_least hq).2.1 (by omega); omega
        obtain ⟨L, hL, hLev⟩ := near_ev n10 ylen yok
        have hDs := dist_ev hM (fun u w => edE_lt yok u w) hL
        rw [decide_eq_false (by omega : ¬ (N : Int) > 8)]
        refine Ev.step (f := fun k => (woggleref06_Near.f k N y).bind fun t280 => ((woggleref07_Distances.f k t280).bind fun t283 => ((woggleref07_Basis.f k t283 false).bind fun t286 => ((woggleref01_Same.f k p t286).bind fun t289 => (if t289 = true then (if (0 : Int) = 0 then ((woggleref07_Basis.f k t283 true).bind fun t290 => ((woggleref01_Same.f k q t290).bind fun t293 => (if t293 = true then (if (0 : Int) = 0 then ((wogglelaw07_lives.f k).bind fun t294 => (some t294)) else (some false)) else (some false)))) else (some false)) else (some false)))))) (fun k => ?_) ?_
        · rw [wogglelaw07_BeaconBases.j0, if_neg (by decide), hB, Option.bind_some, hD, Option.bind_some, if_pos hr]
        · refine Ev.bind hLev (Ev.bind hDs (Ev.bind r1 (Ev.bind (same_ev p p lp lp) (ev_pos (by simp) (ev_pos rfl (Ev.bind r2 (Ev.bind (same_ev q q lq lq) (ev_pos (by simp) (ev_pos rfl (Ev.bind lives_ev (Ev.now _)))))))))))
      · rw [decide_eq_true (by omega : (N : Int) > 8)]
        refine Ev.step (f := fun k => (wogglelaw07_lives.f k).bind fun t270 => (some t270)) (fun k => ?_) (Ev.bind lives_ev (Ev.now _))
        simp only [wogglelaw07_BeaconBases.j0]
        rw [if_pos trivial]
    · refine ev_neg hr ?_
      have hB : beacon_Basis.f n y = some ([], 1) := by unfold beacon_Basis.f; rw [if_neg hr]
      have hD : beacon_Double.f n y = some ([], 1) := by unfold beacon_Double.f; rw [if_neg hr]
      refine Ev.step (f := fun k => (wogglelaw07_lives.f k).bind fun t279 => (some t279)) (fun k => ?_) (Ev.bind lives_ev (Ev.now _))
      rw [wogglelaw07_BeaconBases.j0, if_neg (by decide), hB, Option.bind_some, hD, Option.bind_some, if_neg hr]
      rw [if_pos (show wrap64 ((([] : List Int).length : Int) + (([] : List Int).length : Int)) = 0 by decide +kernel), if_pos rfl, if_pos rfl]
  obtain ⟨K, h⟩ := key
  exact ⟨K, h K (Nat.le_refl _)⟩
end Go.Proofs.YtbeimdngghedjaaDoor.Pure

/-! The statement BeaconBases: for every input the law answers true and leaves its arguments; the package variable `none` of beacon starts as the program's text lays it. -/
namespace Go.Proofs.YtbeimdngghedjaaDoor.beaconBases
open Go.ChangeShapes Go.WideShapes Go.ChangeAt Go.RowKit
open Go.ChangeMaps (open_string shut_string)
open Go.Proofs.YtbeimdngghedjaaDoor.P Go.Proofs.YtbeimdngghedjaaDoorW.PrintWords Go.Proofs.YtbeimdngghedjaaDoorW.PrintLast Go.Proofs.YtbeimdngghedjaaDoorW.PrintMore
set_option linter.unusedVariables false
theorem own : ownKnob Tryd.prog.godebug = none := by kernel_rfl
theorem laidOut : laidOutB Tryd.prog = true := by kernel_rfl
set_option maxRecDepth 100000 in
theorem lifted (os : Os) (started : os.Started) (H : Type) (enc : TypeId × Value → H) :
    ReturnsInHanded {} Tryd.checked os 3 .any (fun w args => (Rows.beaconBasesSpec.pre enc Tryd.prog Tryd.f3 [] false w args ∧ laidMetH Tryd.prog laidList w) ∧ sizedMet enc Tryd.prog Tryd.f3 (OpenSpec.ofChange Rows.beaconBasesSpec) false w args) (Rows.beaconBasesSpec.post enc Tryd.prog Tryd.f3 false true false false) := by
  refine returnsInHanded_of_change_and (C := Tryd.checked) (X := fun w _ => laidMetH Tryd.prog laidList w) (fun _ _ _ hh h => h.of_heap hh) own started (by kernel_rfl) Tryd.func3
    (ChangeSpec.witness_shaped (enc := enc) (C := Tryd.checked) (os := os) (X := fun w _ => laidMetH Tryd.prog laidList w) false (World.doorLaid Tryd.prog 400 os) #[.agg #[.int .i64 0, .slice none 0 0]] 8 rfl (World.shaped_of_RefB (by kernel_rfl) (by kernel_rfl)) (by kernel_rfl) (by kernel_rfl) (by kernel_rfl) (door_met os _)) ?_
  intro W base args ds gs before hval0 hW hcnd hsz0 hL _
  have hval : ∀ (j : Nat) t v, Tryd.f3.params[j]? = some t → args[j]? = some v → Value.okWide Tryd.prog W .any base t v := hval0
  have hW' := hW
  obtain ⟨p, q, hA0, hV, rfl, hfz, hnd⟩ := hW
  have hA : DataW.TrodAll enc Tryd.prog W 0 (fun _ => true) true Tryd.f3.params.toList args.toList ds p := hA0
  rw [Tryd.params3] at hA hval
  obtain ⟨v0, vs0, d0, ds0, p0, q0, hargs, rfl, rfl, h0, r0⟩ := trodAll_cons hA
  obtain ⟨rfl, rfl, rfl⟩ := trodAll_nil r0
  obtain rfl : args = #[v0] := by cases args; simp_all
  obtain ⟨rfl, rfl⟩ := trodVars_none hV
  have k0 := h0
  have lt0 : ∀ x ∈ p0, x.block < W.heap.size := by obtain ⟨m, hm⟩ := k0; exact DataW.trod_lt m _ _ _ hm
  obtain ⟨cs0, rfl, hsz0⟩ := okWide_struct Tryd.underlying24 (hval 0 24 v0 rfl rfl)
  obtain ⟨x0, ⟨_, _, hcs0, rfl, ⟨A0_1, c0_1, rfl, hle0_1, hC0_1⟩⟩, hg0⟩ := Reads.of_trod (reads_struct Tryd.underlying24 (by kernel_rfl) (readsFs_cons rfl (reads_int Tryd.underlying3 (by kernel_rfl)) rfl (readsFs_one rfl (reads_slice 47 Tryd.underlying22 (by kernel_rfl) (reads_fields (fun x : S47 => (x.f0, x.f1)) (fun p => (⟨p.1, p.2⟩ : S47)) (fun _ => rfl) Tryd.underlying47 (by kernel_rfl) (readsFs_cons rfl (reads_int Tryd.underlying3 (by kernel_rfl)) rfl (readsFs_one rfl (reads_int Tryd.underlying3 (by kernel_rfl))))))))) h0
  obtain rfl : cs0 = #[.int .i64 x0.1, .slice A0_1 x0.2.length c0_1] := by have e_ : cs0.toList = [.int .i64 x0.1, .slice A0_1 x0.2.length c0_1] := hcs0; cases cs0; simp_all
  clear hA0 hval0 hsz0
  obtain ⟨k_, hk_⟩ := Pure.BeaconBases x0.1 x0.2 hg0.1 hg0.2
  refine (wogglelaw07_BeaconBases.calls k_ x0.1 _ _ x0.2 true W hC0_1 hle0_1 (door_of hL) hk_ rfl).mono fun e W' h_ => ?_
  obtain ⟨rfl, bel0⟩ := h_
  have bel : Below W.heap.size W W' := bel0
  exact ⟨_, rfl, _, _, _, [], _, [], hW', trodAll_mk1 (shut_bool Tryd.underlying4 _), (trodAll_cons_mk (Below.trod laidOut (by kernel_rfl) (of_decide_eq_true (by kernel_rfl)) k0 bel lt0) trodAll_mk0), rfl, bel.frame _, fun h => by cases h⟩
theorem over : Rows.beaconBasesRow.holds Tryd.pinned (OpenSpec.ofChange Rows.beaconBasesSpec) :=
  OpenClaim.holds_of_wide 3 Tryd.f3 rfl rfl rfl rfl rfl rfl rfl ⟨rfl, rfl, rfl, rfl, rfl⟩ rfl rfl rfl rfl rfl (by kernel_rfl) Tryd.func3 (by kernel_rfl)
    (of_decide_eq_true (by kernel_rfl)) (by unfold Func.isWrapper; first | (rw [if_pos (by decide +kernel)]; kernel_rfl) | (rw [if_neg (by decide +kernel)]; exact ⟨rfl, rfl⟩))
    (fun os started H enc _ => lifted os started H enc)
theorem proved : Rows.BeaconBasesSaid := over
#print axioms proved
end Go.Proofs.YtbeimdngghedjaaDoor.beaconBases
namespace Go.Proofs.YtbeimdngghedjaaDoor
/-- The row, under a short name, for the claim. -/
theorem beaconBases_holds : Rows.BeaconBasesSaid := beaconBases.proved
/-- The tied card. -/
theorem beaconBases_card : Rows.BeaconBasesCardSaid :=
  Claim7.holds_tied_plain_at .later [] [.data] true (true, "fa9c7bc0788aee13516c6e46a6afebb7f5758b95f807df224d19495f40a5707d") false
    beaconBases_holds (fun _ h => by cases h) (by kernel_rfl) (fun _ h => by cases h) beaconBases_row_tie rfl ⟨rfl, rfl⟩ (by kernel_rfl) rfl
    (fun f fn hf hfn => by
      obtain rfl : f = 3 := Option.some.inj ((show Tryd.prog.funcNamed "woggle/wogglelaw07.BeaconBases" = some 3 by kernel_rfl).symm.trans hf) |>.symm
      obtain rfl : fn = Tryd.f3 := (Option.some.inj (Tryd.func3.symm.trans hfn)).symm
      exact ⟨by kernel_rfl, fun j t ht => by
        rw [Tryd.params3] at ht
        have hm : t ∈ [24] := by simpa using Array.mem_of_getElem? ht
        have hall : ([24].all fun u => !Tryd.prog.wantsStandIn u) = true := by kernel_rfl
        exact (show Tryd.prog.wantsStandIn t = false by simpa using List.all_eq_true.1 hall t hm)⟩)
    (by kernel_rfl)
#print axioms beaconBases_card
end Go.Proofs.YtbeimdngghedjaaDoor
