/- The statement BeaconDistances: for every input the law answers true and leaves its arguments; the package variable `none` of beacon starts as the text of the program lays it. -/
import Derived.Test.YtbeimdngghedjaaDoorPLd
import Derived.Test.YtbeimdngghedjaaDoorPM2
import Derived.Test.YtbeimdngghedjaaDoorPM3
import Derived.Test.YtbeimdngghedjaaDoorPF21
import Derived.Test.YtbeimdngghedjaaDoorPF39
import Derived.Test.YtbeimdngghedjaaDoorPF42
import Derived.Test.YtbeimdngghedjaaDoorPF43
import Derived.Test.YtbeimdngghedjaaDoorPF26
import Derived.Test.YtbeimdngghedjaaDoorPX13
import Derived.Test.YtbeimdngghedjaaDoorRows
import Derived.Test.YtbeimdngghedjaaDoorRD
import Derived.Test.YtbeimdngghedjaaDoorBY
import Derived.Test.YtbeimdngghedjaaDoorTie
import Derived.Test.YtbeimdngghedjaaDoorCards
import Derived.SevenTiedAt
import Derived.LaidMore
import Derived.Stop.Joined
import Derived.WalkKit
import Derived.ProofKit
import Derived.OpenShut
import Derived.ShutString
import Derived.ChangeOld
import Derived.Below
import Derived.SizedLaws
/-! Distances, Twins and Slater answer what those of the reference answer, or ErrArg: for all graphs. -/
/-! Sets as bits: what or, shift and test do to them. -/
namespace Go.Proofs.YtbeimdngghedjaaDoor.Pure
open Go Go.Proofs Go.RowKit Go.Proofs.YtbeimdngghedjaaDoor.P Go.Proofs.YtbeimdngghedjaaDoorW.PrintWords Go.Proofs.YtbeimdngghedjaaDoorW.PrintLast
set_option linter.unusedVariables false
/-- The number holds a set of numbers below 10. -/
def Rep (x : Int) (S : Nat → Bool) : Prop := ∃ X : Nat, x = (X : Int) ∧ X < 1024 ∧ ∀ i, X.testBit i = S i
theorem wrap_small {A : Nat} (h : A < 1048576) : IntKind.wrap .i64 (A : Int) = (A : Int) := by
  rw [IntWalk.i64_left, IntWalk.wrap64_in _ (by omega)]
theorem or_nat {A B : Nat} (hA : A < 1048576) (hB : B < 1048576) : Go.bits .or .i64 (A : Int) (B : Int) = ((A ||| B : Nat) : Int) := by
  have e : (BitVec.ofInt 64 (A : Int) ||| BitVec.ofInt 64 (B : Int)).toNat = A ||| B := by
    rw [BitVec.ofInt_natCast, BitVec.ofInt_natCast, BitVec.toNat_or, BitVec.toNat_ofNat, BitVec.toNat_ofNat, Nat.mod_eq_of_lt (by omega), Nat.mod_eq_of_lt (by omega)]
  show IntKind.wrap .i64 ((BitVec.ofInt 64 (A : Int) ||| BitVec.ofInt 64 (B : Int)).toNat : Int) = _
  rw [e, wrap_small (Nat.or_lt_two_pow (n := 20) hA hB)]
theorem and_nat {A B : Nat} (hA : A < 1048576) (hB : B < 1048576) : Go.bits .and .i64 (A : Int) (B : Int) = ((A &&& B : Nat) : Int) := by
  have e : (BitVec.ofInt 64 (A : Int) &&& BitVec.ofInt 64 (B : Int)).toNat = A &&& B := by
    rw [BitVec.ofInt_natCast, BitVec.ofInt_natCast, BitVec.toNat_and, BitVec.toNat_ofNat, BitVec.toNat_ofNat, Nat.mod_eq_of_lt (by omega), Nat.mod_eq_of_lt (by omega)]
  show IntKind.wrap .i64 ((BitVec.ofInt 64 (A : Int) &&& BitVec.ofInt 64 (B : Int)).toNat : Int) = _
  rw [e, wrap_small (Nat.lt_of_le_of_lt Nat.and_le_left hA)]
theorem Rep.zero : Rep 0 (fun _ => false) := ⟨0, rfl, by omega, fun i => Nat.zero_testBit i⟩
theorem Rep.congr {x : Int} {S T : Nat → Bool} (h : Rep x S) (e : ∀ i, S i = T i) : Rep x T := by
  obtain ⟨X, h1, h2, h3⟩ := h
  exact ⟨X, h1, h2, fun i => (h3 i).trans (e i)⟩
theorem Rep.or {x y : Int} {S T : Nat → Bool} (h : Rep x S) (g : Rep y T) : Rep (Go.bits .or .i64 x y) (fun i => S i || T i) := by
  obtain ⟨X, rfl, h2, h3⟩ := h
  obtain ⟨Y, rfl, g2, g3⟩ := g
  refine ⟨X ||| Y, or_nat (by omega) (by omega), Nat.or_lt_two_pow (n := 10) h2 g2, fun i => ?_⟩
  rw [Nat.testBit_or, h3, g3]
theorem shl_all : ((List.range 10).all fun i => shl .i64 1 ((i : Nat) : Int) == ((2 ^ i : Nat) : Int)) = true := by decide +kernel
theorem Rep.one {i : Nat} (hi : i < 10) : Rep (shl .i64 1 (i : Int)) (fun j => decide (i = j)) := by
  refine ⟨2 ^ i, eq_of_beq (List.all_eq_true.1 shl_all i (List.mem_range.2 hi)), ?_, fun j => Nat.testBit_two_pow⟩
  have : 2 ^ i < 2 ^ 10 := Nat.pow_lt_pow_right (by omega) hi
  omega
theorem Rep.bit {x : Int} {S : Nat → Bool} (h : Rep x S) {v : Nat} (hv : v ≤ 20) : Go.bits .and .i64 (shr .i64 x (v : Int)) 1 = if S v = true then 1 else 0 := by
  obtain ⟨X, rfl, h2, h3⟩ := h
  have e : shr .i64 (X : Int) (v : Int) = ((X / 2 ^ v : Nat) : Int) := by
    unfold shr
    rw [Int.toNat_natCast, show min v IntKind.i64.bits = v from Nat.min_eq_left (by have : IntKind.i64.bits = 64 := rfl; omega)]
    rw [Int.natCast_ediv, Int.natCast_pow]; rfl
  have hl : X / 2 ^ v ≤ X := Nat.div_le_self _ _
  have a := and_nat (A := X / 2 ^ v) (B := 1) (by omega) (by omega)
  rw [e, show (1 : Int) = ((1 : Nat) : Int) from rfl, a, Nat.and_one_is_mod, ← h3 v, Nat.testBit_eq_decide_div_mod_eq]
  have : X / 2 ^ v % 2 < 2 := Nat.mod_lt _ (by omega)
  by_cases hh : X / 2 ^ v % 2 = 1
  · rw [hh]; simp
  · rw [show X / 2 ^ v % 2 = 0 by omega]; simp
theorem rd_set (L : List Int) (a v : Nat) (x : Int) (ha : a < L.length) : rd (L.set a x) (v : Int) = if a = v then x else rd L (v : Int) := by
  unfold rd
  rw [Int.toNat_natCast, List.getD_eq_getElem?_getD, List.getD_eq_getElem?_getD]
  by_cases h : a = v
  · subst h; rw [if_pos rfl, List.getElem?_set_self ha]; rfl
  · rw [if_neg h, List.getElem?_set_ne h]
end Go.Proofs.YtbeimdngghedjaaDoor.Pure

/-! The reference: Near, around, Ball, Distances and Doubly are the program's own distances. -/
namespace Go.Proofs.YtbeimdngghedjaaDoor.Pure
open Go Go.Proofs Go.RowKit Go.Proofs.YtbeimdngghedjaaDoor.P Go.Proofs.YtbeimdngghedjaaDoorW.PrintWords Go.Proofs.YtbeimdngghedjaaDoorW.PrintLast
set_option linter.unusedVariables false
/-- A row of sets, the neighbours of each vertex. -/
def NearRep (n : Nat) (E : Nat → Nat → Bool) (L : List Int) : Prop := L.length = n ∧ ∀ v, v < n → Rep (rd L (v : Int)) (E v)
theorem NearRep.add {n : Nat} {E : Nat → Nat → Bool} {L : List Int} (h : NearRep n E L) (hn : n ≤ 10) {a b : Nat} (ha : a < n) (hb : b < n) :
    NearRep n (fun v w => E v w || (decide (a = v) && decide (b = w))) (L.set a (Go.bits .or .i64 (rd L (a : Int)) (shl .i64 1 (b : Int)))) := by
  obtain ⟨h1, h2⟩ := h
  refine ⟨by rw [List.length_set]; exact h1, fun v hv => ?_⟩
  rw [rd_set L a v _ (by omega)]
  by_cases e : a = v
  · subst e
    rw [if_pos rfl]
    exact ((h2 a ha).or (Rep.one (by omega))).congr fun i => by simp
  · rw [if_neg e]
    exact (h2 v hv).congr fun i => by simp [e]
theorem near_l0 {n : Nat} (hn : n ≤ 10) {l : List S47} (hl : l.length ≤ 60) (hok : l.all (edOk n) = true) : ∀ (d i : Nat) (L : List Int), i + d = l.length → NearRep n (edE (l.take i)) L →
    ∃ L', NearRep n (edE l) L' ∧ Ev (fun k => woggleref06_Near.l0 k l L (i : Int)) L'
  | 0, i, L, hd, h => by
    obtain rfl : i = l.length := by omega
    rw [List.take_length] at h
    refine ⟨L, h, Ev.step (f := fun _ => some L) (fun k => ?_) (Ev.now _)⟩
    simp only [woggleref06_Near.l0]
    rw [if_neg (Int.lt_irrefl _)]
  | d + 1, i, L, hd, h => by
    have hi : i < l.length := by omega
    obtain ⟨q0, q1, q2, q3, q4⟩ := edOk_ne hok l[i] (List.getElem_mem hi)
    have e0 : rd_T47 l (i : Int) = l[i] := by unfold rd_T47; simp [hi]
    obtain ⟨A, hA⟩ : ∃ A : Nat, l[i].f0 = A := ⟨l[i].f0.toNat, by omega⟩
    obtain ⟨B, hB⟩ : ∃ B : Nat, l[i].f1 = B := ⟨l[i].f1.toNat, by omega⟩
    rw [hA, Int.toNat_natCast] at q0 q1
    rw [hB, Int.toNat_natCast] at q0 q2
    have h1 := h.add hn q1 q2
    have h2 := h1.add hn q2 q1
    have h3 : NearRep n (edE (l.take (i + 1))) ((L.set A (Go.bits .or .i64 (rd L (A : Int)) (shl .i64 1 (B : Int)))).set B (Go.bits .or .i64 (rd (L.set A (Go.bits .or .i64 (rd L (A : Int)) (shl .i64 1 (B : Int)))) (B : Int)) (shl .i64 1 (A : Int)))) := by
      refine ⟨h2.1, fun v hv => (h2.2 v hv).congr fun w => ?_⟩
      rw [take_up l i hi, edE_snoc, Bool.eq_iff_iff, updE_iff, updE_iff, hA, hB, Int.toNat_natCast, Int.toNat_natCast]
      simp only [Bool.or_eq_true, Bool.and_eq_true, decide_eq_true_eq]
      constructor
      · rintro ((h | h) | h)
        · exact .inr (.inr h)
        · exact .inr (.inl ⟨h.1.symm, h.2.symm⟩)
        · exact .inl ⟨h.1.symm, h.2.symm⟩
      · rintro (h | h | h)
        · exact .inr ⟨h.1.symm, h.2.symm⟩
        · exact .inl (.inr ⟨h.1.symm, h.2.symm⟩)
        · exact .inl (.inl h)
    obtain ⟨L', hL', hev⟩ := near_l0 hn hl hok d (i + 1) _ (by omega) h3
    refine ⟨L', hL', Ev.step (fun k => ?_) hev⟩
    have hl0 := h.1
    simp only [woggleref06_Near.l0]
    rw [if_pos (by omega), if_pos (by omega), e0, hA, hB]
    simp only [Option.bind_some, Int.toNat_natCast]
    rw [if_pos (by omega), if_pos (by omega), if_pos (by omega), if_pos (by omega), succ_w i (by omega)]
theorem near_ev {n : Nat} (hn : n ≤ 10) {l : List S47} (hl : l.length ≤ 60) (hok : l.all (edOk n) = true) : ∃ L, NearRep n (edE l) L ∧ Ev (fun k => woggleref06_Near.f k n l) L := by
  have h0 : NearRep n (edE (l.take 0)) (List.replicate n 0) := by
    refine ⟨List.length_replicate, fun v hv => ?_⟩
    have : rd (List.replicate n (0 : Int)) (v : Int) = 0 := by unfold rd; simp [List.getD_eq_getElem?_getD, hv]
    rw [this]
    exact Rep.zero.congr fun i => by simp [edE, noE]
  obtain ⟨L, hL, hev⟩ := near_l0 hn hl hok l.length 0 _ (by omega) h0
  refine ⟨L, hL, ?_⟩
  unfold woggleref06_Near.f
  refine ev_pos (by omega) (ev_pos (by rw [Int.toNat_natCast]; omega) ?_)
  rw [Int.toNat_natCast]; exact hev
section
variable {n : Nat} {E : Nat → Nat → Bool} {M : Mt} {L : List Int}
theorem around_l0 (hn : n ≤ 10) (hL : NearRep n E L) {x : Int} {S : Nat → Bool} (hx : Rep x S) : ∀ (d i : Nat) (acc : Int), i + d = n → Rep acc (fun w => (List.range i).any fun u => S u && E u w) →
    ∃ y, Rep y (fun w => (List.range n).any fun u => S u && E u w) ∧ Ev (fun k => woggleref06_around.l0 k L x acc (i : Int)) y
  | 0, i, acc, hd, h => by
    obtain rfl : i = n := by omega
    have := hL.1
    refine ⟨acc, h, Ev.step (f := fun _ => some acc) (fun k => ?_) (Ev.now _)⟩
    simp only [woggleref06_around.l0]
    rw [if_neg (by omega)]
  | d + 1, i, acc, hd, h => by
    have hl := hL.1
    have hi : i < n := by omega
    have hb := hx.bit (v := i) (by omega)
    by_cases hS : S i = true
    · rw [if_pos hS] at hb
      have h2 := (h.or (hL.2 i hi)).congr (T := fun w => (List.range (i + 1)).any fun u => S u && E u w) fun w => by
        rw [List.range_succ, List.any_append]; simp [hS]
      obtain ⟨y, hy, hev⟩ := around_l0 hn hL hx d (i + 1) _ (by omega) h2
      refine ⟨y, hy, Ev.step (fun k => ?_) hev⟩
      simp only [woggleref06_around.l0]
      rw [if_pos (by omega), if_pos (by omega), if_pos hb, succ_w i (by omega)]
    · rw [if_neg hS] at hb
      have h2 := h.congr (T := fun w => (List.range (i + 1)).any fun u => S u && E u w) fun w => by
        rw [List.range_succ, List.any_append]; simp [hS]
      obtain ⟨y, hy, hev⟩ := around_l0 hn hL hx d (i + 1) _ (by omega) h2
      refine ⟨y, hy, Ev.step (fun k => ?_) hev⟩
      simp only [woggleref06_around.l0]
      rw [if_pos (by omega), if_pos (by omega), hb, if_neg (by decide), succ_w i (by omega)]
theorem around_ev (hn : n ≤ 10) (hL : NearRep n E L) {x : Int} {S : Nat → Bool} (hx : Rep x S) : ∃ y, Rep y (fun w => (List.range n).any fun u => S u && E u w) ∧ Ev (fun k => woggleref06_around.f k L x) y :=
  around_l0 hn hL hx n 0 0 (by omega) (Rep.zero.congr fun i => by simp)
/-- The vertices at most j away from v. -/
def ballS (n : Nat) (M : Mt) (v : Nat) (j : Nat) (w : Nat) : Bool := decide (w < n) && decide (M v w ≤ j)
theorem ball_step (h : Met n E M) (hb : ∀ u w, E u w = true → w < n) {v : Nat} (hv : v < n) (j w : Nat) : (ballS n M v j w || (List.range n).any fun u => ballS n M v j u && E u w) = ballS n M v (j + 1) w := by
  rw [Bool.eq_iff_iff]
  unfold ballS
  simp only [Bool.or_eq_true, Bool.and_eq_true, decide_eq_true_eq, List.any_eq_true, List.mem_range]
  constructor
  · rintro (⟨h1, h2⟩ | ⟨u, _, ⟨h1, h2⟩, h3⟩)
    · exact ⟨h1, by omega⟩
    · have hw := hb u w h3
      have := h.tri hv h1 hw
      have := h.fl.edge u w h1 hw h3
      exact ⟨hw, by omega⟩
  · rintro ⟨h1, h2⟩
    by_cases hle : M v w ≤ j
    · exact .inl ⟨h1, hle⟩
    · have hw := h.fl.wk v w hv h1 (h.lt v w hv h1)
      rw [show (M v w).toNat = j + 1 by omega] at hw
      obtain ⟨u, hu, hw2, hE⟩ := Wk.snoc hv hw
      exact .inr ⟨u, hu, ⟨hu, h.fl.le_walk j v u hv hu hw2⟩, hE⟩
theorem ball_l0 (h : Met n E M) (hb : ∀ u w, E u w = true → w < n) (hL : NearRep n E L) {v : Nat} (hv : v < n) : ∀ (d j : Nat) (x : Int), d ≤ 20 → Rep x (ballS n M v j) →
    ∃ y, Rep y (ballS n M v (j + d)) ∧ Ev (fun k => woggleref06_Ball.l0 k L (d : Int) x) y
  | 0, j, x, _, hx => by
    refine ⟨x, hx, Ev.step (f := fun _ => some x) (fun k => ?_) (Ev.now _)⟩
    simp only [woggleref06_Ball.l0]
    rw [if_neg (by omega)]
  | d + 1, j, x, hd, hx => by
    obtain ⟨a, ha, haev⟩ := around_ev h.n10 hL hx
    have h2 := (hx.or ha).congr (ball_step h hb hv j)
    obtain ⟨y, hy, hev⟩ := ball_l0 h hb hL hv d (j + 1) _ (by omega) h2
    refine ⟨y, by rw [show j + (d + 1) = j + 1 + d by omega]; exact hy, Ev.step (f := fun k => (woggleref06_around.f k L x).bind fun t => woggleref06_Ball.l0 k L (d : Int) (Go.bits .or .i64 x t)) (fun k => ?_) (Ev.bind haev hev)⟩
    simp only [woggleref06_Ball.l0]
    rw [if_pos (by omega), pred_w d (by omega)]
theorem ball_ev (h : Met n E M) (hb : ∀ u w, E u w = true → w < n) (hL : NearRep n E L) {v : Nat} (hv : v < n) (r : Nat) (hr : r ≤ 20) : ∃ y, Rep y (ballS n M v r) ∧ Ev (fun k => woggleref06_Ball.f k L (v : Int) (r : Int)) y := by
  have hn := h.n10
  have h0 : Rep (shl .i64 1 (v : Int)) (ballS n M v 0) := (Rep.one (by omega)).congr fun w => by
    unfold ballS
    rw [Bool.eq_iff_iff]
    simp only [Bool.and_eq_true, decide_eq_true_eq]
    constructor
    · rintro rfl; exact ⟨hv, by rw [h.self hv]; omega⟩
    · rintro ⟨h1, h2⟩
      have := h.pos hv h1
      exact h.zero hv h1 (by omega)
  obtain ⟨y, hy, hev⟩ := ball_l0 h hb hL hv r 0 _ hr h0
  rw [Nat.zero_add] at hy
  refine ⟨y, hy, ?_⟩
  unfold woggleref06_Ball.f
  exact ev_pos (by omega) hev
theorem dist_l2 (h : Met n E M) (hb : ∀ u w, E u w = true → w < n) (hL : NearRep n E L) {v w : Nat} (hv : v < n) (hw : w < n) {D : List (List Int)} {row : List Int} (hrow : row.length ≤ 10) {res : List (List Int)}
    (hev : Ev (fun k => woggleref07_Distances.l1 k L D v (row ++ [M v w]) ((w + 1 : Nat) : Int)) res) : ∀ (d r : Nat), ((r + d : Nat) : Int) = M v w → Ev (fun k => woggleref07_Distances.l2 k L D v row w (r : Int)) res
  | 0, r, hd => by
    have hlt := h.lt v w hv hw
    have hn := h.n10
    obtain ⟨y, hy, hyev⟩ := ball_ev h hb hL hv r (by omega)
    have hbit := hy.bit (v := w) (by omega)
    rw [if_pos (by unfold ballS; simp; omega)] at hbit
    refine Ev.step (f := fun k => (woggleref06_Ball.f k L v r).bind fun t => if Go.bits .and .i64 (shr .i64 t w) 1 = 0 then woggleref07_Distances.l2 k L D v row w ((r + 1 : Nat) : Int) else woggleref07_Distances.l1 k L D v (row ++ [M v w]) ((w + 1 : Nat) : Int)) (fun k => ?_) (Ev.bind hyev (ev_neg (by rw [hbit]; decide) hev))
    simp only [woggleref07_Distances.l2]
    have q1 : (0 : Int) ≤ (w : Int) := by omega
    have q2 : row.length < 17592186044416 := by omega
    have e : (r : Int) = M v w := by omega
    simp only [if_pos q1, if_pos q2, succ_w w (by omega), succ_w r (by omega), ← e]
  | d + 1, r, hd => by
    have hlt := h.lt v w hv hw
    have hn := h.n10
    obtain ⟨y, hy, hyev⟩ := ball_ev h hb hL hv r (by omega)
    have hbit := hy.bit (v := w) (by omega)
    rw [if_neg (by unfold ballS; simp; omega)] at hbit
    refine Ev.step (f := fun k => (woggleref06_Ball.f k L v r).bind fun t => if Go.bits .and .i64 (shr .i64 t w) 1 = 0 then woggleref07_Distances.l2 k L D v row w ((r + 1 : Nat) : Int) else woggleref07_Distances.l1 k L D v (row ++ [(r : Int)]) ((w + 1 : Nat) : Int)) (fun k => ?_) (Ev.bind hyev (ev_pos hbit (dist_l2 h hb hL hv hw hrow hev d (r + 1) (by omega))))
    simp only [woggleref07_Distances.l2]
    have q1 : (0 : Int) ≤ (w : Int) := by omega
    have q2 : row.length < 17592186044416 := by omega
    simp only [if_pos q1, if_pos q2, succ_w w (by omega), succ_w r (by omega)]
theorem dist_l1 (h : Met n E M) (hb : ∀ u w, E u w = true → w < n) (hL : NearRep n E L) {v : Nat} (hv : v < n) {D : List (List Int)} (hD : D.length ≤ 10) {res : List (List Int)}
    (hev : Ev (fun k => woggleref07_Distances.l0 k L (D ++ [(List.range n).map (M v)]) ((v + 1 : Nat) : Int)) res) : Ev (fun k => woggleref07_Distances.l1 k L D v [] 0) res := by
  have hl := hL.1
  have hn := h.n10
  refine up_ind (fun i => Ev (fun k => woggleref07_Distances.l1 k L D v ((List.range i).map (M v)) (i : Int)) res) n ?_ ?_
  · refine Ev.step (fun k => ?_) hev
    simp only [woggleref07_Distances.l1]
    rw [if_neg (by omega), if_pos (by omega), succ_w v (by omega)]
  · intro i hi ih
    rw [range_succ_map] at ih
    have hp := h.pos hv hi
    refine Ev.step (fun k => ?_) (dist_l2 h hb hL hv hi (by simp; omega) ih (M v i).toNat 0 (by omega))
    simp only [woggleref07_Distances.l1]
    rw [if_pos (by omega)]; rfl
theorem dist_ev (h : Met n E M) (hb : ∀ u w, E u w = true → w < n) (hL : NearRep n E L) : Ev (fun k => woggleref07_Distances.f k L) (rowsA n M) := by
  have hl := hL.1
  have hn := h.n10
  refine up_ind (fun i => Ev (fun k => woggleref07_Distances.l0 k L ((List.range i).map fun v => (List.range n).map (M v)) (i : Int)) (rowsA n M)) n ?_ ?_
  · refine Ev.step (f := fun _ => some (rowsA n M)) (fun k => ?_) (Ev.now _)
    simp only [woggleref07_Distances.l0]
    rw [if_neg (by omega)]; rfl
  · intro i hi ih
    rw [range_succ_map] at ih
    refine Ev.step (fun k => ?_) (dist_l1 h hb hL hi (by simp; omega) ih)
    simp only [woggleref07_Distances.l0]
    rw [if_pos (by omega)]
end
theorem edE_lt {n : Nat} {l : List S47} (hok : l.all (edOk n) = true) (u w : Nat) (h : edE l u w = true) : w < n := by
  obtain ⟨e, he, h1⟩ := (edE_iff l u w).1 h
  obtain ⟨q0, q1, q2, q3, q4⟩ := edOk_ne hok e he
  omega
end Go.Proofs.YtbeimdngghedjaaDoor.Pure

/-! Graphs of any kind: what the laws' few and the reference's Graph, Connected, Rising and Codes answer. -/
namespace Go.Proofs.YtbeimdngghedjaaDoor.Pure
open Go Go.Proofs Go.RowKit Go.Proofs.YtbeimdngghedjaaDoor.P Go.Proofs.YtbeimdngghedjaaDoorW.PrintWords Go.Proofs.YtbeimdngghedjaaDoorW.PrintLast
set_option linter.unusedVariables false
/-- A number of 64 bits. -/
def I64 (a : Int) : Prop := -9223372036854775808 ≤ a ∧ a ≤ 9223372036854775807
theorem i64_of {a : Int} (h : (Lit.int .i64 a).wf = true) : I64 a := by
  unfold Lit.wf at h
  simp only [Bool.and_eq_true, decide_eq_true_eq] at h
  have e1 : IntKind.i64.min = -9223372036854775808 := by decide
  have e2 : IntKind.i64.max = 9223372036854775807 := by decide
  rw [e1, e2] at h
  exact h
theorem in6_is (a b c : Int) : woggleref06_in.f a b c = some (decide (b ≤ a) && decide (a ≤ c)) := by
  unfold woggleref06_in.f
  by_cases h : a ≥ b
  · rw [if_pos h, decide_eq_true (show b ≤ a from h), Bool.true_and]
  · rw [if_neg h, decide_eq_false (show ¬ b ≤ a from h), Bool.false_and]
theorem edOk_mk {n : Nat} {a b : Int} (h1 : 0 ≤ a) (h2 : a < n) (h3 : 0 ≤ b) (h4 : b < n) (h5 : a ≠ b) : edOk n ⟨a, b⟩ = true := by
  unfold edOk
  simp only [Bool.and_eq_true, decide_eq_true_eq, bne_iff_ne]
  omega
/-- What the reference's Graph answers. -/
def graphB (n : Int) (l : List S47) : Bool := decide (1 ≤ n) && decide (n ≤ 10) && decide (l.length ≤ 60) && l.all (edOk n.toNat)
theorem graph_l0 {n : Int} (hn : I64 n) {l : List S47} (hl : l.length ≤ 100) : ∀ (d i : Nat), i + d = l.length → (1 ≤ n → n ≤ 10 → (l.take i).all (edOk n.toNat) = true) → Ev (fun k => woggleref06_Graph.l0 k n l (i : Int)) (graphB n l)
  | 0, i, hd, hb => by
    obtain rfl : i = l.length := by omega
    rw [List.take_length] at hb
    refine Ev.step (f := fun _ => some (graphB n l)) (fun k => ?_) (Ev.now _)
    simp only [woggleref06_Graph.l0]
    rw [if_neg (by omega), in6_is]
    simp only [Option.bind_some]
    unfold graphB
    by_cases h1 : 1 ≤ n
    · by_cases h2 : n ≤ 10
      · rw [decide_eq_true h1, decide_eq_true h2, hb h1 h2]
        simp
        omega
      · rw [decide_eq_false h2]; simp
    · rw [decide_eq_false h1]; simp
  | d + 1, i, hd, hb => by
    have hi : i < l.length := by omega
    have e0 : rd_T47 l (i : Int) = l[i] := by unfold rd_T47; simp [hi]
    have bad : (1 ≤ n → n ≤ 10 → edOk n.toNat l[i] = false) → graphB n l = false := fun h => by
      unfold graphB
      by_cases h1 : 1 ≤ n
      · by_cases h2 : n ≤ 10
        · have : l.all (edOk n.toNat) = false := by
            cases hq : l.all (edOk n.toNat) with
            | false => rfl
            | true =>
              have := List.all_eq_true.1 hq l[i] (List.getElem_mem hi)
              rw [h h1 h2] at this; cases this
          rw [this]; simp
        · rw [decide_eq_false h2]; simp
      · rw [decide_eq_false h1]; simp
    have stop : (1 ≤ n → n ≤ 10 → edOk n.toNat l[i] = false) → Ev (fun _ : Nat => some false) (graphB n l) := fun h => by rw [bad h]; exact Ev.now _
    have q1 : (i : Int) < l.length := by omega
    have q2 : (0 : Int) ≤ i := by omega
    have w1 : 1 ≤ n → n ≤ 10 → wrap64 (n - 1) = n - 1 := fun h1 h2 => IntWalk.wrap64_in _ (by omega)
    have parts : ∀ e : S47, edOk n.toNat e = true → 0 ≤ e.f0 ∧ e.f0 < n.toNat ∧ 0 ≤ e.f1 ∧ e.f1 < n.toNat ∧ e.f0 ≠ e.f1 := fun e h => edOk_parts (a := e.f0) (b := e.f1) h
    by_cases c1 : (decide (0 ≤ (l[i]).f0) && decide ((l[i]).f0 ≤ wrap64 (n - 1))) = true
    · by_cases c2 : (decide (0 ≤ (l[i]).f1) && decide ((l[i]).f1 ≤ wrap64 (n - 1))) = true
      · by_cases c3 : (l[i]).f0 = (l[i]).f1
        · refine Ev.step (f := fun _ => some false) (fun k => ?_) (stop fun h1 h2 => ?_)
          · simp only [woggleref06_Graph.l0]
            rw [if_pos q1, if_pos q2, e0, in6_is, Option.bind_some, if_pos c1, in6_is, Option.bind_some, if_pos c2, if_pos c3]
          · cases hq : edOk n.toNat l[i] with
            | false => rfl
            | true => exact absurd c3 (parts _ hq).2.2.2.2
        · refine Ev.step (fun k => ?_) (graph_l0 hn hl d (i + 1) (by omega) fun h1 h2 => ?_)
          · simp only [woggleref06_Graph.l0]
            rw [if_pos q1, if_pos q2, e0, in6_is, Option.bind_some, if_pos c1, in6_is, Option.bind_some, if_pos c2, if_neg c3, succ_w i (by omega)]
          · rw [take_up l i hi, List.all_append, hb h1 h2]
            simp only [Bool.and_eq_true, decide_eq_true_eq] at c1 c2
            rw [w1 h1 h2] at c1 c2
            have := edOk_mk (n := n.toNat) (a := (l[i]).f0) (b := (l[i]).f1) c1.1 (by omega) c2.1 (by omega) c3
            simp [this]
      · refine Ev.step (f := fun _ => some false) (fun k => ?_) (stop fun h1 h2 => ?_)
        · simp only [woggleref06_Graph.l0]
          rw [if_pos q1, if_pos q2, e0, in6_is, Option.bind_some, if_pos c1, in6_is, Option.bind_some, if_neg c2]
        · cases hq : edOk n.toNat l[i] with
          | false => rfl
          | true =>
            obtain ⟨p1, p2, p3, p4, p5⟩ := parts _ hq
            refine absurd ?_ c2
            rw [w1 h1 h2, decide_eq_true p3, decide_eq_true (by omega)]; rfl
    · refine Ev.step (f := fun _ => some false) (fun k => ?_) (stop fun h1 h2 => ?_)
      · simp only [woggleref06_Graph.l0]
        rw [if_pos q1, if_pos q2, e0, in6_is, Option.bind_some, if_neg c1]
      · cases hq : edOk n.toNat l[i] with
        | false => rfl
        | true =>
          obtain ⟨p1, p2, p3, p4, p5⟩ := parts _ hq
          refine absurd ?_ c1
          rw [w1 h1 h2, decide_eq_true p1, decide_eq_true (by omega)]; rfl
theorem graph_ev {n : Int} (hn : I64 n) {l : List S47} (hl : l.length ≤ 100) : Ev (fun k => woggleref06_Graph.f k n l) (graphB n l) := by
  unfold woggleref06_Graph.f
  exact graph_l0 hn hl l.length 0 (by omega) fun _ _ => rfl
section
variable {n : Nat} {E : Nat → Nat → Bool} {M : Mt} {L : List Int}
/-- The vertices that are reached from v by at most j edges. -/
def ballW (n : Nat) (M : Mt) (v : Nat) (j : Nat) (w : Nat) : Bool := decide (w < n) && (decide (M v w ≤ j) && decide (M v w < n))
theorem ballw_step (h : FlOk n E n M) (hb : ∀ u w, E u w = true → w < n) {v : Nat} (hv : v < n) (j w : Nat) : (ballW n M v j w || (List.range n).any fun u => ballW n M v j u && E u w) = ballW n M v (j + 1) w := by
  rw [Bool.eq_iff_iff]
  unfold ballW
  simp only [Bool.or_eq_true, Bool.and_eq_true, decide_eq_true_eq, List.any_eq_true, List.mem_range]
  constructor
  · rintro (⟨h1, h2, h3⟩ | ⟨u, _, ⟨h1, h2, h3⟩, h4⟩)
    · exact ⟨h1, by omega, h3⟩
    · have hw := hb u w h4
      have a1 := h.tri u v w h1 h1 hv hw
      have a2 := h.edge u w h1 hw h4
      have a3 := h.reach _ v w hv hw ((h.wk v u hv h1 h3).cat (Wk.one hw h4))
      exact ⟨hw, by omega, a3⟩
  · rintro ⟨h1, h2, h3⟩
    by_cases hle : M v w ≤ j
    · exact .inl ⟨h1, hle, h3⟩
    · have hw := h.wk v w hv h1 h3
      rw [show (M v w).toNat = j + 1 by omega] at hw
      obtain ⟨u, hu, hw2, hE⟩ := Wk.snoc hv hw
      exact .inr ⟨u, hu, ⟨hu, h.le_walk j v u hv hu hw2, h.reach j v u hv hu hw2⟩, hE⟩
theorem ballw_l0 (hn : n ≤ 10) (h : FlOk n E n M) (hb : ∀ u w, E u w = true → w < n) (hL : NearRep n E L) {v : Nat} (hv : v < n) : ∀ (d j : Nat) (x : Int), d ≤ 20 → Rep x (ballW n M v j) →
    ∃ y, Rep y (ballW n M v (j + d)) ∧ Ev (fun k => woggleref06_Ball.l0 k L (d : Int) x) y
  | 0, j, x, _, hx => by
    refine ⟨x, hx, Ev.step (f := fun _ => some x) (fun k => ?_) (Ev.now _)⟩
    simp only [woggleref06_Ball.l0]
    rw [if_neg (by omega)]
  | d + 1, j, x, hd, hx => by
    obtain ⟨a, ha, haev⟩ := around_ev hn hL hx
    have h2 := (hx.or ha).congr (ballw_step h hb hv j)
    obtain ⟨y, hy, hev⟩ := ballw_l0 hn h hb hL hv d (j + 1) _ (by omega) h2
    refine ⟨y, by rw [show j + (d + 1) = j + 1 + d by omega]; exact hy, Ev.step (f := fun k => (woggleref06_around.f k L x).bind fun t => woggleref06_Ball.l0 k L (d : Int) (Go.bits .or .i64 x t)) (fun k => ?_) (Ev.bind haev hev)⟩
    simp only [woggleref06_Ball.l0]
    rw [if_pos (by omega), pred_w d (by omega)]
theorem ballw_ev (hn : n ≤ 10) (h : FlOk n E n M) (hb : ∀ u w, E u w = true → w < n) (hL : NearRep n E L) {v : Nat} (hv : v < n) (r : Nat) (hr : r ≤ 20) : ∃ y, Rep y (ballW n M v r) ∧ Ev (fun k => woggleref06_Ball.f k L (v : Int) (r : Int)) y := by
  have h0 : Rep (shl .i64 1 (v : Int)) (ballW n M v 0) := (Rep.one (by omega)).congr fun w => by
    unfold ballW
    rw [Bool.eq_iff_iff]
    simp only [Bool.and_eq_true, decide_eq_true_eq]
    constructor
    · rintro rfl
      have := h.diag v hv
      exact ⟨hv, by omega, by omega⟩
    · rintro ⟨h1, h2, h3⟩
      have hp := h.pos v w hv h1
      have hw := h.wk v w hv h1 h3
      rw [show (M v w).toNat = 0 by omega] at hw
      exact hw
  obtain ⟨y, hy, hev⟩ := ballw_l0 hn h hb hL hv r 0 _ hr h0
  rw [Nat.zero_add] at hy
  refine ⟨y, hy, ?_⟩
  unfold woggleref06_Ball.f
  exact ev_pos (by omega) hev
theorem connected_ev (h1 : 1 ≤ n) (hn : n ≤ 10) (h : FlOk n E n M) (hb : ∀ u w, E u w = true → w < n) (hL : NearRep n E L) : Ev (fun k => woggleref06_Connected.f k L) ((List.range n).all fun w => decide (M 0 w < n)) := by
  obtain ⟨y, ⟨Y, rfl, hY, hbits⟩, hev⟩ := ballw_ev hn h hb hL (v := 0) (by omega) n (by omega)
  unfold woggleref06_Connected.f
  rw [hL.1]
  refine ev_eq (Ev.bind hev (Ev.now _)) ?_
  rw [eq_of_beq (List.all_eq_true.1 masks n (List.mem_range.2 (by omega))), Bool.eq_iff_iff, beq_iff_eq, List.all_eq_true]
  constructor
  · intro e w hw
    have hw : w < n := by simpa using hw
    have e2 : Y = 2 ^ n - 1 := Int.ofNat.inj e
    have := hbits w
    rw [e2, Nat.testBit_two_pow_sub_one, decide_eq_true hw] at this
    have := this.symm
    unfold ballW at this
    simp only [Bool.and_eq_true] at this
    exact this.2.2
  · intro hall
    refine congrArg Int.ofNat (Nat.eq_of_testBit_eq fun i => ?_)
    rw [hbits, Nat.testBit_two_pow_sub_one]
    unfold ballW
    by_cases hi : i < n
    · have h2 := of_decide_eq_true (hall i (List.mem_range.2 hi))
      have h3 : M 0 i ≤ n := by omega
      rw [decide_eq_true hi, decide_eq_true h2, decide_eq_true h3]; rfl
    · rw [decide_eq_false hi]; rfl
end
/-- What few hands on. -/
theorem few_ev {n : Int} (hn : I64 n) (l : List S47) : Ev (fun k => wogglelaw07_Graph_few.f k n l) (n, l.take 61, readOk n (l.take 61)) := by
  have hl : (l.take 61).length ≤ 61 := by rw [List.length_take]; omega
  have hm := mn_cut l.length 61 (by omega)
  have ht : l.take (mn (l.length : Int) 61).toNat = l.take 61 := cut_take l 61 (by omega)
  unfold wogglelaw07_Graph_few.f
  simp only [Option.bind_some]
  refine ev_pos hm.1 (ev_pos hm.2 ?_)
  rw [ht]
  refine ev_pos (by simp; omega) ?_
  rw [List.nil_append]
  generalize l.take 61 = y at hl
  refine Ev.bind (graph_ev hn (by omega)) ?_
  by_cases hg : graphB n y = true
  · refine ev_pos hg ?_
    have hg2 := hg
    unfold graphB at hg2
    simp only [Bool.and_eq_true, decide_eq_true_eq] at hg2
    obtain ⟨⟨⟨g1, g2⟩, g3⟩, g4⟩ := hg2
    obtain ⟨N, rfl⟩ : ∃ N : Nat, n = N := ⟨n.toNat, by omega⟩
    rw [Int.toNat_natCast] at g4
    obtain ⟨L, hL, hLev⟩ := near_ev (n := N) (by omega) g3 g4
    have hf := final_ok (n := N) (by omega) g4
    refine Ev.bind hLev (Ev.bind (connected_ev (by omega) (by omega) hf (fun u w => edE_lt g4 u w) hL) ?_)
    refine ev_eq (Ev.now _) ?_
    have e : ((List.range N).all fun w => decide (finalM N y 0 w < N)) = readOk N y := by
      rw [Bool.eq_iff_iff, List.all_eq_true]
      unfold readOk
      simp only [Bool.and_eq_true, decide_eq_true_eq, Int.toNat_natCast, rowMax_iff (show 1 ≤ N by omega)]
      constructor
      · exact fun h => ⟨⟨⟨⟨g1, g2⟩, g3⟩, g4⟩, fun j hj => h j (List.mem_range.2 hj)⟩
      · exact fun h w hw => h.2 w (List.mem_range.1 hw)
    rw [e]
  · refine ev_neg hg ?_
    refine ev_eq (Ev.now _) ?_
    have : readOk n y = false := by
      cases hq : readOk n y with
      | false => rfl
      | true =>
        refine absurd ?_ hg
        unfold readOk at hq
        unfold graphB
        simp only [Bool.and_eq_true] at hq ⊢
        exact hq.1
    rw [this]
/-- Which list comes first. -/
def befL : List Int → List Int → Bool
  | x :: xs, y :: ys => if x = y then befL xs ys else decide (x < y)
  | xs, ys => decide (xs.length < ys.length)
theorem befL_self : ∀ l : List Int, befL l l = false
  | [] => by simp [befL]
  | x :: l => by simp [befL, befL_self l]
theorem befL_both : ∀ xs ys : List Int, befL xs ys = false → befL ys xs = false → xs = ys
  | [], [], _, _ => rfl
  | [], y :: ys, h, _ => by simp [befL] at h
  | x :: xs, [], _, h => by simp [befL] at h
  | x :: xs, y :: ys, h1, h2 => by
    by_cases e : x = y
    · subst e
      simp only [befL, if_true] at h1 h2
      rw [befL_both xs ys h1 h2]
    · simp only [befL, if_neg e, if_neg (fun e2 => e e2.symm : ¬ y = x), decide_eq_false_iff_not] at h1 h2
      omega
theorem before_l0 (a b : List Int) (ha : a.length ≤ 1000) (hb : b.length ≤ 1000) : ∀ (d i : Nat), i + d = a.length → i ≤ b.length → Ev (fun k => woggleref01_Before.l0 k a b (i : Int)) (befL (a.drop i) (b.drop i))
  | 0, i, hd, hib => by
    have e : befL (a.drop i) (b.drop i) = decide ((a.length : Int) < b.length) := by
      rw [List.drop_eq_nil_of_le (by omega : a.length ≤ i)]
      have : befL [] (b.drop i) = decide (([] : List Int).length < (b.drop i).length) := by cases b.drop i <;> rfl
      rw [this, List.length_drop, List.length_nil, Bool.eq_iff_iff, decide_eq_true_eq, decide_eq_true_eq]
      omega
    rw [e]
    have : Ev (fun k => woggleref01_Before.j1 k a b (i : Int) false) (decide ((a.length : Int) < b.length)) := by
      refine Ev.step (f := fun _ => some (decide ((a.length : Int) < b.length))) (fun k => ?_) (Ev.now _)
      simp only [woggleref01_Before.j1]
      rw [if_neg (by decide)]
    refine Ev.step (fun k => ?_) this
    simp only [woggleref01_Before.l0]
    rw [if_neg (by omega)]
  | d + 1, i, hd, hib => by
    have hi : i < a.length := by omega
    have q1 : (i : Int) < a.length := by omega
    have q2 : (0 : Int) ≤ i := by omega
    by_cases hb2 : i < b.length
    · have q3 : (i : Int) < b.length := by omega
      rw [List.drop_eq_getElem_cons hi, List.drop_eq_getElem_cons hb2]
      by_cases e : a[i] = b[i]
      · have ih := before_l0 a b ha hb d (i + 1) (by omega) (by omega)
        have e2 : befL (a[i] :: a.drop (i + 1)) (b[i] :: b.drop (i + 1)) = befL (a.drop (i + 1)) (b.drop (i + 1)) := by simp only [befL]; rw [if_pos e]
        rw [e2]
        have : Ev (fun k => woggleref01_Before.j1 k a b (i : Int) (decide ((i : Int) < b.length))) (befL (a.drop (i + 1)) (b.drop (i + 1))) := by
          refine Ev.step (fun k => ?_) ih
          simp only [woggleref01_Before.j1]
          rw [if_pos (by simpa using q3), if_pos q2, if_pos q1, if_pos q3, rd_nat a i hi, rd_nat b i hb2, if_pos e, succ_w i (by omega)]
        refine Ev.step (fun k => ?_) this
        simp only [woggleref01_Before.l0]
        rw [if_pos q1]
      · have e2 : befL (a[i] :: a.drop (i + 1)) (b[i] :: b.drop (i + 1)) = decide (a[i] < b[i]) := by simp only [befL]; rw [if_neg e]
        rw [e2]
        have : Ev (fun k => woggleref01_Before.j1 k a b (i : Int) (decide ((i : Int) < b.length))) (decide (a[i] < b[i])) := by
          refine Ev.step (f := fun _ => some (decide (a[i] < b[i]))) (fun k => ?_) (Ev.now _)
          simp only [woggleref01_Before.j1]
          rw [if_pos (by simpa using q3), if_pos q2, if_pos q1, if_pos q3, rd_nat a i hi, rd_nat b i hb2, if_neg e]
        refine Ev.step (fun k => ?_) this
        simp only [woggleref01_Before.l0]
        rw [if_pos q1]
    · have e : befL (a.drop i) (b.drop i) = decide ((a.length : Int) < b.length) := by
        rw [List.drop_eq_nil_of_le (by omega : b.length ≤ i), List.drop_eq_getElem_cons hi]
        simp only [befL, List.length_nil]
        rw [Bool.eq_iff_iff, decide_eq_true_eq, decide_eq_true_eq]
        omega
      rw [e]
      have : Ev (fun k => woggleref01_Before.j1 k a b (i : Int) (decide ((i : Int) < b.length))) (decide ((a.length : Int) < b.length)) := by
        refine Ev.step (f := fun _ => some (decide ((a.length : Int) < b.length))) (fun k => ?_) (Ev.now _)
        simp only [woggleref01_Before.j1]
        rw [if_neg (by simp; omega)]
      refine Ev.step (fun k => ?_) this
      simp only [woggleref01_Before.l0]
      rw [if_pos q1]
theorem same_ev (a b : List Int) (ha : a.length ≤ 1000) (hb : b.length ≤ 1000) : Ev (fun k => woggleref01_Same.f k a b) (decide (a = b)) := by
  have h1 := before_l0 a b ha hb a.length 0 (by omega) (by omega)
  have h2 := before_l0 b a hb ha b.length 0 (by omega) (by omega)
  rw [List.drop_zero, List.drop_zero] at h1 h2
  unfold woggleref01_Same.f
  unfold woggleref01_Before.f
  refine Ev.bind h1 ?_
  by_cases c1 : befL a b = true
  · refine ev_pos c1 ?_
    have : a ≠ b := fun e => by subst e; rw [befL_self] at c1; cases c1
    rw [decide_eq_false this]; exact Ev.now _
  · refine ev_neg c1 (ev_eq (Ev.bind h2 (Ev.now _)) ?_)
    cases c2 : befL b a with
    | true =>
      have : a ≠ b := fun e => by subst e; rw [befL_self] at c2; cases c2
      rw [decide_eq_false this]; rfl
    | false => rw [decide_eq_true (befL_both a b (by simpa using c1) c2)]; rfl
end Go.Proofs.YtbeimdngghedjaaDoor.Pure

/-! What SameLists answers of a list and itself. -/
namespace Go.Proofs.YtbeimdngghedjaaDoor.Pure
open Go Go.Proofs Go.RowKit Go.Proofs.YtbeimdngghedjaaDoor.P Go.Proofs.YtbeimdngghedjaaDoorW.PrintWords Go.Proofs.YtbeimdngghedjaaDoorW.PrintLast
set_option linter.unusedVariables false
theorem rd_L5_nat (X : List (List Int)) (i : Nat) (h : i < X.length) : rd_L5 X (i : Int) = X[i] := by unfold rd_L5; simp [h]
theorem samelists_self {X : List (List Int)} (h : X.length ≤ 1000) (hr : ∀ r ∈ X, r.length ≤ 1000) : Ev (fun k => woggleref01_SameLists.f k X X) true := by
  unfold woggleref01_SameLists.f
  refine ev_pos rfl ?_
  refine up_ind (fun i => Ev (fun k => woggleref01_SameLists.l0 k X X (i : Int)) true) X.length ?_ ?_
  · refine Ev.step (f := fun _ => some true) (fun k => ?_) (Ev.now _)
    simp only [woggleref01_SameLists.l0]
    rw [if_neg (by omega)]
  · intro i hi ih
    refine Ev.step (f := fun k => (woggleref01_Same.f k X[i] X[i]).bind fun t => if t = true then woggleref01_SameLists.l0 k X X ((i + 1 : Nat) : Int) else some false) (fun k => ?_) ?_
    · simp only [woggleref01_SameLists.l0]
      rw [if_pos (by omega), if_pos (by omega), if_pos (by omega), rd_L5_nat X i hi, succ_w i (by omega)]
    · have := hr _ (List.getElem_mem hi)
      exact Ev.bind (same_ev _ _ this this) (ev_pos (by simp) ih)
end Go.Proofs.YtbeimdngghedjaaDoor.Pure

/-! Twins: what the program's and the reference's classes are. -/
namespace Go.Proofs.YtbeimdngghedjaaDoor.Pure
open Go Go.Proofs Go.RowKit Go.Proofs.YtbeimdngghedjaaDoor.P Go.Proofs.YtbeimdngghedjaaDoorW.PrintWords Go.Proofs.YtbeimdngghedjaaDoorW.PrintLast
set_option linter.unusedVariables false
set_option maxRecDepth 100000
section
variable {n : Nat} {E : Nat → Nat → Bool} {M : Mt}
def twAt (E : Nat → Nat → Bool) (u v w : Nat) : Bool := decide (w = u) || decide (w = v) || (E u w == E v w)
/-- Twins. -/
def twB (n : Nat) (E : Nat → Nat → Bool) (u v : Nat) : Bool := (List.range n).all (twAt E u v)
theorem twB_iff {u v : Nat} : twB n E u v = true ↔ ∀ w, w < n → w ≠ u → w ≠ v → E u w = E v w := by
  unfold twB twAt
  rw [List.all_eq_true]
  constructor
  · intro h w hw h1 h2
    have := h w (List.mem_range.2 hw)
    simpa [h1, h2] using this
  · intro h w hw
    by_cases h1 : w = u
    · simp [h1]
    · by_cases h2 : w = v
      · simp [h2]
      · simp [h1, h2, h w (List.mem_range.1 hw) h1 h2]
theorem twB_symm {u v : Nat} : twB n E u v = twB n E v u := by
  rw [Bool.eq_iff_iff, twB_iff, twB_iff]
  exact ⟨fun h w a b c => (h w a c b).symm, fun h w a b c => (h w a c b).symm⟩
theorem twB_trans (hs : ∀ i j, E i j = E j i) {u v w : Nat} (hu : u < n) (hv : v < n) (hw : w < n) (h1 : twB n E u v = true) (h2 : twB n E u w = true) (h3 : u ≠ v) (h4 : u ≠ w) (h5 : v ≠ w) : twB n E v w = true := by
  rw [twB_iff] at h1 h2 ⊢
  intro x hx hxv hxw
  by_cases e3 : x = u
  · subst e3
    have a1 := h2 v hv (fun e => h3 e.symm) h5
    have a2 := h1 w hw (fun e => h4 e.symm) (fun e => h5 e.symm)
    rw [hs v x, a1, hs w v, ← a2, hs x w]
  · rw [← h1 x hx e3 hxv, ← h2 x hx e3 hxw]
theorem ptwins_ev {u v : Nat} (hu : u < n) (hv : v < n) (hn : n ≤ 10) : Ev (fun k => beacon_graph_twins.f k (Gr n E M) (u : Int) (v : Int)) (twB n E u v) := by
  unfold beacon_graph_twins.f
  refine ev_pos (by simp [Gr]) ?_
  rw [gr0]
  have key := up_ind (fun i => (List.range i).all (twAt E u v) = true → Ev (fun k => beacon_graph_twins.l0 k (Gr n E M) (u : Int) (v : Int) (n : Int) (i : Int)) (twB n E u v)) n ?_ ?_
  · exact key rfl
  · intro h
    refine Ev.step (f := fun _ => some true) (fun k => ?_) (ev_eq (Ev.now _) h.symm)
    simp only [beacon_graph_twins.l0]
    rw [if_neg (by omega)]
  · intro i hi ih h
    have go : twAt E u v i = true → Ev (fun k => beacon_graph_twins.l0 k (Gr n E M) (u : Int) (v : Int) (n : Int) ((i + 1 : Nat) : Int)) (twB n E u v) := fun hh => ih (by rw [List.range_succ, List.all_append, h]; simp [hh])
    by_cases e1 : i = u
    · refine Ev.step (fun k => ?_) (go (by unfold twAt; simp [e1]))
      simp only [beacon_graph_twins.l0]
      rw [if_pos (by omega), if_pos (by omega), succ_w i (by omega)]
    · by_cases e2 : i = v
      · refine Ev.step (fun k => ?_) (go (by unfold twAt; simp [e2]))
        simp only [beacon_graph_twins.l0]
        rw [if_pos (by omega), if_neg (by omega), if_pos (by omega), succ_w i (by omega)]
      · have c1 : rdOf false ((List.range n).map (E u)) (i : Int) = E u i := by unfold rdOf; simp [hi]
        have c2 : rdOf false ((List.range n).map (E v)) (i : Int) = E v i := by unfold rdOf; simp [hi]
        have g1 : (0 : Int) < ((Gr n E M).length : Int) := by simp [Gr]
        have step : ∀ k, beacon_graph_twins.l0 (k + 1) (Gr n E M) (u : Int) (v : Int) (n : Int) (i : Int) = if (E u i != E v i) = true then some false else beacon_graph_twins.l0 k (Gr n E M) (u : Int) (v : Int) (n : Int) ((i + 1 : Nat) : Int) := fun k => by
          simp only [beacon_graph_twins.l0]
          rw [if_pos (by omega), if_neg (by omega), if_neg (by omega), if_pos g1, if_pos (by omega), gr0]
          simp only
          rw [rowE_at u hu, rowE_at v hv, c1, c2, if_pos (by simp [rowsE]; omega), if_pos (by omega), if_pos (by simp; omega), if_pos (by omega), if_pos (by simp [rowsE]; omega), if_pos (by simp; omega), succ_w i (by omega)]
        by_cases e3 : E u i = E v i
        · refine Ev.step (fun k => ?_) (go (by unfold twAt; simp [e3]))
          show beacon_graph_twins.l0 (k + 1) _ _ _ _ _ = _
          rw [step, if_neg (by simp [e3])]
        · have hf : twB n E u v = false := by
            cases hq : twB n E u v with
            | false => rfl
            | true => exact absurd (twB_iff.1 hq i hi e1 e2) e3
          rw [hf]
          refine Ev.step (f := fun _ => some false) (fun k => ?_) (Ev.now _)
          show beacon_graph_twins.l0 (k + 1) _ _ _ _ _ = _
          rw [step, if_pos (by simpa using e3)]
theorem andnot_nat {A B : Nat} (hA : A < 1024) (hB : B < 1024) : ∃ C : Nat, Go.bits .andNot .i64 (A : Int) (B : Int) = (C : Int) ∧ C < 1024 ∧ ∀ i, C.testBit i = (A.testBit i && !B.testBit i) := by
  have e : (BitVec.ofInt 64 (A : Int) &&& ~~~ (BitVec.ofInt 64 (B : Int))).toNat = A &&& (18446744073709551615 - B) := by
    rw [BitVec.ofInt_natCast, BitVec.ofInt_natCast, BitVec.toNat_and, BitVec.toNat_not, BitVec.toNat_ofNat, BitVec.toNat_ofNat, Nat.mod_eq_of_lt (by omega), Nat.mod_eq_of_lt (by omega)]
  have hlt : A &&& (18446744073709551615 - B) < 1024 := Nat.lt_of_le_of_lt Nat.and_le_left hA
  refine ⟨A &&& (18446744073709551615 - B), ?_, hlt, fun i => ?_⟩
  · show IntKind.wrap .i64 ((BitVec.ofInt 64 (A : Int) &&& ~~~ (BitVec.ofInt 64 (B : Int))).toNat : Int) = _
    rw [e, wrap_small (by omega)]
  · rw [Nat.testBit_and]
    by_cases hi : i < 64
    · have : (18446744073709551615 - B).testBit i = !B.testBit i := by
        have h2 := Nat.testBit_two_pow_sub_succ (x := B) (n := 64) (by omega) i
        rw [show (2 : Nat) ^ 64 - (B + 1) = 18446744073709551615 - B by omega] at h2
        rw [h2, decide_eq_true hi]; simp
      rw [this]
    · have hA2 : A.testBit i = false := Nat.testBit_lt_two_pow (Nat.lt_of_lt_of_le hA (show 2 ^ 10 ≤ 2 ^ i from Nat.pow_le_pow_right (by omega) (by omega)))
      rw [hA2]; simp
theorem Rep.andNot {x y : Int} {S T : Nat → Bool} (h : Rep x S) (g : Rep y T) : Rep (Go.bits .andNot .i64 x y) (fun i => S i && !T i) := by
  obtain ⟨X, rfl, h2, h3⟩ := h
  obtain ⟨Y, rfl, g2, g3⟩ := g
  obtain ⟨C, e, hC, hb⟩ := andnot_nat h2 g2
  exact ⟨C, e, hC, fun i => by rw [hb, h3, g3]⟩
theorem Rep.eq_iff {x y : Int} {S T : Nat → Bool} (h : Rep x S) (g : Rep y T) : x = y ↔ ∀ i, S i = T i := by
  obtain ⟨X, rfl, h2, h3⟩ := h
  obtain ⟨Y, rfl, g2, g3⟩ := g
  constructor
  · intro e i
    have e : X = Y := Int.ofNat.inj e
    rw [← h3, ← g3, e]
  · intro hh
    exact congrArg Int.ofNat (Nat.eq_of_testBit_eq fun i => by rw [h3, g3, hh])
theorem rtwins_is (hM : Met n E M) {L : List Int} (hL : NearRep n E L) (hb : ∀ u w, E u w = true → w < n) (hirr : ∀ x, E x x = false) {u v : Nat} (hu : u < n) (hv : v < n) (hne : u ≠ v) : woggleref07_Twins.f L u v = some (twB n E u v) := by
  have hn := hM.n10
  have hl := hL.1
  unfold woggleref07_Twins.f
  rw [if_pos (by omega), if_pos (by omega), if_pos (by omega), if_pos (by omega)]
  have a := (hL.2 u hu).andNot (Rep.one (i := v) (by omega))
  have b := (hL.2 v hv).andNot (Rep.one (i := u) (by omega))
  congr 1
  rw [Bool.eq_iff_iff, beq_iff_eq, a.eq_iff b, twB_iff]
  have irr : ∀ x, x < n → E x x = false := fun x _ => hirr x
  constructor
  · intro h w hw h1 h2
    have := h w
    simp only [decide_eq_false (fun e : v = w => h2 e.symm), decide_eq_false (fun e : u = w => h1 e.symm), Bool.not_false, Bool.and_true] at this
    exact this
  · intro h w
    by_cases hw : w < n
    · by_cases e1 : w = u
      · subst e1
        rw [irr w hw]; simp
      · by_cases e2 : w = v
        · subst e2
          rw [irr w hw]; simp
        · rw [h w hw e1 e2, decide_eq_false (fun e : v = w => e2 e.symm), decide_eq_false (fun e : u = w => e1 e.symm)]
    · have z1 : E u w = false := by
        cases hq : E u w with
        | false => rfl
        | true => exact absurd (hb u w hq) hw
      have z2 : E v w = false := by
        cases hq : E v w with
        | false => rfl
        | true => exact absurd (hb v w hq) hw
      rw [z1, z2]; simp
end
end Go.Proofs.YtbeimdngghedjaaDoor.Pure

/-! The classes of twins: the program's and the reference's are the same lists. -/
namespace Go.Proofs.YtbeimdngghedjaaDoor.Pure
open Go Go.Proofs Go.RowKit Go.Proofs.YtbeimdngghedjaaDoor.P Go.Proofs.YtbeimdngghedjaaDoorW.PrintWords Go.Proofs.YtbeimdngghedjaaDoorW.PrintLast
set_option linter.unusedVariables false
set_option maxRecDepth 100000
section
variable {n : Nat} {E : Nat → Nat → Bool} {M : Mt}
def inC (n : Nat) (E : Nat → Nat → Bool) (u w : Nat) : Bool := decide (w = u) || (decide (u < w) && twB n E u w)
def clsTo (n : Nat) (E : Nat → Nat → Bool) (u i : Nat) : List Int := ((List.range i).filter (inC n E u)).map fun v : Nat => (v : Int)
theorem clsTo_succ (u i : Nat) : clsTo n E u (i + 1) = if inC n E u i = true then clsTo n E u i ++ [(i : Int)] else clsTo n E u i := by
  unfold clsTo
  rw [List.range_succ, List.filter_append, List.map_append]
  by_cases h : inC n E u i = true
  · rw [if_pos h, List.filter_cons_of_pos h]; rfl
  · rw [if_neg h, List.filter_cons_of_neg h]; simp
theorem clsTo_len (u i : Nat) : (clsTo n E u i).length ≤ i := by
  unfold clsTo
  rw [List.length_map]
  have := List.length_filter_le (inC n E u) (List.range i)
  rwa [List.length_range] at this
theorem clsTo_low (u : Nat) : ∀ i, i ≤ u → clsTo n E u i = []
  | 0, _ => rfl
  | i + 1, h => by
    rw [clsTo_succ, clsTo_low u i (by omega), if_neg]
    unfold inC
    rw [decide_eq_false (by omega : ¬ i = u), decide_eq_false (by omega : ¬ u < i)]; simp
theorem clsTo_one (u : Nat) : clsTo n E u (u + 1) = [(u : Int)] := by
  rw [clsTo_succ, clsTo_low u u (Nat.le_refl _), if_pos (by unfold inC; simp)]; rfl
/-- No earlier twin. -/
def firstB (n : Nat) (E : Nat → Nat → Bool) (u : Nat) : Bool := (List.range u).all fun v => !twB n E v u
def outs (n : Nat) (E : Nat → Nat → Bool) : Nat → List (List Int)
  | 0 => []
  | u + 1 => if firstB n E u = true ∧ 1 < (clsTo n E u n).length then outs n E u ++ [clsTo n E u n] else outs n E u
theorem outs_len : ∀ u, (outs n E u).length ≤ u
  | 0 => Nat.le_refl _
  | u + 1 => by
    have := outs_len u
    unfold outs
    split
    · rw [List.length_append, List.length_singleton]; omega
    · omega
theorem outs_rows : ∀ u, ∀ r ∈ outs n E u, r.length ≤ n
  | 0, r, h => by cases h
  | u + 1, r, h => by
    unfold outs at h
    split at h
    · rcases List.mem_append.1 h with h | h
      · exact outs_rows u r h
      · rw [List.mem_singleton.1 h]; exact clsTo_len u n
    · exact outs_rows u r h
/-! ### the reference -/
theorem rc_no (hM : Met n E M) {L : List Int} (hL : NearRep n E L) (hb : ∀ u w, E u w = true → w < n) (hirr : ∀ x, E x x = false) {u : Nat} (hu : u < n) {out : List (List Int)} {r : List (List Int)}
    (cont : Ev (fun k => woggleref07_Classes.l0 k L out ((u + 1 : Nat) : Int)) r) : ∀ (d i : Nat) (c : List Int), i + d = n → c.length ≤ i + 1 → Ev (fun k => woggleref07_Classes.l1 k L out u c false i) r
  | 0, i, c, hd, hc => by
    refine Ev.step (fun k => ?_) cont
    simp only [woggleref07_Classes.l1]
    rw [if_neg (by rw [hL.1]; omega), if_neg (by decide), succ_w u (by have := hM.n10; omega)]
  | d + 1, i, c, hd, hc => by
    have hn := hM.n10
    have q1 : (i : Int) < (L.length : Int) := by rw [hL.1]; omega
    by_cases e : i = u
    · refine Ev.step (fun k => ?_) (rc_no hM hL hb hirr hu cont d (i + 1) c (by omega) (by omega))
      simp only [woggleref07_Classes.l1]
      rw [if_pos q1, if_pos (by omega), succ_w i (by omega)]
    · cases ht : twB n E u i with
      | true =>
        refine Ev.step (fun k => ?_) (rc_no hM hL hb hirr hu cont d (i + 1) (c ++ [(i : Int)]) (by omega) (by rw [List.length_append, List.length_singleton]; omega))
        simp only [woggleref07_Classes.l1]
        rw [if_pos q1, if_neg (by omega), rtwins_is hM hL hb hirr hu (by omega) (fun h => e h.symm), ht, Option.bind_some, if_pos rfl, if_neg (by decide), if_pos (by omega), succ_w i (by omega)]
      | false =>
        refine Ev.step (fun k => ?_) (rc_no hM hL hb hirr hu cont d (i + 1) c (by omega) (by omega))
        simp only [woggleref07_Classes.l1]
        rw [if_pos q1, if_neg (by omega), rtwins_is hM hL hb hirr hu (by omega) (fun h => e h.symm), ht, Option.bind_some, if_neg (by decide), succ_w i (by omega)]
theorem rc_yes (hM : Met n E M) {L : List Int} (hL : NearRep n E L) (hb : ∀ u w, E u w = true → w < n) (hirr : ∀ x, E x x = false) {u : Nat} (hu : u < n) {r : List (List Int)}
    (cont : Ev (fun k => woggleref07_Classes.l0 k L (outs n E (u + 1)) ((u + 1 : Nat) : Int)) r) : ∀ (d i : Nat), i + d = n → (List.range (min i u)).all (fun v => !twB n E v u) = true → Ev (fun k => woggleref07_Classes.l1 k L (outs n E u) u (if i ≤ u then [(u : Int)] else clsTo n E u i) true i) r
  | 0, i, hd, hf => by
    have hn := hM.n10
    obtain rfl : i = n := by omega
    rw [Nat.min_eq_right (by omega)] at hf
    have hol := outs_len (n := i) (E := E) u
    rw [if_neg (by omega)]
    by_cases h1 : 1 < (clsTo i E u i).length
    · have e : outs i E (u + 1) = outs i E u ++ [clsTo i E u i] := by
        show (if firstB i E u = true ∧ _ then _ else _) = _
        rw [if_pos ⟨hf, h1⟩]
      rw [e] at cont
      refine Ev.step (fun k => ?_) cont
      simp only [woggleref07_Classes.l1]
      rw [if_neg (by rw [hL.1]; omega), if_pos trivial, if_pos (by omega), if_pos (by omega), succ_w u (by omega)]
    · have e : outs i E (u + 1) = outs i E u := by
        show (if firstB i E u = true ∧ _ then _ else _) = _
        rw [if_neg (fun h => h1 h.2)]
      rw [e] at cont
      refine Ev.step (fun k => ?_) cont
      simp only [woggleref07_Classes.l1]
      rw [if_neg (by rw [hL.1]; omega), if_pos trivial, if_neg (by omega), succ_w u (by omega)]
  | d + 1, i, hd, hf => by
    have hn := hM.n10
    have q1 : (i : Int) < (L.length : Int) := by rw [hL.1]; omega
    have hcl := clsTo_len (n := n) (E := E) u i
    by_cases e : i = u
    · subst e
      have ih := rc_yes hM hL hb hirr hu cont d (i + 1) (by omega) (by rw [Nat.min_eq_right (by omega)]; rw [Nat.min_self] at hf; exact hf)
      rw [if_neg (by omega), clsTo_one] at ih
      rw [if_pos (Nat.le_refl _)]
      refine Ev.step (fun k => ?_) ih
      simp only [woggleref07_Classes.l1]
      rw [if_pos q1, if_pos trivial, succ_w i (by omega)]
    · by_cases hiu : i < u
      · rw [if_pos (by omega)]
        cases ht : twB n E u i with
        | true =>
          have hfirst : ¬ firstB n E u = true := by
            unfold firstB
            rw [List.all_eq_true]
            intro h
            have := h i (List.mem_range.2 hiu)
            rw [twB_symm, ht] at this; cases this
          have e2 : outs n E (u + 1) = outs n E u := by
            show (if firstB n E u = true ∧ _ then _ else _) = _
            rw [if_neg (fun h => hfirst h.1)]
          rw [e2] at cont
          refine Ev.step (fun k => ?_) (rc_no hM hL hb hirr hu cont d (i + 1) ([(u : Int)] ++ [(i : Int)]) (by omega) (by simp))
          simp only [woggleref07_Classes.l1]
          have hq : ([(u : Int)] : List Int).length < 17592186044416 := by simp
          have hdec : decide ((i : Int) > (u : Int)) = false := decide_eq_false (by omega)
          rw [if_pos q1, if_neg (by omega), rtwins_is hM hL hb hirr hu (by omega) (fun h => e h.symm), ht, Option.bind_some, succ_w i (by omega)]
          simp only [if_true, if_pos hq, hdec]
        | false =>
          have ih := rc_yes hM hL hb hirr hu cont d (i + 1) (by omega) (by
            rw [Nat.min_eq_left (by omega)] at hf ⊢
            rw [List.range_succ, List.all_append, hf]
            simp [twB_symm (n := n) (E := E) (u := i) (v := u), ht])
          rw [if_pos (by omega)] at ih
          refine Ev.step (fun k => ?_) ih
          simp only [woggleref07_Classes.l1]
          rw [if_pos q1, if_neg (by omega), rtwins_is hM hL hb hirr hu (by omega) (fun h => e h.symm), ht, Option.bind_some, if_neg (by decide), succ_w i (by omega)]
      · have ih := rc_yes hM hL hb hirr hu cont d (i + 1) (by omega) (by rw [Nat.min_eq_right (by omega)] at hf ⊢; exact hf)
        rw [if_neg (by omega), clsTo_succ] at ih
        rw [if_neg (by omega)]
        have hin : inC n E u i = twB n E u i := by
          unfold inC
          rw [decide_eq_false e, decide_eq_true (by omega)]; simp
        rw [hin] at ih
        cases ht : twB n E u i with
        | true =>
          rw [ht, if_pos rfl] at ih
          refine Ev.step (fun k => ?_) ih
          simp only [woggleref07_Classes.l1]
          have hq : (clsTo n E u i).length < 17592186044416 := by omega
          have hdec : decide ((i : Int) > (u : Int)) = true := decide_eq_true (by omega)
          rw [if_pos q1, if_neg (by omega), rtwins_is hM hL hb hirr hu (by omega) (fun h => e h.symm), ht, Option.bind_some, succ_w i (by omega)]
          simp only [if_true, if_pos hq, hdec]
        | false =>
          rw [ht, if_neg (by decide)] at ih
          refine Ev.step (fun k => ?_) ih
          simp only [woggleref07_Classes.l1]
          rw [if_pos q1, if_neg (by omega), rtwins_is hM hL hb hirr hu (by omega) (fun h => e h.symm), ht, Option.bind_some, if_neg (by decide), succ_w i (by omega)]
theorem classes_ev (hM : Met n E M) {L : List Int} (hL : NearRep n E L) (hb : ∀ u w, E u w = true → w < n) (hirr : ∀ x, E x x = false) : Ev (fun k => woggleref07_Classes.f k L) (outs n E n) := by
  unfold woggleref07_Classes.f
  refine up_ind (fun u => Ev (fun k => woggleref07_Classes.l0 k L (outs n E u) (u : Int)) (outs n E n)) n ?_ ?_
  · refine Ev.step (f := fun _ => some (outs n E n)) (fun k => ?_) (Ev.now _)
    simp only [woggleref07_Classes.l0]
    rw [if_neg (by rw [hL.1]; omega)]
  · intro u hu ih
    have h := rc_yes hM hL hb hirr hu ih n 0 (by omega) (by rw [Nat.min_eq_left (Nat.zero_le _)]; rfl)
    rw [if_pos (Nat.zero_le _)] at h
    refine Ev.step (fun k => ?_) h
    simp only [woggleref07_Classes.l0]
    rw [if_pos (by rw [hL.1]; omega)]
    rfl
/-! ### the program -/
def seenB (n : Nat) (E : Nat → Nat → Bool) (u w : Nat) : Bool := (List.range u).any fun v => firstB n E v && inC n E v w
theorem seen_first (hs : ∀ i j, E i j = E j i) {u : Nat} (hu : u < n) : seenB n E u u = !firstB n E u := by
  have key : seenB n E u u = true ↔ ¬ firstB n E u = true := by
    unfold seenB
    rw [List.any_eq_true]
    constructor
    · rintro ⟨v, hv, h⟩ hf
      have hv := List.mem_range.1 hv
      simp only [Bool.and_eq_true] at h
      have h2 := h.2
      unfold inC at h2
      rw [decide_eq_false (by omega : ¬ u = v), decide_eq_true hv] at h2
      simp only [Bool.false_or, Bool.true_and] at h2
      unfold firstB at hf
      rw [List.all_eq_true] at hf
      have := hf v (List.mem_range.2 hv)
      rw [h2] at this; cases this
    · intro hf
      have least : ∀ m, m ≤ u → (∃ v, v < m ∧ twB n E v u = true) → ∃ v, v < m ∧ twB n E v u = true ∧ ∀ x, x < v → ¬ twB n E x u = true := by
        intro m
        induction m with
        | zero => rintro _ ⟨v, hv, _⟩; omega
        | succ m ih =>
          rintro hm ⟨v, hv, hvt⟩
          by_cases h : ∃ v, v < m ∧ twB n E v u = true
          · obtain ⟨x, a, b, c⟩ := ih (by omega) h
            exact ⟨x, by omega, b, c⟩
          · refine ⟨v, hv, hvt, fun x hx hxt => h ⟨x, by omega, hxt⟩⟩
      have hex : ∃ v, v < u ∧ twB n E v u = true := by
        unfold firstB at hf
        rw [List.all_eq_true] at hf
        apply Classical.byContradiction
        intro hno
        apply hf
        intro x hx
        cases hq : twB n E x u with
        | false => rfl
        | true => exact absurd ⟨x, List.mem_range.1 hx, hq⟩ hno
      obtain ⟨v, hv, hvt, hmin⟩ := least u (Nat.le_refl _) hex
      refine ⟨v, List.mem_range.2 hv, ?_⟩
      rw [Bool.and_eq_true]
      constructor
      · unfold firstB
        rw [List.all_eq_true]
        intro x hx
        have hx := List.mem_range.1 hx
        cases hq : twB n E x v with
        | false => rfl
        | true =>
          have t := twB_trans hs (u := v) (v := x) (w := u) (by omega) (by omega) hu (by rw [twB_symm]; exact hq) hvt (by omega) (by omega) (by omega)
          exact absurd t (hmin x hx)
      · unfold inC
        rw [decide_eq_true hv, hvt]; simp
  cases h1 : firstB n E u with
  | true =>
    cases h2 : seenB n E u u with
    | false => rfl
    | true => exact absurd h1 (key.1 h2)
  | false =>
    rw [key.2 (by rw [h1]; decide)]; rfl
def seenL (n : Nat) (E : Nat → Nat → Bool) (u i : Nat) : List Bool := (List.range n).map fun w => seenB n E u w || (decide (w < i) && inC n E u w)
theorem seenL_set {u i : Nat} (hi : i < n) : seenL n E u (i + 1) = if inC n E u i = true then (seenL n E u i).set i true else seenL n E u i := by
  apply List.ext_getElem
  · split <;> simp [seenL]
  · intro j h1 h2
    have hj : j < n := by simpa [seenL] using h1
    by_cases h : inC n E u i = true
    · simp only [if_pos h]
      rw [List.getElem_set]
      by_cases e : i = j
      · subst e
        rw [if_pos rfl]; simp [seenL, h]
      · rw [if_neg e]
        simp only [seenL, List.getElem_map, List.getElem_range]
        have : decide (j < i + 1) = decide (j < i) := by rw [Bool.eq_iff_iff]; simp; omega
        rw [this]
    · simp only [if_neg h]
      simp only [seenL, List.getElem_map, List.getElem_range]
      by_cases e : i = j
      · subst e
        have : inC n E u i = false := by simpa using h
        rw [this]; simp
      · have : decide (j < i + 1) = decide (j < i) := by rw [Bool.eq_iff_iff]; simp; omega
        rw [this]
theorem seenL_next {u : Nat} (h : firstB n E u = true) : seenL n E u n = seenL n E (u + 1) 0 := by
  unfold seenL
  apply List.map_congr_left
  intro w hw
  have hw := List.mem_range.1 hw
  unfold seenB
  rw [List.range_succ, List.any_append, decide_eq_true hw]
  simp [h]
theorem seenL_skip {u : Nat} (h : firstB n E u = false) : seenL n E u 0 = seenL n E (u + 1) 0 := by
  unfold seenL
  apply List.map_congr_left
  intro w hw
  unfold seenB
  rw [List.range_succ, List.any_append]
  simp [h]
theorem seenL_low {u : Nat} : ∀ i, i ≤ u → i ≤ n → seenL n E u i = seenL n E u 0
  | 0, _, _ => rfl
  | i + 1, h, h2 => by
    rw [seenL_set (by omega), if_neg, seenL_low i (by omega) (by omega)]
    unfold inC
    rw [decide_eq_false (by omega : ¬ i = u), decide_eq_false (by omega : ¬ u < i)]; simp
theorem pc_l1 (hn : n ≤ 10) {u : Nat} (hu : u < n) (hf : firstB n E u = true) {r : List (List Int) × Int}
    (cont : Ev (fun k => beacon_Twins_tail.l0 k n (Gr n E M) (outs n E (u + 1)) (seenL n E (u + 1) 0) n ((u + 1 : Nat) : Int)) r) :
    ∀ (d i : Nat), i + d = n → u ≤ i → Ev (fun k => beacon_Twins_tail.l1 k n (Gr n E M) (outs n E u) (seenL n E u i) u (clsTo n E u i) i n u) r
  | 0, i, hd, hui => by
    obtain rfl : i = n := by omega
    have hol := outs_len (n := i) (E := E) u
    rw [seenL_next hf]
    by_cases h1 : 1 < (clsTo i E u i).length
    · have e : outs i E (u + 1) = outs i E u ++ [clsTo i E u i] := by
        show (if firstB i E u = true ∧ _ then _ else _) = _
        rw [if_pos ⟨hf, h1⟩]
      rw [e] at cont
      refine Ev.step (fun k => ?_) cont
      simp only [beacon_Twins_tail.l1]
      rw [if_neg (by omega), if_pos (by omega), if_pos (by omega), succ_w u (by omega)]
    · have e : outs i E (u + 1) = outs i E u := by
        show (if firstB i E u = true ∧ _ then _ else _) = _
        rw [if_neg (fun h => h1 h.2)]
      rw [e] at cont
      refine Ev.step (fun k => ?_) cont
      simp only [beacon_Twins_tail.l1]
      rw [if_neg (by omega), if_neg (by omega), succ_w u (by omega)]
  | d + 1, i, hd, hui => by
    have hi : i < n := by omega
    have ih := pc_l1 hn hu hf cont d (i + 1) (by omega) (by omega)
    have hcl := clsTo_len (n := n) (E := E) u i
    have q : (clsTo n E u i).length < 17592186044416 := by omega
    have hsl : (seenL n E u i).length = n := by simp [seenL]
    rw [seenL_set hi, clsTo_succ] at ih
    by_cases e : i = u
    · have hin : inC n E u i = true := by unfold inC; simp [e]
      rw [if_pos hin, if_pos hin] at ih
      refine Ev.step (fun k => ?_) ih
      simp only [beacon_Twins_tail.l1]
      rw [if_pos (by omega), if_pos (by omega), if_pos q, if_pos (by omega), if_pos (by omega), succ_w i (by omega), Int.toNat_natCast]
    · have hin : inC n E u i = twB n E u i := by
        unfold inC
        rw [decide_eq_false e, decide_eq_true (by omega)]; simp
      have e0 : ¬ (i : Int) = (u : Int) := by omega
      have q1 : (i : Int) < n := by omega
      have q2 : (0 : Int) ≤ i := by omega
      have q3 : (i : Int) < (seenL n E u i).length := by omega
      rw [hin] at ih
      have htw := ptwins_ev (M := M) (E := E) hu hi hn
      cases ht : twB n E u i with
      | true =>
        rw [ht, if_pos rfl, if_pos rfl] at ih
        rw [ht] at htw
        refine Ev.step (f := fun k => (beacon_graph_twins.f k (Gr n E M) (u : Int) (i : Int)).bind fun t118 => if t118 = true then beacon_Twins_tail.l1 k n (Gr n E M) (outs n E u) ((seenL n E u i).set i true) u (clsTo n E u i ++ [(i : Int)]) ((i + 1 : Nat) : Int) n u else beacon_Twins_tail.l1 k n (Gr n E M) (outs n E u) (seenL n E u i) u (clsTo n E u i) ((i + 1 : Nat) : Int) n u) (fun k => ?_) (Ev.bind htw (ev_pos rfl ih))
        simp only [beacon_Twins_tail.l1]
        simp only [if_pos q1, if_neg e0, if_pos q, if_pos q2, if_pos q3, succ_w i (by omega), Int.toNat_natCast]
      | false =>
        rw [ht, if_neg (by decide), if_neg (by decide)] at ih
        rw [ht] at htw
        refine Ev.step (f := fun k => (beacon_graph_twins.f k (Gr n E M) (u : Int) (i : Int)).bind fun t118 => if t118 = true then beacon_Twins_tail.l1 k n (Gr n E M) (outs n E u) ((seenL n E u i).set i true) u (clsTo n E u i ++ [(i : Int)]) ((i + 1 : Nat) : Int) n u else beacon_Twins_tail.l1 k n (Gr n E M) (outs n E u) (seenL n E u i) u (clsTo n E u i) ((i + 1 : Nat) : Int) n u) (fun k => ?_) (Ev.bind htw (ev_neg (by decide) ih))
        simp only [beacon_Twins_tail.l1]
        simp only [if_pos q1, if_neg e0, if_pos q, if_pos q2, if_pos q3, succ_w i (by omega), Int.toNat_natCast]
theorem ptail_ev (hM : Met n E M) : Ev (fun k => beacon_Twins_tail.l0 k n (Gr n E M) [] (List.replicate n false) n 0) (outs n E n, 0) := by
  have hn := hM.n10
  have key := up_ind (fun u => Ev (fun k => beacon_Twins_tail.l0 k n (Gr n E M) (outs n E u) (seenL n E u 0) n (u : Int)) (outs n E n, 0)) n ?_ ?_
  · have e : seenL n E 0 0 = List.replicate n false := by
      unfold seenL seenB
      simp [List.map_const']
    rw [e] at key
    exact key
  · refine Ev.step (f := fun _ => some (outs n E n, 0)) (fun k => ?_) (Ev.now _)
    simp only [beacon_Twins_tail.l0]
    rw [if_neg (by omega)]
  · intro u hu ih
    have hsl : (seenL n E u 0).length = n := by simp [seenL]
    have hat : rdOf false (seenL n E u 0) (u : Int) = !firstB n E u := by
      rw [← seen_first hM.es hu]
      unfold rdOf seenL
      simp [hu]
    cases hf : firstB n E u with
    | false =>
      rw [← seenL_skip hf] at ih
      have e : outs n E (u + 1) = outs n E u := by
        show (if firstB n E u = true ∧ _ then _ else _) = _
        rw [if_neg (fun h => by rw [hf] at h; cases h.1)]
      rw [e] at ih
      refine Ev.step (fun k => ?_) ih
      simp only [beacon_Twins_tail.l0]
      rw [if_pos (by omega), if_pos (by omega), if_pos (by omega), if_pos (by rw [hat, hf]; rfl), succ_w u (by omega)]
    | true =>
      have h := pc_l1 (M := M) hn hu hf ih (n - u) u (by omega) (Nat.le_refl _)
      rw [seenL_low u (Nat.le_refl _) (by omega), clsTo_low u u (Nat.le_refl _)] at h
      refine Ev.step (fun k => ?_) h
      simp only [beacon_Twins_tail.l0]
      rw [if_pos (by omega), if_pos (by omega), if_pos (by omega), if_neg (by rw [hat, hf]; decide)]
end
end Go.Proofs.YtbeimdngghedjaaDoor.Pure

/-! Degrees, leaves and the way from a leaf: the program's and the reference's. -/
namespace Go.Proofs.YtbeimdngghedjaaDoor.Pure
open Go Go.Proofs Go.RowKit Go.Proofs.YtbeimdngghedjaaDoor.P Go.Proofs.YtbeimdngghedjaaDoorW.PrintWords Go.Proofs.YtbeimdngghedjaaDoorW.PrintLast
set_option linter.unusedVariables false
set_option maxRecDepth 100000
def memN (s : Nat) : List Nat := (List.range 10).filter s.testBit
def asI (l : List Nat) : List Int := l.map fun v : Nat => (v : Int)
theorem membersN_all : ((List.range 1024).all fun s => woggleref01_Members.f 20 (s : Int) == some (asI (memN s))) = true := by decide +kernel
theorem repMembers_ev {x : Int} {S : Nat → Bool} (h : Rep x S) : Ev (fun k => woggleref01_Members.f k x) (asI ((List.range 10).filter S)) := by
  obtain ⟨X, rfl, h2, h3⟩ := h
  have h1 := eq_of_beq (List.all_eq_true.1 membersN_all X (List.mem_range.2 h2))
  have e : memN X = (List.range 10).filter S := by
    unfold memN
    exact List.filter_congr fun i _ => h3 i
  rw [← e]
  exact Ev.mono_at (woggleref01_Members.mono _) h1
theorem filter_up {S : Nat → Bool} {n : Nat} (hS : ∀ w, S w = true → w < n) : ∀ d, (List.range (n + d)).filter S = (List.range n).filter S
  | 0 => rfl
  | d + 1 => by
    rw [← Nat.add_assoc, List.range_succ, List.filter_append, filter_up hS d, List.filter_cons_of_neg (fun h => by have := hS _ h; omega)]
    simp
theorem filter_ten {S : Nat → Bool} {n : Nat} (hn : n ≤ 10) (hS : ∀ w, S w = true → w < n) : (List.range 10).filter S = (List.range n).filter S := by
  have := filter_up hS (10 - n)
  rwa [show n + (10 - n) = 10 by omega] at this
theorem repSize_ev {x : Int} {S : Nat → Bool} {n : Nat} (h : Rep x S) (hn : n ≤ 10) (hS : ∀ w, S w = true → w < n) : Ev (fun k => woggleref06_Size.f k x) ((((List.range n).filter S).length : Nat) : Int) := by
  unfold woggleref06_Size.f
  refine Ev.bind (repMembers_ev h) (ev_eq (Ev.now _) ?_)
  rw [filter_ten hn hS]
  unfold asI
  rw [List.length_map]
section
variable {n : Nat} {E : Nat → Nat → Bool} {M : Mt}
/-- The neighbours, and their number. -/
def nbs (n : Nat) (E : Nat → Nat → Bool) (v : Nat) : List Nat := (List.range n).filter (E v)
def dg (n : Nat) (E : Nat → Nat → Bool) (v : Nat) : Nat := (nbs n E v).length
theorem nbs_mem {v w : Nat} : w ∈ nbs n E v ↔ w < n ∧ E v w = true := by unfold nbs; rw [List.mem_filter, List.mem_range]
theorem nbs_nodup (v : Nat) : (nbs n E v).Nodup := List.Pairwise.filter _ List.nodup_range
theorem dg_le (v : Nat) : dg n E v ≤ n := by
  have := List.length_filter_le (E v) (List.range n)
  rwa [List.length_range] at this
theorem rowsE_len : (rowsE n E).length = n := by simp [rowsE]
theorem row_rd {v i : Nat} (hi : i < n) : rdOf false ((List.range n).map (E v)) (i : Int) = E v i := by unfold rdOf; simp [hi]
theorem degree_ev (hn : n ≤ 10) {v : Nat} (hv : v < n) : Ev (fun k => beacon_graph_degree.f k (Gr n E M) (v : Int)) ((dg n E v : Nat) : Int) := by
  unfold beacon_graph_degree.f
  refine ev_pos (by simp [Gr]) (ev_pos (by omega) ?_)
  rw [gr0]
  refine ev_pos (by simp only [rowsE_len]; omega) ?_
  simp only
  rw [rowE_at v hv]
  have hlen : ((List.range n).map (E v)).length = n := by simp
  rw [hlen]
  refine up_ind (fun i => Ev (fun k => beacon_graph_degree.l0 k (((((List.range i).filter (E v)).length : Nat)) : Int) ((List.range n).map (E v)) (n : Int) (i : Int)) ((dg n E v : Nat) : Int)) n ?_ ?_
  · refine Ev.step (f := fun _ => some ((dg n E v : Nat) : Int)) (fun k => ?_) (Ev.now _)
    simp only [beacon_graph_degree.l0]
    rw [if_neg (by omega)]; rfl
  · intro i hi ih
    have hle := List.length_filter_le (E v) (List.range i)
    rw [List.length_range] at hle
    rw [List.range_succ, List.filter_append, List.length_append] at ih
    refine Ev.step (fun k => ?_) ih
    simp only [beacon_graph_degree.l0]
    rw [if_pos (by omega), if_pos (by omega), if_pos (by rw [hlen]; omega), row_rd hi, succ_w i (by omega), succ_w _ (by omega)]
    by_cases h : E v i = true
    · rw [if_pos h, List.filter_cons_of_pos h]; rfl
    · rw [if_neg h, List.filter_cons_of_neg h]; rfl
theorem index_ev (hn : n ≤ 10) {v p : Nat} (hp : p < n) (hE : E v p = true) (hmin : ∀ x, x < p → E v x = false) : Ev (fun k => slices_Index_bool_bool.f k ((List.range n).map (E v)) true) (p : Int) := by
  have hlen : ((List.range n).map (E v)).length = n := by simp
  unfold slices_Index_bool_bool.f
  rw [hlen]
  refine up_ind (fun i => Ev (fun k => slices_Index_bool_bool.l0 k ((List.range n).map (E v)) true (n : Int) (i : Int)) (p : Int)) p ?_ ?_
  · refine Ev.step (f := fun _ => some (p : Int)) (fun k => ?_) (Ev.now _)
    simp only [slices_Index_bool_bool.l0]
    rw [if_pos (by omega), if_pos (by omega), if_pos (by rw [hlen]; omega), row_rd hp, hE, if_pos (by decide)]
  · intro i hi ih
    refine Ev.step (fun k => ?_) ih
    simp only [slices_Index_bool_bool.l0]
    rw [if_pos (by omega), if_pos (by omega), if_pos (by rw [hlen]; omega), row_rd (by omega), hmin i hi, if_neg (by decide), succ_w i (by omega)]
/-- The first of a filtered range. -/
theorem filter_head {S : Nat → Bool} : ∀ {m p : Nat} {q : List Nat}, (List.range m).filter S = p :: q → p < m ∧ S p = true ∧ (∀ x, x < p → S x = false) ∧ ∀ y ∈ q, p < y
  | 0, p, q, h => by cases h
  | m + 1, p, q, h => by
    rw [List.range_succ, List.filter_append] at h
    cases hf : (List.range m).filter S with
    | nil =>
      rw [hf, List.nil_append] at h
      by_cases hm : S m = true
      · rw [List.filter_cons_of_pos hm] at h
        injection h with h1 h2
        subst h1
        refine ⟨by omega, hm, fun x hx => ?_, fun y hy => by rw [← h2] at hy; cases hy⟩
        cases hx2 : S x with
        | false => rfl
        | true =>
          have : x ∈ (List.range m).filter S := List.mem_filter.2 ⟨List.mem_range.2 hx, hx2⟩
          rw [hf] at this; cases this
      · rw [List.filter_cons_of_neg hm] at h; cases h
    | cons a l =>
      rw [hf, List.cons_append] at h
      injection h with h1 h2
      subst h1
      obtain ⟨a1, a2, a3, a4⟩ := filter_head hf
      refine ⟨by omega, a2, a3, fun y hy => ?_⟩
      rw [← h2] at hy
      rcases List.mem_append.1 hy with hy | hy
      · exact a4 y hy
      · have := (List.mem_filter.1 hy).1
        have : y = m := List.mem_singleton.1 this
        omega
/-- Two neighbours. -/
theorem dg_two {v : Nat} (h : dg n E v = 2) : ∃ p q, nbs n E v = [p, q] ∧ p < q ∧ q < n ∧ E v p = true ∧ E v q = true ∧ ∀ x, E v x = true → x < n → x = p ∨ x = q := by
  unfold dg at h
  match hl : nbs n E v, h with
  | [p, q], _ =>
    have hh := filter_head (show (List.range n).filter (E v) = p :: [q] from hl)
    have hq : q ∈ nbs n E v := by rw [hl]; simp
    have hq2 := nbs_mem.1 hq
    refine ⟨p, q, rfl, hh.2.2.2 q (by simp), hq2.1, hh.2.1, hq2.2, fun x hx hxn => ?_⟩
    have : x ∈ nbs n E v := nbs_mem.2 ⟨hxn, hx⟩
    rw [hl] at this
    simpa using this
/-- The other neighbour. -/
def oth (p q last : Nat) : Nat := if last = p then q else p
theorem p_l2 (hn : n ≤ 10) {last at_ q : Nat} (hat : at_ < n) (hq : q < n) (hall : ∀ x, x < n → x ≠ last → (E at_ x = true ↔ x = q)) (hql : q ≠ last) {x0 x8 x9 x10 : Int} {x11 : List Bool} {x31 x32 : Int} {r : Int × Int}
    (cont : Ev (fun k => beacon_Slater_tail.j3 k x0 (Gr n E M) x8 x9 x10 x11 (at_ : Int) (q : Int) x31 x32) r) :
    Ev (fun k => beacon_Slater_tail.l2 k x0 (Gr n E M) x8 x9 x10 x11 (last : Int) (at_ : Int) (at_ : Int) x31 x32 ((List.range n).map (E at_)) (n : Int) 0) r := by
  have hlen : ((List.range n).map (E at_)).length = n := by simp
  have key := up_ind (fun i => Ev (fun k => beacon_Slater_tail.l2 k x0 (Gr n E M) x8 x9 x10 x11 (last : Int) (at_ : Int) (if i ≤ q then (at_ : Int) else (q : Int)) x31 x32 ((List.range n).map (E at_)) (n : Int) (i : Int)) r) n ?_ ?_
  · rw [if_pos (Nat.zero_le _)] at key
    exact key
  · rw [if_neg (by omega)]
    refine Ev.step (fun k => ?_) cont
    simp only [beacon_Slater_tail.l2]
    rw [if_neg (by omega)]
  · intro i hi ih
    by_cases e1 : i = last
    · subst e1
      have e2 : (if i + 1 ≤ q then (at_ : Int) else (q : Int)) = if i ≤ q then (at_ : Int) else (q : Int) := by
        by_cases h : i ≤ q
        · rw [if_pos h, if_pos (by omega)]
        · rw [if_neg h, if_neg (by omega)]
      rw [e2] at ih
      refine Ev.step (fun k => ?_) ih
      simp only [beacon_Slater_tail.l2]
      rw [if_pos (by omega), if_pos (by omega), if_pos (by rw [hlen]; omega), row_rd hi, succ_w i (by omega)]
      simp only [if_true]
      split <;> rfl
    · by_cases e2 : i = q
      · subst e2
        rw [if_neg (by omega)] at ih
        rw [if_pos (Nat.le_refl _)]
        refine Ev.step (fun k => ?_) ih
        simp only [beacon_Slater_tail.l2]
        rw [if_pos (by omega), if_pos (by omega), if_pos (by rw [hlen]; omega), row_rd hi, succ_w i (by omega), if_pos ((hall i hi e1).2 rfl), if_neg (by omega)]
      · have e3 : (if i + 1 ≤ q then (at_ : Int) else (q : Int)) = if i ≤ q then (at_ : Int) else (q : Int) := by
          by_cases h : i ≤ q
          · rw [if_pos h, if_pos (by omega)]
          · rw [if_neg h, if_neg (by omega)]
        rw [e3] at ih
        refine Ev.step (fun k => ?_) ih
        simp only [beacon_Slater_tail.l2]
        rw [if_pos (by omega), if_pos (by omega), if_pos (by rw [hlen]; omega), row_rd hi, succ_w i (by omega), if_neg (fun h => e2 ((hall i hi e1).1 h))]
end
end Go.Proofs.YtbeimdngghedjaaDoor.Pure

/-! The way from a leaf to its end: both programs go the same way. -/
namespace Go.Proofs.YtbeimdngghedjaaDoor.Pure
open Go Go.Proofs Go.RowKit Go.Proofs.YtbeimdngghedjaaDoor.P Go.Proofs.YtbeimdngghedjaaDoorW.PrintWords Go.Proofs.YtbeimdngghedjaaDoorW.PrintLast
set_option linter.unusedVariables false
set_option maxRecDepth 100000
section
variable {n : Nat} {E : Nat → Nat → Bool} {M : Mt}
/-- What the program does with the end e of a way, and the reference. -/
def PGo (n : Nat) (E : Nat → Nat → Bool) (M : Mt) (last at_ e : Nat) : Prop := ∀ (x0 x8 x9 x10 : Int) (mj : List Bool) (v : Nat) (r : Int × Int), v < n → mj.length = n →
  Ev (fun k => beacon_Slater_tail.l0 k x0 (Gr n E M) x8 x9 x10 (mj.set e true) n ((v + 1 : Nat) : Int)) r → Ev (fun k => beacon_Slater_tail.j3 k x0 (Gr n E M) x8 x9 x10 mj (last : Int) (at_ : Int) n v) r
def RGo (L : List Int) (n : Nat) (last at_ e : Nat) : Prop := ∀ (x3 x4 : Int) (v : Nat) (r : Int), v < n →
  Ev (fun k => woggleref07_Slater.l0 k L x3 (Go.bits .or .i64 x4 (shl .i64 1 (e : Int))) ((v + 1 : Nat) : Int)) r → Ev (fun k => woggleref07_Slater.l1 k L x3 x4 (v : Int) (last : Int) (at_ : Int)) r
theorem trail (hn : n ≤ 10) (hs : ∀ i j, E i j = E j i) (hb : ∀ u w, E u w = true → w < n) (hirr : ∀ x, E x x = false) {L : List Int} (hL : NearRep n E L) :
    ∀ (d : Nat) (vis : List Nat) (last at_ : Nat), vis.length + d = n → vis.Nodup → (∀ x ∈ vis, x < n) → at_ ∉ vis → last ∈ vis → at_ < n → E last at_ = true → (∀ x ∈ vis, ∀ y, E x y = true → y ∈ vis ∨ y = at_) → (∀ x ∈ vis, E x at_ = true → x = last) →
      ∃ e, e < n ∧ PGo n E M last at_ e ∧ RGo L n last at_ e
  | 0, vis, last, at_, hd, hnd, hvn, hat, hl, han, _, _, _ => by
    have h := nodup_sub (at_ :: vis) (List.range n) (List.nodup_cons.2 ⟨hat, hnd⟩) (fun x hx => by
      rcases List.mem_cons.1 hx with rfl | hx
      · exact List.mem_range.2 han
      · exact List.mem_range.2 (hvn x hx))
    rw [List.length_cons, List.length_range] at h
    omega
  | d + 1, vis, last, at_, hd, hnd, hvn, hat, hl, han, hE, h1, h2 => by
    have hlast : last < n := hvn last hl
    have hne : at_ ≠ last := fun e => hat (e ▸ hl)
    have dgP := degree_ev (M := M) (E := E) hn han
    have szR := repSize_ev (hL.2 at_ han) hn (hb at_)
    by_cases h2d : dg n E at_ = 2
    · obtain ⟨p, q, hnb, hpq, hqn, hEp, hEq, hall⟩ := dg_two h2d
      have hlpq : last = p ∨ last = q := hall last (by rw [hs]; exact hE) hlast
      have oE : E at_ (oth p q last) = true := by unfold oth; split <;> assumption
      have on : oth p q last < n := hb _ _ oE
      have onl : oth p q last ≠ last := by unfold oth; split <;> omega
      have oat : oth p q last ≠ at_ := fun e => by rw [e, hirr] at oE; cases oE
      have ovis : oth p q last ∉ vis := fun hm => by
        have := h2 _ hm (by rw [hs]; exact oE)
        exact onl this
      have hall2 : ∀ x, E at_ x = true → x = last ∨ x = oth p q last := fun x hx => by
        have hx2 := hall x hx (hb _ _ hx)
        unfold oth
        split <;> omega
      obtain ⟨e, he, hP, hR⟩ := trail hn hs hb hirr hL d (at_ :: vis) at_ (oth p q last) (by rw [List.length_cons]; omega) (List.nodup_cons.2 ⟨hat, hnd⟩) (fun x hx => by
          rcases List.mem_cons.1 hx with rfl | hx
          · exact han
          · exact hvn x hx) (fun hm => by
          rcases List.mem_cons.1 hm with hm | hm
          · exact oat hm
          · exact ovis hm) (List.mem_cons_self) on oE (fun x hx y hy => by
          rcases List.mem_cons.1 hx with rfl | hx
          · rcases hall2 y hy with rfl | rfl
            · exact .inl (List.mem_cons_of_mem _ hl)
            · exact .inr rfl
          · rcases h1 x hx y hy with h | rfl
            · exact .inl (List.mem_cons_of_mem _ h)
            · exact .inl (List.mem_cons_self)) (fun x hx hy => by
          rcases List.mem_cons.1 hx with rfl | hx
          · rfl
          · rcases h1 x hx _ hy with h | h
            · exact absurd h ovis
            · exact absurd h oat)
      refine ⟨e, he, ?_, ?_⟩
      · intro x0 x8 x9 x10 mj v r hv hmj hev
        have hj := hP x0 x8 x9 x10 mj v r hv hmj hev
        have hidx := index_ev (E := E) hn (v := at_) (p := p) (by omega) hEp (fun x hx => by
          cases hq : E at_ x with
          | false => rfl
          | true => rcases hall x hq (by omega) with h | h <;> omega)
        have g1 : (0 : Int) < ((Gr n E M).length : Int) := by simp [Gr]
        have hl1 : Ev (fun k => beacon_Slater_tail.l1 k x0 (Gr n E M) x8 x9 x10 mj (last : Int) (at_ : Int) n v) r := by
          refine Ev.step (f := fun k => (slices_Index_bool_bool.f k ((List.range n).map (E at_)) true).bind fun t113 => (if t113 = (last : Int) then (beacon_Slater_tail.l2 k x0 (Gr n E M) x8 x9 x10 mj (last : Int) (at_ : Int) (at_ : Int) n v ((List.range n).map (E at_)) (n : Int) 0) else (beacon_Slater_tail.j3 k x0 (Gr n E M) x8 x9 x10 mj (at_ : Int) t113 n v))) (fun k => ?_) (Ev.bind hidx ?_)
          · simp only [beacon_Slater_tail.l1]
            rw [if_pos g1, if_pos (by omega), gr0]
            simp only
            rw [if_pos (by rw [rowsE_len]; omega), rowE_at at_ han]
            simp only [List.length_map, List.length_range]
          · by_cases c : last = p
            · have ho : oth p q last = q := by unfold oth; rw [if_pos c]
              rw [ho] at hj
              refine ev_pos (by omega) (p_l2 hn han hqn (fun x hx hxl => ⟨fun h => ?_, fun h => by rw [h]; exact hEq⟩) (by omega) hj)
              rcases hall x h hx with h | h
              · omega
              · exact h
            · have ho : oth p q last = p := by unfold oth; rw [if_neg c]
              rw [ho] at hj
              exact ev_neg (by omega) hj
        refine Ev.step (f := fun k => (beacon_graph_degree.f k (Gr n E M) (at_ : Int)).bind fun t118 => (if t118 = 2 then (beacon_Slater_tail.l1 k x0 (Gr n E M) x8 x9 x10 mj (last : Int) (at_ : Int) n v) else (if 0 ≤ (at_ : Int) then (if (at_ : Int) < (mj.length : Int) then (beacon_Slater_tail.l0 k x0 (Gr n E M) x8 x9 x10 (mj.set (at_ : Int).toNat true) n (wrap64 ((v : Int) + 1))) else (none)) else (none)))) (fun k => ?_) (Ev.bind dgP (ev_pos (by omega) hl1))
        simp only [beacon_Slater_tail.j3]
        rw [if_neg (by omega)]
      · intro x3 x4 v r hv hev
        have hj := hR x3 x4 v r hv hev
        have hrep := (hL.2 at_ han).andNot (Rep.one (i := last) (by omega))
        have hmem := repMembers_ev hrep
        have hf : (List.range 10).filter (fun i => E at_ i && !decide (last = i)) = [oth p q last] := by
          have e1 : (List.range 10).filter (fun i => E at_ i && !decide (last = i)) = ((List.range 10).filter (E at_)).filter (fun i => !decide (last = i)) := by
            rw [List.filter_filter]
            exact List.filter_congr fun i _ => by rw [Bool.and_comm]
          rw [e1, filter_ten hn (hb at_), show (List.range n).filter (E at_) = [p, q] from hnb]
          unfold oth
          by_cases c : last = p
          · subst c
            rw [if_pos rfl, List.filter_cons_of_neg (by simp), List.filter_cons_of_pos (by simp; omega)]; rfl
          · have c2 : last = q := by omega
            subst c2
            rw [if_neg c, List.filter_cons_of_pos (by simp; omega), List.filter_cons_of_neg (by simp)]; rfl
        rw [hf] at hmem
        have g1 : (at_ : Int) < (L.length : Int) := by rw [hL.1]; omega
        have hz : ((((List.range n).filter (E at_)).length : Nat) : Int) = 2 := by
          have : ((List.range n).filter (E at_)).length = 2 := h2d
          omega
        rw [hz] at szR
        refine Ev.step (f := fun k => (woggleref06_Size.f k (rd L (at_ : Int))).bind fun t621 => (if t621 = 2 then (if 0 ≤ (last : Int) then ((woggleref01_Members.f k (Go.bits .andNot .i64 (rd L (at_ : Int)) (shl .i64 1 (last : Int)))).bind fun t623 => (if 0 < (t623.length : Int) then (woggleref07_Slater.l1 k L x3 x4 v (at_ : Int) (rd t623 0)) else (none))) else (none)) else (woggleref07_Slater.l0 k L x3 (Go.bits .or .i64 x4 (shl .i64 1 (at_ : Int))) (wrap64 ((v : Int) + 1))))) (fun k => ?_) (Ev.bind szR (ev_pos rfl (ev_pos (by omega) (Ev.bind hmem (ev_pos (by simp [asI]) ?_)))))
        · simp only [woggleref07_Slater.l1]
          rw [if_pos (by omega), if_pos g1]
        · have : rd (asI [oth p q last]) 0 = ((oth p q last : Nat) : Int) := rfl
          rw [this]
          exact hj
    · refine ⟨at_, han, ?_, ?_⟩
      · intro x0 x8 x9 x10 mj v r hv hmj hev
        refine Ev.step (f := fun k => (beacon_graph_degree.f k (Gr n E M) (at_ : Int)).bind fun t118 => (if t118 = 2 then (beacon_Slater_tail.l1 k x0 (Gr n E M) x8 x9 x10 mj (last : Int) (at_ : Int) n v) else (if 0 ≤ (at_ : Int) then (if (at_ : Int) < (mj.length : Int) then (beacon_Slater_tail.l0 k x0 (Gr n E M) x8 x9 x10 (mj.set (at_ : Int).toNat true) n (wrap64 ((v : Int) + 1))) else (none)) else (none)))) (fun k => ?_) (Ev.bind dgP (ev_neg (by omega) (ev_pos (by omega) (ev_pos (by omega) ?_))))
        · simp only [beacon_Slater_tail.j3]
          rw [if_neg (by omega)]
        · rw [Int.toNat_natCast, succ_w v (by omega)]
          exact hev
      · intro x3 x4 v r hv hev
        have g1 : (at_ : Int) < (L.length : Int) := by rw [hL.1]; omega
        have hz : ¬ ((((List.range n).filter (E at_)).length : Nat) : Int) = 2 := by
          have : ¬ ((List.range n).filter (E at_)).length = 2 := h2d
          omega
        refine Ev.step (f := fun k => (woggleref06_Size.f k (rd L (at_ : Int))).bind fun t621 => (if t621 = 2 then (if 0 ≤ (last : Int) then ((woggleref01_Members.f k (Go.bits .andNot .i64 (rd L (at_ : Int)) (shl .i64 1 (last : Int)))).bind fun t623 => (if 0 < (t623.length : Int) then (woggleref07_Slater.l1 k L x3 x4 v (at_ : Int) (rd t623 0)) else (none))) else (none)) else (woggleref07_Slater.l0 k L x3 (Go.bits .or .i64 x4 (shl .i64 1 (at_ : Int))) (wrap64 ((v : Int) + 1))))) (fun k => ?_) (Ev.bind szR (ev_neg hz ?_))
        · simp only [woggleref07_Slater.l1]
          rw [if_pos (by omega), if_pos g1]
        · rw [succ_w v (by omega)]
          exact hev
end
end Go.Proofs.YtbeimdngghedjaaDoor.Pure

/-! Slater's formula: the program's and the reference's; trees and paths. -/
namespace Go.Proofs.YtbeimdngghedjaaDoor.Pure
open Go Go.Proofs Go.RowKit Go.Proofs.YtbeimdngghedjaaDoor.P Go.Proofs.YtbeimdngghedjaaDoorW.PrintWords Go.Proofs.YtbeimdngghedjaaDoorW.PrintLast
set_option linter.unusedVariables false
set_option maxRecDepth 100000
section
variable {n : Nat} {E : Nat → Nat → Bool} {M : Mt}
def sumD (n : Nat) (E : Nat → Nat → Bool) : Nat → Nat
  | 0 => 0
  | v + 1 => sumD n E v + dg n E v
def grt (n : Nat) (E : Nat → Nat → Bool) : Nat → Int
  | 0 => 0
  | v + 1 => mx (grt n E v) ((dg n E v : Nat) : Int)
def lvs (n : Nat) (E : Nat → Nat → Bool) : Nat → Nat
  | 0 => 0
  | v + 1 => lvs n E v + if dg n E v = 1 then 1 else 0
def endS (n : Nat) (E : Nat → Nat → Bool) (ends : Nat → Nat) (v x : Nat) : Bool := (List.range v).any fun u => decide (dg n E u = 1) && decide (ends u = x)
def majL (n : Nat) (E : Nat → Nat → Bool) (ends : Nat → Nat) (v : Nat) : List Bool := (List.range n).map (endS n E ends v)
def cntS (n : Nat) (E : Nat → Nat → Bool) (ends : Nat → Nat) : Nat := ((List.range n).filter (endS n E ends n)).length
theorem sumD_le : ∀ v, sumD n E v ≤ v * n
  | 0 => by simp [sumD]
  | v + 1 => by
    have := sumD_le v
    have := dg_le (n := n) (E := E) v
    rw [Nat.succ_mul]
    unfold sumD
    omega
theorem lvs_le : ∀ v, lvs n E v ≤ v
  | 0 => Nat.le_refl _
  | v + 1 => by
    have := lvs_le v
    unfold lvs
    split <;> omega
theorem grt_low : ∀ v, 0 ≤ grt n E v ∧ (grt n E v < 3 ↔ ∀ u, u < v → dg n E u < 3)
  | 0 => ⟨Int.le_refl _, ⟨fun _ u hu => by omega, fun _ => show (0 : Int) < 3 by decide⟩⟩
  | v + 1 => by
    obtain ⟨h0, h1⟩ := grt_low v
    have e : grt n E (v + 1) = mx (grt n E v) ((dg n E v : Nat) : Int) := rfl
    have hm : mx (grt n E v) ((dg n E v : Nat) : Int) < 3 ↔ grt n E v < 3 ∧ dg n E v < 3 := by unfold mx; split <;> omega
    refine ⟨by rw [e]; unfold mx; split <;> omega, ?_⟩
    rw [e, hm, h1]
    constructor
    · rintro ⟨a, b⟩ u hu
      by_cases h : u = v
      · subst h; exact b
      · exact a u (by omega)
    · intro h
      exact ⟨fun u hu => h u (by omega), h v (by omega)⟩
theorem endS_skip {ends : Nat → Nat} {v : Nat} (h : ¬ dg n E v = 1) (x : Nat) : endS n E ends (v + 1) x = endS n E ends v x := by
  unfold endS
  rw [List.range_succ, List.any_append]
  simp [h]
theorem endS_leaf {ends : Nat → Nat} {v : Nat} (h : dg n E v = 1) (x : Nat) : endS n E ends (v + 1) x = (endS n E ends v x || decide (ends v = x)) := by
  unfold endS
  rw [List.range_succ, List.any_append]
  simp [h]
theorem majL_skip {ends : Nat → Nat} {v : Nat} (h : ¬ dg n E v = 1) : majL n E ends (v + 1) = majL n E ends v := by
  unfold majL
  exact List.map_congr_left fun x _ => endS_skip h x
theorem majL_leaf {ends : Nat → Nat} {v : Nat} (h : dg n E v = 1) : majL n E ends (v + 1) = (majL n E ends v).set (ends v) true := by
  apply List.ext_getElem
  · simp [majL]
  · intro j h1 h2
    have hj : j < n := by simpa [majL] using h1
    rw [List.getElem_set]
    simp only [majL, List.getElem_map, List.getElem_range]
    rw [endS_leaf h]
    by_cases e : ends v = j
    · rw [if_pos e, decide_eq_true e]; simp
    · rw [if_neg e, decide_eq_false e]; simp
/-- A leaf's way. -/
def PStart (n : Nat) (E : Nat → Nat → Bool) (M : Mt) (u e : Nat) : Prop := ∀ (x0 x8 x9 x10 : Int) (mj : List Bool) (r : Int × Int), mj.length = n →
  Ev (fun k => beacon_Slater_tail.l0 k x0 (Gr n E M) x8 x9 x10 (mj.set e true) n ((u + 1 : Nat) : Int)) r → Ev (fun k => beacon_Slater_tail.l1 k x0 (Gr n E M) x8 x9 x10 mj (-1) (u : Int) n u) r
def RStart (L : List Int) (n u e : Nat) : Prop := ∃ t, Ev (fun k => woggleref01_Members.f k (rd L (u : Int))) t ∧ 0 < (t.length : Int) ∧ ∀ (x3 x4 : Int) (r : Int),
  Ev (fun k => woggleref07_Slater.l0 k L x3 (Go.bits .or .i64 x4 (shl .i64 1 (e : Int))) ((u + 1 : Nat) : Int)) r → Ev (fun k => woggleref07_Slater.l1 k L x3 x4 (u : Int) (u : Int) (rd t 0)) r
theorem leaf_start (hn : n ≤ 10) (hs : ∀ i j, E i j = E j i) (hb : ∀ u w, E u w = true → w < n) (hirr : ∀ x, E x x = false) {L : List Int} (hL : NearRep n E L) {u : Nat} (hu : u < n) (hd : dg n E u = 1) :
    ∃ e, e < n ∧ PStart n E M u e ∧ RStart L n u e := by
  unfold dg at hd
  match hl : nbs n E u, hd with
  | [a], _ =>
    have hh := filter_head (show (List.range n).filter (E u) = a :: [] from hl)
    have hau : a ≠ u := fun e => by have := hh.2.1; rw [e, hirr] at this; cases this
    have hall : ∀ y, E u y = true → y = a := fun y hy => by
      have : y ∈ nbs n E u := nbs_mem.2 ⟨hb _ _ hy, hy⟩
      rw [hl] at this
      exact List.mem_singleton.1 this
    obtain ⟨e, he, hP, hR⟩ := trail (M := M) hn hs hb hirr hL (n - 1) [u] u a (by simp; omega) (by simp) (fun x hx => by rw [List.mem_singleton.1 hx]; exact hu) (fun h => hau (List.mem_singleton.1 h)) (by simp) hh.1 hh.2.1
      (fun x hx y hy => by rw [List.mem_singleton.1 hx] at hy; exact .inr (hall y hy)) (fun x hx _ => List.mem_singleton.1 hx)
    refine ⟨e, he, ?_, ?_⟩
    · intro x0 x8 x9 x10 mj r hmj hev
      have hj := hP x0 x8 x9 x10 mj u r hu hmj hev
      have hidx := index_ev (E := E) hn (v := u) (p := a) hh.1 hh.2.1 hh.2.2.1
      have g1 : (0 : Int) < ((Gr n E M).length : Int) := by simp [Gr]
      refine Ev.step (f := fun k => (slices_Index_bool_bool.f k ((List.range n).map (E u)) true).bind fun t113 => (if t113 = (-1 : Int) then (beacon_Slater_tail.l2 k x0 (Gr n E M) x8 x9 x10 mj (-1) (u : Int) (u : Int) n u ((List.range n).map (E u)) (n : Int) 0) else (beacon_Slater_tail.j3 k x0 (Gr n E M) x8 x9 x10 mj (u : Int) t113 n u))) (fun k => ?_) (Ev.bind hidx (ev_neg (by omega) hj))
      simp only [beacon_Slater_tail.l1]
      rw [if_pos g1, if_pos (by omega), gr0]
      simp only
      rw [if_pos (by rw [rowsE_len]; omega), rowE_at u hu]
      simp only [List.length_map, List.length_range]
    · have hmem := repMembers_ev (hL.2 u hu)
      rw [filter_ten hn (hb u), show (List.range n).filter (E u) = [a] from hl] at hmem
      exact ⟨_, hmem, by simp [asI], fun x3 x4 r hev => hR x3 x4 u r hu hev⟩
theorem ends_ex (hn : n ≤ 10) (hs : ∀ i j, E i j = E j i) (hb : ∀ u w, E u w = true → w < n) (hirr : ∀ x, E x x = false) {L : List Int} (hL : NearRep n E L) :
    ∃ ends : Nat → Nat, ∀ u, u < n → dg n E u = 1 → ends u < n ∧ PStart n E M u (ends u) ∧ RStart L n u (ends u) := by
  have h : ∀ u, ∃ e, u < n → dg n E u = 1 → e < n ∧ PStart n E M u e ∧ RStart L n u e := fun u => by
    by_cases hu : u < n
    · by_cases hd : dg n E u = 1
      · obtain ⟨e, he⟩ := leaf_start (M := M) hn hs hb hirr hL hu hd
        exact ⟨e, fun _ _ => he⟩
      · exact ⟨0, fun _ h => absurd h hd⟩
    · exact ⟨0, fun h => absurd h hu⟩
  exact ⟨fun u => Classical.choose (h u), fun u => Classical.choose_spec (h u)⟩
/-- What Slater answers on a graph. -/
def slatR (n : Nat) (E : Nat → Nat → Bool) (ends : Nat → Nat) : Int × Int := if sumD n E n = 2 * (n - 1) ∧ ¬ grt n E n < 3 then ((lvs n E n : Int) - (cntS n E ends : Int), 0) else (0, 5)
theorem pslater_ev (hM : Met n E M) {ends : Nat → Nat} {L : List Int} (he : ∀ u, u < n → dg n E u = 1 → ends u < n ∧ PStart n E M u (ends u) ∧ RStart L n u (ends u)) :
    Ev (fun k => beacon_Slater_tail.l0 k n (Gr n E M) 0 0 0 (List.replicate n false) n 0) (slatR n E ends) := by
  have hn := hM.n10
  have hn1 := hM.n1
  have key := up_ind (fun v => Ev (fun k => beacon_Slater_tail.l0 k n (Gr n E M) ((sumD n E v : Nat) : Int) (grt n E v) ((lvs n E v : Nat) : Int) (majL n E ends v) n (v : Int)) (slatR n E ends)) n ?_ ?_
  · have e : majL n E ends 0 = List.replicate n false := by
      unfold majL endS
      simp [List.map_const']
    rw [e] at key
    exact key
  · have hlen : (majL n E ends n).length = n := by simp [majL]
    have h3 : Ev (fun k => beacon_Slater_tail.l3 k ((lvs n E n : Nat) : Int) (majL n E ends n) ((majL n E ends n).length : Int) 0) ((lvs n E n : Int) - (cntS n E ends : Int), 0) := by
      rw [hlen]
      have k2 := up_ind (fun i => Ev (fun k => beacon_Slater_tail.l3 k ((lvs n E n : Int) - ((((List.range i).filter (endS n E ends n)).length : Nat) : Int)) (majL n E ends n) (n : Int) (i : Int)) ((lvs n E n : Int) - (cntS n E ends : Int), 0)) n ?_ ?_
      · simpa using k2
      · refine Ev.step (f := fun _ => some ((lvs n E n : Int) - (cntS n E ends : Int), 0)) (fun k => ?_) (Ev.now _)
        simp only [beacon_Slater_tail.l3]
        rw [if_neg (by omega)]; rfl
      · intro i hi ih
        have hle := List.length_filter_le (endS n E ends n) (List.range i)
        rw [List.length_range] at hle
        have hll := lvs_le (n := n) (E := E) n
        rw [List.range_succ, List.filter_append, List.length_append] at ih
        have hrd : rdOf false (majL n E ends n) (i : Int) = endS n E ends n i := by unfold rdOf majL; simp [hi]
        refine Ev.step (fun k => ?_) ih
        simp only [beacon_Slater_tail.l3]
        rw [if_pos (by omega), if_pos (by omega), if_pos (by rw [hlen]; omega), hrd, succ_w i (by omega)]
        by_cases h : endS n E ends n i = true
        · rw [if_pos h, List.filter_cons_of_pos h, IntWalk.wrap64_in _ (by omega)]
          congr 1
          simp only [List.filter_nil, List.length_cons, List.length_nil]
          omega
        · rw [if_neg h, List.filter_cons_of_neg h]
          congr 1
    have w1 : wrap64 (2 * wrap64 ((n : Int) - 1)) = ((2 * (n - 1) : Nat) : Int) := by
      rw [IntWalk.wrap64_in ((n : Int) - 1) (by omega), IntWalk.wrap64_in _ (by omega)]
      omega
    have j4 : ∀ b : Bool, b = (!decide (sumD n E n = 2 * (n - 1) ∧ ¬ grt n E n < 3)) → Ev (fun k => beacon_Slater_tail.j4 k ((lvs n E n : Nat) : Int) (majL n E ends n) b) (slatR n E ends) := fun b hb => by
      unfold slatR
      by_cases h : sumD n E n = 2 * (n - 1) ∧ ¬ grt n E n < 3
      · rw [if_pos h]
        rw [decide_eq_true h] at hb
        subst hb
        refine Ev.step (fun k => ?_) h3
        simp only [beacon_Slater_tail.j4]
        rw [if_neg (by decide)]
      · rw [if_neg h]
        rw [decide_eq_false h] at hb
        subst hb
        refine Ev.step (f := fun _ => some (0, 5)) (fun k => ?_) (Ev.now _)
        simp only [beacon_Slater_tail.j4]
        rw [if_pos (by decide)]
    by_cases c : sumD n E n = 2 * (n - 1)
    · refine Ev.step (fun k => ?_) (j4 (decide (grt n E n < 3)) (by
        by_cases h : grt n E n < 3
        · rw [decide_eq_true h, decide_eq_false (fun hh => hh.2 h)]; rfl
        · rw [decide_eq_false h, decide_eq_true ⟨c, h⟩]; rfl))
      simp only [beacon_Slater_tail.l0]
      rw [if_neg (by omega), w1, if_pos (by omega)]
    · refine Ev.step (fun k => ?_) (j4 true (by rw [decide_eq_false (fun hh => c hh.1)]; rfl))
      simp only [beacon_Slater_tail.l0]
      rw [if_neg (by omega), w1, if_neg (by omega)]
  · intro v hv ih
    have hsl := sumD_le (n := n) (E := E) v
    have hvn : v * n ≤ 10 * 10 := Nat.mul_le_mul (by omega) hn
    have hdl := dg_le (n := n) (E := E) v
    have hll := lvs_le (n := n) (E := E) v
    have hdeg := degree_ev (M := M) (E := E) hn hv
    have ws : wrap64 (((sumD n E v : Nat) : Int) + ((dg n E v : Nat) : Int)) = ((sumD n E (v + 1) : Nat) : Int) := by
      rw [IntWalk.wrap64_in _ (by omega)]
      show _ = ((sumD n E v + dg n E v : Nat) : Int)
      omega
    have wg : mx (grt n E v) ((dg n E v : Nat) : Int) = grt n E (v + 1) := rfl
    have wl : wrap64 (((lvs n E v : Nat) : Int) + 1) = ((lvs n E v + 1 : Nat) : Int) := by rw [IntWalk.wrap64_in _ (by omega)]; omega
    refine Ev.step (f := fun k => (beacon_graph_degree.f k (Gr n E M) (v : Int)).bind fun t110 => (if t110 = 1 then (beacon_Slater_tail.l1 k n (Gr n E M) (wrap64 (((sumD n E v : Nat) : Int) + t110)) (mx (grt n E v) t110) (wrap64 (((lvs n E v : Nat) : Int) + 1)) (majL n E ends v) (-1) (v : Int) n v) else (beacon_Slater_tail.l0 k n (Gr n E M) (wrap64 (((sumD n E v : Nat) : Int) + t110)) (mx (grt n E v) t110) ((lvs n E v : Nat) : Int) (majL n E ends v) n (wrap64 ((v : Int) + 1))))) (fun k => ?_) (Ev.bind hdeg ?_)
    · simp only [beacon_Slater_tail.l0]
      rw [if_pos (by omega)]
    · rw [ws, wg, wl]
      by_cases h : dg n E v = 1
      · have e1 : lvs n E (v + 1) = lvs n E v + 1 := by show lvs n E v + (if dg n E v = 1 then 1 else 0) = _; rw [if_pos h]
        rw [e1, majL_leaf h] at ih
        exact ev_pos (by omega) ((he v hv h).2.1 _ _ _ _ _ _ (by simp [majL]) ih)
      · have e1 : lvs n E (v + 1) = lvs n E v := by show lvs n E v + (if dg n E v = 1 then 1 else 0) = _; rw [if_neg h]; rfl
        rw [e1, majL_skip h] at ih
        refine ev_neg (by omega) ?_
        rw [succ_w v (by omega)]
        exact ih
theorem rslater_ev (hM : Met n E M) (hb : ∀ u w, E u w = true → w < n) {L : List Int} (hL : NearRep n E L) {ends : Nat → Nat} (he : ∀ u, u < n → dg n E u = 1 → ends u < n ∧ PStart n E M u (ends u) ∧ RStart L n u (ends u)) :
    Ev (fun k => woggleref07_Slater.f k L) ((lvs n E n : Int) - (cntS n E ends : Int)) := by
  have hn := hM.n10
  unfold woggleref07_Slater.f
  have key := up_ind (fun v => ∀ x, Rep x (endS n E ends v) → Ev (fun k => woggleref07_Slater.l0 k L ((lvs n E v : Nat) : Int) x (v : Int)) ((lvs n E n : Int) - (cntS n E ends : Int))) n ?_ ?_
  · exact key 0 Rep.zero
  · intro x hx
    have hsz := repSize_ev hx hn (fun w hw => by
      unfold endS at hw
      rw [List.any_eq_true] at hw
      obtain ⟨u, hu, h⟩ := hw
      simp only [Bool.and_eq_true, decide_eq_true_eq] at h
      rw [← h.2]
      exact (he u (List.mem_range.1 hu) h.1).1)
    have hc : cntS n E ends ≤ n := by
      have := List.length_filter_le (endS n E ends n) (List.range n)
      rwa [List.length_range] at this
    have hll := lvs_le (n := n) (E := E) n
    refine Ev.step (f := fun k => (woggleref06_Size.f k x).bind fun t612 => (some (wrap64 (((lvs n E n : Nat) : Int) - t612)))) (fun k => ?_) (Ev.bind hsz (ev_eq (Ev.now _) ?_))
    · simp only [woggleref07_Slater.l0]
      rw [if_neg (by rw [hL.1]; omega)]
    · show wrap64 (((lvs n E n : Nat) : Int) - ((cntS n E ends : Nat) : Int)) = _
      rw [IntWalk.wrap64_in _ (by omega)]
  · intro v hv ih x hx
    have hsz := repSize_ev (hL.2 v hv) hn (hb v)
    have hll := lvs_le (n := n) (E := E) v
    have wl : wrap64 (((lvs n E v : Nat) : Int) + 1) = ((lvs n E v + 1 : Nat) : Int) := by rw [IntWalk.wrap64_in _ (by omega)]; omega
    have g1 : (v : Int) < (L.length : Int) := by rw [hL.1]; omega
    refine Ev.step (f := fun k => (woggleref06_Size.f k (rd L (v : Int))).bind fun t614 => (if t614 = 1 then ((woggleref01_Members.f k (rd L (v : Int))).bind fun t616 => (if 0 < (t616.length : Int) then (woggleref07_Slater.l1 k L (wrap64 (((lvs n E v : Nat) : Int) + 1)) x (v : Int) (v : Int) (rd t616 0)) else (none))) else (woggleref07_Slater.l0 k L ((lvs n E v : Nat) : Int) x (wrap64 ((v : Int) + 1))))) (fun k => ?_) (Ev.bind hsz ?_)
    · simp only [woggleref07_Slater.l0]
      rw [if_pos g1, if_pos (by omega)]
    · by_cases h : dg n E v = 1
      · have e1 : lvs n E (v + 1) = lvs n E v + 1 := by show lvs n E v + (if dg n E v = 1 then 1 else 0) = _; rw [if_pos h]
        rw [e1] at ih
        obtain ⟨hev, hP, t, ht, ht0, hR⟩ := he v hv h
        have h1 : ((((List.range n).filter (E v)).length : Nat) : Int) = 1 := by
          have : ((List.range n).filter (E v)).length = 1 := h
          omega
        refine ev_pos h1 (Ev.bind ht (ev_pos ht0 ?_))
        rw [wl]
        exact hR _ _ _ (ih _ ((hx.or (Rep.one (i := ends v) (by omega))).congr fun i => (endS_leaf h i).symm))
      · have e1 : lvs n E (v + 1) = lvs n E v := by show lvs n E v + (if dg n E v = 1 then 1 else 0) = _; rw [if_neg h]; rfl
        rw [e1] at ih
        have h1 : ¬ ((((List.range n).filter (E v)).length : Nat) : Int) = 1 := by
          have : ¬ ((List.range n).filter (E v)).length = 1 := h
          omega
        refine ev_neg h1 ?_
        rw [succ_w v (by omega)]
        exact ih x (hx.congr fun i => (endS_skip h i).symm)
theorem istree_ev (hM : Met n E M) (hb : ∀ u w, E u w = true → w < n) {L : List Int} (hL : NearRep n E L) : Ev (fun k => woggleref06_IsTree.f k L) (decide (sumD n E n = 2 * (n - 1))) := by
  have hn := hM.n10
  have hn1 := hM.n1
  unfold woggleref06_IsTree.f
  refine up_ind (fun v => Ev (fun k => woggleref06_IsTree.l0 k L ((sumD n E v : Nat) : Int) (v : Int)) (decide (sumD n E n = 2 * (n - 1)))) n ?_ ?_
  · have hc := connected_ev hn1 hn hM.fl hb hL
    have e : ((List.range n).all fun w => decide (M 0 w < n)) = true := List.all_eq_true.2 fun w hw => decide_eq_true (hM.lt 0 w (by omega) (List.mem_range.1 hw))
    rw [e] at hc
    have w1 : wrap64 (2 * wrap64 ((L.length : Int) - 1)) = ((2 * (n - 1) : Nat) : Int) := by
      rw [hL.1, IntWalk.wrap64_in ((n : Int) - 1) (by omega), IntWalk.wrap64_in _ (by omega)]
      omega
    refine Ev.step (f := fun k => (woggleref06_Connected.f k L).bind fun t313 => (if t313 = true then (some (((sumD n E n : Nat) : Int) == (wrap64 (2 * (wrap64 ((L.length : Int) - 1)))))) else (some false))) (fun k => ?_) (Ev.bind hc (ev_pos rfl (ev_eq (Ev.now _) ?_)))
    · simp only [woggleref06_IsTree.l0]
      rw [if_neg (by rw [hL.1]; omega)]
    · rw [w1, Bool.eq_iff_iff, beq_iff_eq, decide_eq_true_eq]
      omega
  · intro v hv ih
    have hsz := repSize_ev (hL.2 v hv) hn (hb v)
    have hsl := sumD_le (n := n) (E := E) v
    have hvn : v * n ≤ 10 * 10 := Nat.mul_le_mul (by omega) hn
    have hdl := dg_le (n := n) (E := E) v
    have ws : wrap64 (((sumD n E v : Nat) : Int) + ((((List.range n).filter (E v)).length : Nat) : Int)) = ((sumD n E (v + 1) : Nat) : Int) := by
      show wrap64 (((sumD n E v : Nat) : Int) + ((dg n E v : Nat) : Int)) = _
      rw [IntWalk.wrap64_in _ (by omega)]
      show _ = ((sumD n E v + dg n E v : Nat) : Int)
      omega
    refine Ev.step (f := fun k => (woggleref06_Size.f k (rd L (v : Int))).bind fun t312 => (woggleref06_IsTree.l0 k L (wrap64 (((sumD n E v : Nat) : Int) + t312)) (wrap64 ((v : Int) + 1)))) (fun k => ?_) (Ev.bind hsz ?_)
    · simp only [woggleref06_IsTree.l0]
      rw [if_pos (by rw [hL.1]; omega), if_pos (by omega)]
    · rw [ws, succ_w v (by omega)]
      exact ih
theorem ispath_ev (hM : Met n E M) (hb : ∀ u w, E u w = true → w < n) {L : List Int} (hL : NearRep n E L) (ht : sumD n E n = 2 * (n - 1)) : Ev (fun k => woggleref07_IsPath.f k L) (decide (grt n E n < 3)) := by
  have hn := hM.n10
  have hg := (grt_low (n := n) (E := E) n).2
  unfold woggleref07_IsPath.f
  have key := up_ind (fun v => (∀ u, u < v → dg n E u < 3) → Ev (fun k => woggleref07_IsPath.l0 k L (v : Int)) (decide (grt n E n < 3))) n ?_ ?_
  · exact key fun u hu => by omega
  · intro h
    have hT := istree_ev hM hb hL
    rw [decide_eq_true ht] at hT
    rw [decide_eq_true (hg.2 h)]
    refine Ev.step (f := fun k => (woggleref06_IsTree.f k L).bind fun t316 => (some t316)) (fun k => ?_) (Ev.bind hT (Ev.now _))
    simp only [woggleref07_IsPath.l0]
    rw [if_neg (by rw [hL.1]; omega)]
  · intro v hv ih h
    have hsz := repSize_ev (hL.2 v hv) hn (hb v)
    refine Ev.step (f := fun k => (woggleref06_Size.f k (rd L (v : Int))).bind fun t315 => (if t315 > 2 then (some false) else (woggleref07_IsPath.l0 k L (wrap64 ((v : Int) + 1))))) (fun k => ?_) (Ev.bind hsz ?_)
    · simp only [woggleref07_IsPath.l0]
      rw [if_pos (by rw [hL.1]; omega), if_pos (by omega)]
    · by_cases c : dg n E v < 3
      · have h1 : ¬ ((((List.range n).filter (E v)).length : Nat) : Int) > 2 := by
          have : ((List.range n).filter (E v)).length < 3 := c
          omega
        refine ev_neg h1 ?_
        rw [succ_w v (by omega)]
        refine ih fun u hu => ?_
        by_cases e : u = v
        · subst e; exact c
        · exact h u (by omega)
      · have h1 : ((((List.range n).filter (E v)).length : Nat) : Int) > 2 := by
          have : ¬ ((List.range n).filter (E v)).length < 3 := c
          omega
        refine ev_pos h1 ?_
        rw [decide_eq_false (fun hh => c (hg.1 hh v hv))]
        exact Ev.now _
end
end Go.Proofs.YtbeimdngghedjaaDoor.Pure

/-! Distances, Twins and Slater answer what the reference's answer, or ErrArg: for all graphs. -/
namespace Go.Proofs.YtbeimdngghedjaaDoor.Pure
open Go Go.Proofs Go.RowKit Go.Proofs.YtbeimdngghedjaaDoor.P Go.Proofs.YtbeimdngghedjaaDoorW.PrintWords Go.Proofs.YtbeimdngghedjaaDoorW.PrintLast
set_option linter.unusedVariables false
theorem BeaconDistances : wogglelaw07_BeaconDistances.Pure := by
  intro n e hn he
  have hfew := few_ev (i64_of hn) e
  generalize hy : e.take 61 = y at hfew
  have key : Ev (fun k => wogglelaw07_BeaconDistances.f k n e) true := by
    unfold wogglelaw07_BeaconDistances.f
    refine Ev.bind hfew ?_
    by_cases hr : readOk n y = true
    · have hr0 := hr
      obtain ⟨N, rfl, n1, n10, ylen, yok, yrow⟩ := readOk_parts hr
      have hM := met_of hr
      have hb : ∀ u w, edE y u w = true → w < N := fun u w => edE_lt yok u w
      have hirr : ∀ x, edE y x x = false := fun x => edE_irr (fun q hq => (edOk_ne yok q hq).1) x
      obtain ⟨L, hL, hLev⟩ := near_ev n10 ylen yok
      have hDs := dist_ev hM hb hL
      obtain ⟨ends, hends⟩ := ends_ex (M := finalM N y) n10 hM.es hb hirr hL
      have hD : beacon_Distances.f N y = some (rowsA N (finalM N y), 0) := by unfold beacon_Distances.f; rw [if_pos hr, Int.toNat_natCast]
      have hT : Ev (fun k => beacon_Twins.f k N y) (outs N (edE y) N, 0) := by
        unfold beacon_Twins.f
        refine ev_pos hr ?_
        rw [Int.toNat_natCast]
        unfold beacon_Twins_tail.f
        refine ev_pos (by omega) (ev_pos (by omega) ?_)
        rw [Int.toNat_natCast]
        exact ptail_ev hM
      have hS : Ev (fun k => beacon_Slater.f k N y) (slatR N (edE y) ends) := by
        unfold beacon_Slater.f
        refine ev_pos hr ?_
        rw [Int.toNat_natCast]
        unfold beacon_Slater_tail.f
        refine ev_pos (by omega) (ev_pos (by omega) ?_)
        rw [Int.toNat_natCast]
        exact pslater_ev hM hends
      have s1 := samelists_self (X := rowsA N (finalM N y)) (by simp [rowsA]; omega) (fun r hr => by
        obtain ⟨v, _, rfl⟩ := List.mem_map.1 hr
        simp; omega)
      have s2 := samelists_self (X := outs N (edE y) N) (by have := outs_len (n := N) (E := edE y) N; omega) (fun r hr => by have := outs_rows (n := N) (E := edE y) N r hr; omega)
      have hcl := classes_ev hM hL hb hirr
      simp only [hD, Option.bind_some]
      refine Ev.bind hT (Ev.bind hS (ev_pos hr (Ev.bind hLev (Ev.bind hDs (Ev.bind s1 (ev_pos rfl (ev_pos (by first | rfl | trivial) (Ev.bind hcl (Ev.bind s2 (ev_pos rfl (ev_pos rfl (Ev.bind lives_ev ?_))))))))))))
      have htree := istree_ev hM hb hL
      refine Ev.step (f := fun k => (woggleref06_IsTree.f k L).bind fun t656 => (if t656 = true then ((woggleref07_IsPath.f k L).bind fun t657 => (if t657 = true then (if (slatR N (edE y) ends).1 = 0 then (some ((slatR N (edE y) ends).2 == 5)) else (some false)) else ((woggleref07_Slater.f k L).bind fun t658 => (if (slatR N (edE y) ends).1 = t658 then (some ((slatR N (edE y) ends).2 == 0)) else (some false))))) else (if (slatR N (edE y) ends).1 = 0 then (some ((slatR N (edE y) ends).2 == 5)) else (some false)))) (fun k => ?_) (Ev.bind htree ?_)
      · rw [wogglelaw07_BeaconDistances.j0, if_neg (by decide)]
      · by_cases c : sumD N (edE y) N = 2 * (N - 1)
        · have hp := ispath_ev hM hb hL c
          refine ev_pos (decide_eq_true c) (Ev.bind hp ?_)
          by_cases c2 : grt N (edE y) N < 3
          · refine ev_pos (decide_eq_true c2) ?_
            have hv : slatR N (edE y) ends = (0, 5) := by unfold slatR; rw [if_neg (fun h => h.2 c2)]
            exact ev_pos (by rw [hv]) (ev_eq (Ev.now _) (by rw [hv]; rfl))
          · refine ev_neg (by simpa using c2) (Ev.bind (rslater_ev hM hb hL hends) ?_)
            have hv : slatR N (edE y) ends = ((lvs N (edE y) N : Int) - (cntS N (edE y) ends : Int), 0) := by unfold slatR; rw [if_pos ⟨c, c2⟩]
            exact ev_pos (by rw [hv]) (ev_eq (Ev.now _) (by rw [hv]; rfl))
        · refine ev_neg (by simpa using c) ?_
          have hv : slatR N (edE y) ends = (0, 5) := by unfold slatR; rw [if_neg (fun h => c h.1)]
          exact ev_pos (by rw [hv]) (ev_eq (Ev.now _) (by rw [hv]; rfl))
    · have hD : beacon_Distances.f n y = some ([], 1) := by unfold beacon_Distances.f; rw [if_neg hr]
      have hT : Ev (fun k => beacon_Twins.f k n y) ([], 1) := by
        unfold beacon_Twins.f
        exact ev_neg hr (Ev.now _)
      have hS : Ev (fun k => beacon_Slater.f k n y) (0, 1) := by
        unfold beacon_Slater.f
        exact ev_neg hr (Ev.now _)
      simp only [hD, Option.bind_some]
      exact Ev.bind hT (Ev.bind hS (ev_neg hr (ev_pos (show wrap64 ((([] : List (List Int)).length : Int) + (([] : List (List Int)).length : Int)) = 0 by decide +kernel) (ev_pos (by first | rfl | trivial) (ev_pos (by first | rfl | trivial) (ev_pos (by first | rfl | trivial) (ev_pos (by first | rfl | trivial) (Ev.bind lives_ev (Ev.now _)))))))))
  obtain ⟨K, h⟩ := key
  exact ⟨K, h K (Nat.le_refl _)⟩
end Go.Proofs.YtbeimdngghedjaaDoor.Pure

/-! The statement BeaconDistances: for every input the law answers true and leaves its arguments; the package variable `none` of beacon starts as the program's text lays it. -/
namespace Go.Proofs.YtbeimdngghedjaaDoor.beaconDistances
open Go.ChangeShapes Go.WideShapes Go.ChangeAt Go.RowKit
open Go.ChangeMaps (open_string shut_string)
open Go.Proofs.YtbeimdngghedjaaDoor.P Go.Proofs.YtbeimdngghedjaaDoorW.PrintWords Go.Proofs.YtbeimdngghedjaaDoorW.PrintLast Go.Proofs.YtbeimdngghedjaaDoorW.PrintMore
set_option linter.unusedVariables false
theorem own : ownKnob Tryd.prog.godebug = none := by kernel_rfl
theorem laidOut : laidOutB Tryd.prog = true := by kernel_rfl
set_option maxRecDepth 100000 in
theorem lifted (os : Os) (started : os.Started) (H : Type) (enc : TypeId × Value → H) :
    ReturnsInHanded {} Tryd.checked os 13 .any (fun w args => (Rows.beaconDistancesSpec.pre enc Tryd.prog Tryd.f13 [] false w args ∧ laidMetH Tryd.prog laidList w) ∧ sizedMet enc Tryd.prog Tryd.f13 (OpenSpec.ofChange Rows.beaconDistancesSpec) false w args) (Rows.beaconDistancesSpec.post enc Tryd.prog Tryd.f13 false true false false) := by
  refine returnsInHanded_of_change_and (C := Tryd.checked) (X := fun w _ => laidMetH Tryd.prog laidList w) (fun _ _ _ hh h => h.of_heap hh) own started (by kernel_rfl) Tryd.func13
    (ChangeSpec.witness_shaped (enc := enc) (C := Tryd.checked) (os := os) (X := fun w _ => laidMetH Tryd.prog laidList w) false (World.doorLaid Tryd.prog 400 os) #[.agg #[.int .i64 0, .slice none 0 0]] 8 rfl (World.shaped_of_RefB (by kernel_rfl) (by kernel_rfl)) (by kernel_rfl) (by kernel_rfl) (by kernel_rfl) (door_met os _)) ?_
  intro W base args ds gs before hval0 hW hcnd hsz0 hL _
  have hval : ∀ (j : Nat) t v, Tryd.f13.params[j]? = some t → args[j]? = some v → Value.okWide Tryd.prog W .any base t v := hval0
  have hW' := hW
  obtain ⟨p, q, hA0, hV, rfl, hfz, hnd⟩ := hW
  have hA : DataW.TrodAll enc Tryd.prog W 0 (fun _ => true) true Tryd.f13.params.toList args.toList ds p := hA0
  rw [Tryd.params13] at hA hval
  obtain ⟨v0, vs0, d0, ds0, p0, q0, hargs, rfl, rfl, h0, r0⟩ := trodAll_cons hA
  obtain ⟨rfl, rfl, rfl⟩ := trodAll_nil r0
  obtain rfl : args = #[v0] := by cases args; simp_all
  obtain ⟨rfl, rfl⟩ := trodVars_none hV
  have k0 := h0
  have lt0 : ∀ x ∈ p0, x.block < W.heap.size := by obtain ⟨m, hm⟩ := k0; exact DataW.trod_lt m _ _ _ hm
  obtain ⟨cs0, rfl, hsz0⟩ := okWide_struct Tryd.underlying24 (hval 0 24 v0 rfl rfl)
  obtain ⟨x0, ⟨_, _, hcs0, rfl, ⟨A0_1, c0_1, rfl, hle0_1, hC0_1⟩⟩, hg0⟩ := Reads.of_trod (reads_struct Tryd.underlying24 (by kernel_rfl) (readsFs_cons rfl (reads_int Tryd.underlying3 (by kernel_rfl)) rfl (readsFs_one rfl (reads_slice 47 Tryd.underlying22 (by kernel_rfl) (reads_fields (fun x : S47 => (x.f0, x.f1)) (fun p => (⟨p.1, p.2⟩ : S47)) (fun _ => rfl) Tryd.underlying47 (by kernel_rfl) (readsFs_cons rfl (reads_int Tryd.underlying3 (by kernel_rfl)) rfl (readsFs_one rfl (reads_int Tryd.underlying3 (by kernel_rfl))))))))) h0
  obtain rfl : cs0 = #[.int .i64 x0.1, .slice A0_1 x0.2.length c0_1] := by have e_ : cs0.toList = [.int .i64 x0.1, .slice A0_1 x0.2.length c0_1] := hcs0; cases cs0; simp_all
  clear hA0 hval0 hsz0
  obtain ⟨k_, hk_⟩ := Pure.BeaconDistances x0.1 x0.2 hg0.1 hg0.2
  refine (wogglelaw07_BeaconDistances.calls k_ x0.1 _ _ x0.2 true W hC0_1 hle0_1 (door_of hL) hk_ rfl).mono fun e W' h_ => ?_
  obtain ⟨rfl, bel0⟩ := h_
  have bel : Below W.heap.size W W' := bel0
  exact ⟨_, rfl, _, _, _, [], _, [], hW', trodAll_mk1 (shut_bool Tryd.underlying4 _), (trodAll_cons_mk (Below.trod laidOut (by kernel_rfl) (of_decide_eq_true (by kernel_rfl)) k0 bel lt0) trodAll_mk0), rfl, bel.frame _, fun h => by cases h⟩
theorem over : Rows.beaconDistancesRow.holds Tryd.pinned (OpenSpec.ofChange Rows.beaconDistancesSpec) :=
  OpenClaim.holds_of_wide 13 Tryd.f13 rfl rfl rfl rfl rfl rfl rfl ⟨rfl, rfl, rfl, rfl, rfl⟩ rfl rfl rfl rfl rfl (by kernel_rfl) Tryd.func13 (by kernel_rfl)
    (of_decide_eq_true (by kernel_rfl)) (by unfold Func.isWrapper; first | (rw [if_pos (by decide +kernel)]; kernel_rfl) | (rw [if_neg (by decide +kernel)]; exact ⟨rfl, rfl⟩))
    (fun os started H enc _ => lifted os started H enc)
theorem proved : Rows.BeaconDistancesSaid := over
#print axioms proved
end Go.Proofs.YtbeimdngghedjaaDoor.beaconDistances
namespace Go.Proofs.YtbeimdngghedjaaDoor
/-- The row, under a short name, for the claim. -/
theorem beaconDistances_holds : Rows.BeaconDistancesSaid := beaconDistances.proved
/-- The tied card. -/
theorem beaconDistances_card : Rows.BeaconDistancesCardSaid :=
  Claim7.holds_tied_plain_at .later [] [.data] true (true, "fa9c7bc0788aee13516c6e46a6afebb7f5758b95f807df224d19495f40a5707d") false
    beaconDistances_holds (fun _ h => by cases h) (by kernel_rfl) (fun _ h => by cases h) beaconDistances_row_tie rfl ⟨rfl, rfl⟩ (by kernel_rfl) rfl
    (fun f fn hf hfn => by
      obtain rfl : f = 13 := Option.some.inj ((show Tryd.prog.funcNamed "woggle/wogglelaw07.BeaconDistances" = some 13 by kernel_rfl).symm.trans hf) |>.symm
      obtain rfl : fn = Tryd.f13 := (Option.some.inj (Tryd.func13.symm.trans hfn)).symm
      exact ⟨by kernel_rfl, fun j t ht => by
        rw [Tryd.params13] at ht
        have hm : t ∈ [24] := by simpa using Array.mem_of_getElem? ht
        have hall : ([24].all fun u => !Tryd.prog.wantsStandIn u) = true := by kernel_rfl
        exact (show Tryd.prog.wantsStandIn t = false by simpa using List.all_eq_true.1 hall t hm)⟩)
    (by kernel_rfl)
#print axioms beaconDistances_card
end Go.Proofs.YtbeimdngghedjaaDoor
