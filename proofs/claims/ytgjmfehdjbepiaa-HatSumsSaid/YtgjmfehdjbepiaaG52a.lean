/- The contracts of slices.Contains, IndexFunc and ContainsFunc at pairs, and of the function literal of hat.read. -/
import Derived.Test.YtgjmfehdjbepiaaPF71
import Derived.Shelf.Abstract
import Derived.Lib.Hide
namespace Go.Proofs.Ytgjmfehdjbepiaa.P
set_option linter.unusedVariables false
open Go.RowKit Go.Proofs.YtgjmfehdjbepiaaW.PrintWords Go.Proofs.YtgjmfehdjbepiaaW.PrintLast Go.Proofs.YtgjmfehdjbepiaaW.PrintMore
attribute [local go_sem] max2_int min2_int max_two min_two max_three min_three max_four min_four

theorem wrap_succ {i : Int} {n : Nat} (h0 : 0 ≤ i) (h : i < (n : Int)) (hn : n ≤ 9223372036854775807) : wrap64 (i + 1) = i + 1 := by
  unfold wrap64; omega
theorem rdT_nat (l : List S71) (k : Nat) (h : k < l.length) : rd_T71 l k = l[k] := by unfold rd_T71; simp [h]

/-- Is the pair among those? -/
def has (l : List S71) (a b : Int) : Bool := l.any fun e => a == e.f0 && (b == e.f1)
theorem idx82 (l : List S71) (a b : Int) (hl : l.length ≤ 9223372036854775807) (d : Nat) : ∀ (k : Nat) (i : Nat), i + d = l.length → d < k →
    ∃ r, api_Pair_82.l0 k l (l.length : Int) i a b = some r ∧ decide (r ≥ 0) = (l.drop i).any fun e => a == e.f0 && (b == e.f1) := by
  induction d with
  | zero =>
    intro k i hi hk
    obtain ⟨k, rfl⟩ : ∃ m, k = m + 1 := ⟨k - 1, by omega⟩
    refine ⟨-1, by simp only [api_Pair_82.l0]; rw [if_neg (by omega)], ?_⟩
    rw [List.drop_of_length_le (by omega)]; rfl
  | succ d ih =>
    intro k i hi hk
    obtain ⟨k, rfl⟩ : ∃ m, k = m + 1 := ⟨k - 1, by omega⟩
    have hlt : i < l.length := by omega
    have hd : l.drop i = l[i] :: l.drop (i + 1) := List.drop_eq_getElem_cons hlt
    simp only [api_Pair_82.l0]
    rw [if_pos (show (i : Int) < (l.length : Int) by omega), if_pos (by omega), if_pos (show (i : Int) < (l.length : Int) by omega), rdT_nat l i hlt]
    by_cases h : (a == l[i].f0 && (b == l[i].f1)) = true
    · rw [if_pos h]
      exact ⟨i, rfl, by rw [hd, List.any_cons, h]; simp⟩
    · rw [if_neg h, wrap_succ (n := l.length) (by omega) (by omega) hl]
      obtain ⟨r, h1, h2⟩ := ih k (i + 1) (by omega) (by omega)
      refine ⟨r, by simpa using h1, ?_⟩
      rw [h2, hd, List.any_cons]
      rw [Bool.not_eq_true] at h
      rw [h]; rfl
theorem has71 (l : List S71) (a b : Int) (hl : l.length ≤ 9223372036854775807) : ∃ k, api_Pair_71.f k l a b = some (has l a b) := by
  obtain ⟨r, h1, h2⟩ := idx82 l a b hl l.length (l.length + 1) 0 (by omega) (by omega)
  refine ⟨l.length + 1, ?_⟩
  unfold api_Pair_71.f api_Pair_82.f
  have h1' : api_Pair_82.l0 (l.length + 1) l (l.length : Int) 0 a b = some r := h1
  rw [h1']
  exact congrArg some h2
theorem contains.calls (A : Option Addr) (c : Nat) (l : List S71) (a b : Int) (w : World) (hr : Kd.C k71 w A l.length l) (hc : l.length ≤ c) :
    Calls Try.prog 71 #[.slice A l.length c, .agg #[.int .i64 a, .int .i64 b]] w fun e w' => e = .returned (.bool (has l a b)) ∧ Below w.heap.size w w' := by
  obtain ⟨k, h⟩ := has71 l a b hr.2.1
  exact api_Pair_71.calls k A c l a b _ w hr hc h

/-- Where the first pair with p is; -1: there is none. -/
def firstPair (p : S71 → Bool) (l : List S71) : Int := match l.findIdx? p with | some i => (i : Int) | none => -1
theorem firstPair_hit {p : S71 → Bool} {l : List S71} {k : Nat} (hk : k < l.length) (hp : p (rd_T71 l k) = true) (hn : ∀ j : Nat, j < k → p (rd_T71 l j) = false) : firstPair p l = k := by
  have h : l.findIdx? p = some k := by
    rw [List.findIdx?_eq_some_iff_getElem]
    refine ⟨hk, by rw [← rdT_nat l k hk]; exact hp, fun j hj => ?_⟩
    rw [← rdT_nat l j (by omega)]; simp [hn j hj]
  unfold firstPair; rw [h]
theorem firstPair_miss {p : S71 → Bool} {l : List S71} (hn : ∀ j : Nat, j < l.length → p (rd_T71 l j) = false) : firstPair p l = -1 := by
  have h : l.findIdx? p = none := by
    rw [List.findIdx?_eq_none_iff]
    intro x hx
    obtain ⟨j, hj, rfl⟩ := List.getElem_of_mem hx
    rw [← rdT_nat l j hj]; exact hn j hj
  unfold firstPair; rw [h]
theorem firstPair_any (p : S71 → Bool) (l : List S71) : decide (0 ≤ firstPair p l) = l.any p := by
  unfold firstPair
  cases h : l.findIdx? p with
  | none =>
    rw [List.findIdx?_eq_none_iff] at h
    symm; simp; exact h
  | some i =>
    obtain ⟨hi, hp, _⟩ := List.findIdx?_eq_some_iff_getElem.1 h
    symm; simp; exact ⟨_, List.getElem_mem hi, hp⟩

set_option maxRecDepth 100000 in
set_option maxHeartbeats 2000000 in
theorem idxPair.calls (p : S71 → Bool) (g : Nat) (lb : Array Value) (eg : ∀ args w, (callFunc g args).run Try.prog w = .ok (.enter g args) w) (A : Option Addr) (c : Nat) (l : List S71) (w : World)
    (hr : Kd.C k71 w A l.length l)
    (hp : ∀ W (x : S71), Below w.heap.size w W → Calls Try.prog g (#[.agg #[.int .i64 x.f0, .int .i64 x.f1]] ++ lb) W fun e w' => e = .returned (.bool (p x)) ∧ Below w.heap.size w w') :
    Calls Try.prog 83 #[.slice A l.length c, .func (.func g) #[] lb] w fun e w' => e = .returned (.int .i64 (firstPair p l)) ∧ Below w.heap.size w w' := by
  have hlen : l.length ≤ 9223372036854775807 := hr.2.1
  have hu71 := Try.underlying71
  have HR := Aside0.mk hr
  clear hr
  go_enter Try.func83, Try.ntmps83
  go_wp2
  go_loopg [5, 8] l.length (fun gg _ s8 wr => ∃ kk : Nat, kk ≤ l.length ∧ l.length - kk ≤ gg ∧ s8 = .int .i64 kk ∧ Aside0 (Below w.heap.size w wr) ∧ Aside0 (∀ j : Nat, j < kk → p (rd_T71 l j) = false))
  case atStart => exact ⟨0, Nat.zero_le _, by omega, rfl, ⟨Below.refl _ w⟩, ⟨fun j hj => absurd hj (Nat.not_lt_zero _)⟩⟩
  case round =>
    obtain ⟨kk, hkk, hg, rfl, BW, A0⟩ := hrel
    by_cases hlt : kk < l.length
    · have hltz : (kk : Int) < (l.length : Int) := by omega
      obtain ⟨ad, e1, hx, hx1⟩ := at_T71 HR.out kk (by omega) hltz
      have hcall := hp wr (rd_T71 l kk) BW.out
      replace hx := (BW.out.cell (World.block_lt_of_cell? w _ hx)).trans hx
      replace hx1 := (BW.out.cell (World.block_lt_of_cell? w _ hx1)).trans hx1
      rw [Int.toNat_natCast] at hx hx1
      cases e1
      clear hp
      generalize hy : rd_T71 l kk = y at hx hx1 hcall
      have B : Aside0 (rd_T71 l kk = y) := ⟨hy⟩
      clear hy
      cases hq : p y with
      | true =>
        rw [hq] at hcall
        go_wp2_with (go_at_fn g; refine hcall.mono ?_; rintro e w' ⟨rfl, hb'⟩)
        go_ret
        refine ⟨?_, hb'⟩
        rw [firstPair_hit hlt (by rw [B.out]; exact hq) A0.out]; rfl
      | false =>
        rw [hq] at hcall
        go_wp2_with (go_at_fn g; refine hcall.mono ?_; rintro e w' ⟨rfl, hb'⟩)
        go_roundg (l.length - (kk + 1))
        case measure => omega
        case rel =>
          refine ⟨kk + 1, by omega, by omega, by go_num, ⟨hb'⟩, ⟨fun j hj => ?_⟩⟩
          by_cases e : j = kk
          · subst e
            rw [B.out]; exact hq
          · exact A0.out j (by omega)
    · have hk := Aside0.mk (show kk = l.length by omega)
      have hltz : decide (kk < l.length) = false := decide_eq_false (by omega)
      clear hlt hg hkk hlen
      go_wp2
      go_ret
      refine ⟨?_, BW.out⟩
      rw [firstPair_miss (fun j hj => A0.out j (by have := hk.out; omega))]; rfl

theorem containsPair.calls (p : S71 → Bool) (g : Nat) (lb : Array Value) (eg : ∀ args w, (callFunc g args).run Try.prog w = .ok (.enter g args) w) (A : Option Addr) (c : Nat) (l : List S71) (w : World)
    (hr : Kd.C k71 w A l.length l)
    (hp : ∀ W (x : S71), Below w.heap.size w W → Calls Try.prog g (#[.agg #[.int .i64 x.f0, .int .i64 x.f1]] ++ lb) W fun e w' => e = .returned (.bool (p x)) ∧ Below w.heap.size w w') :
    Calls Try.prog 73 #[.slice A l.length c, .func (.func g) #[] lb] w fun e w' => e = .returned (.bool (l.any p)) ∧ Below w.heap.size w w' := by
  have hcall := idxPair.calls p g lb eg A c l w hr hp
  clear hp hr eg
  rw [← firstPair_any]
  go_enter Try.func73, Try.ntmps73
  go_wp2_with (go_at_call 83; refine hcall.mono ?_; rintro e w' ⟨rfl, hb'⟩)
  go_ret
  exact ⟨rfl, hb'⟩

/-- Is the pair no edge of n players? -/
def badEdge (n : Int) (e : S71) : Bool := decide ((if e.f0 < e.f1 then e.f0 else e.f1) < 0) || (decide (n ≤ if e.f0 < e.f1 then e.f1 else e.f0) || e.f0 == e.f1)
set_option maxHeartbeats 2000000 in
theorem bad_lit (n : Int) (B : Nat) (W : World) (x : S71) (hc : W.cell? ⟨B, 0, none⟩ = some (.int .i64 n)) :
    Calls Try.prog 72 #[.agg #[.int .i64 x.f0, .int .i64 x.f1], .pointer (some ⟨B, 0, none⟩)] W fun e w' => e = .returned (.bool (badEdge n x)) ∧ Below W.heap.size W w' := by
  have hu71 := Try.underlying71
  obtain ⟨a, b⟩ := x
  have hB : B < W.heap.size := World.block_lt_of_cell? W _ hc
  have hf : Aside0 (badEdge n ⟨a, b⟩ = (decide ((if a < b then a else b) < 0) || (decide (n ≤ if a < b then b else a) || a == b))) := ⟨rfl⟩
  generalize badEdge n ⟨a, b⟩ = r at *
  show Calls Try.prog 72 #[.agg #[.int .i64 a, .int .i64 b], .pointer (some ⟨B, 0, none⟩)] W _
  obtain ⟨mn, hmn⟩ : ∃ m : Int, (if a < b then a else b) = m := ⟨_, rfl⟩
  obtain ⟨mx, hmx⟩ : ∃ m : Int, (if a < b then b else a) = m := ⟨_, rfl⟩
  have hmx2 : (if b < a then a else b) = mx := by rw [← hmx]; split <;> split <;> omega
  have hmn2 : (if b < a then b else a) = mn := by rw [← hmn]; split <;> split <;> omega
  rw [hmn, hmx] at hf
  by_cases h1 : mn < 0
  · have h1b : decide (mn < 0) = true := decide_eq_true h1
    have hf2 : Aside0 (r = true) := ⟨by rw [hf.out, h1b]; rfl⟩
    clear h1 hf
    go_enter Try.func72, Try.ntmps72
    go_wp2
    go_ret
    exact ⟨by rw [hf2.out]; rfl, below_alloc (Below.refl _ _) _⟩
  · have h1b : decide (mn < 0) = false := decide_eq_false h1
    by_cases h2 : n ≤ mx
    · have h2b : decide (n ≤ mx) = true := decide_eq_true h2
      have hf2 : Aside0 (r = true) := ⟨by rw [hf.out, h1b, h2b]; rfl⟩
      clear h1 h2 hf
      go_enter Try.func72, Try.ntmps72
      go_wp2
      go_ret
      exact ⟨by rw [hf2.out]; rfl, below_alloc (Below.refl _ _) _⟩
    · have h2b : decide (n ≤ mx) = false := decide_eq_false h2
      have hf2 : Aside0 (r = (a == b)) := ⟨by rw [hf.out, h1b, h2b]; rfl⟩
      clear h1 h2 hf
      go_enter Try.func72, Try.ntmps72
      go_wp2
      go_ret
      exact ⟨by rw [hf2.out]; rfl, below_alloc (Below.refl _ _) _⟩

end Go.Proofs.Ytgjmfehdjbepiaa.P
