/- The contracts of beacon.read and beacon.with. -/
import Derived.Test.YtbeimdngghedjaaDoorBS
namespace Go.Proofs.YtbeimdngghedjaaDoor.P
set_option linter.unusedVariables false
set_option linter.unusedSimpArgs false
open Go Go.RowKit Go.Proofs.YtbeimdngghedjaaDoorW.PrintWords Go.Proofs.YtbeimdngghedjaaDoorW.PrintLast Go.Proofs.YtbeimdngghedjaaDoorW.PrintMore

/-- The graph as it is read. -/
def rowsE (n : Nat) (E : Nat → Nat → Bool) : List (List Bool) := (List.range n).map fun i => (List.range n).map (E i)
def rowsA (n : Nat) (M : Mt) : List (List Int) := (List.range n).map fun i => (List.range n).map (M i)
def graphOf (n : Nat) (l : List S47) : S82 := ⟨n, rowsE n (edE l), rowsA n (finalM n l)⟩
theorem GM.rowsC {w W : World} {n me : Nat} {vE vA : Value} {bE bA : Nat → Nat} {E : Nat → Nat → Bool} {M : Mt} (h : GM w W n me n vE vA bE bA E M) (hn : n ≤ 10) (h1 : 1 ≤ n) :
    ∃ A c, vA = .slice A n c ∧ n ≤ c ∧ Kd.C (Kd.slice 3 (Kd.int .i64)) W A n (rowsA n M) := by
  obtain ⟨g, c, rfl, _, hc, hh⟩ := h.hA (by omega)
  refine ⟨some ⟨g, 0, none⟩, c, rfl, hc, by simp [rowsA], by omega, fun _ => ⟨⟨g, 0, none⟩, rfl, fun j p hj => ?_⟩⟩
  have hjn : j < n := by
    have := (List.getElem?_eq_some_iff.1 hj).1
    simpa [rowsA] using this
  obtain rfl : (List.range n).map (M j) = p := by simpa [rowsA, hjn] using hj
  refine ⟨[.slice (some ⟨bA j, 0, none⟩) n n], rfl, ⟨some ⟨bA j, 0, none⟩, n, by simp, by simp, by simpa using row_C hn (h.rA j hjn).2⟩, fun i u hi => ?_⟩
  have hi0 : i = 0 := by
    have := (List.getElem?_eq_some_iff.1 hi).1
    simpa using this
  subst hi0
  obtain rfl : Value.slice (some ⟨bA j, 0, none⟩) n n = u := by simpa using hi
  rw [show j * (Kd.slice 3 (Kd.int .i64)).sz + 0 = j from by show j * 1 + 0 = j; omega, add_i]
  exact hh j hjn
theorem GM.rowsCE {w W : World} {n ma : Nat} {vE vA : Value} {bE bA : Nat → Nat} {E : Nat → Nat → Bool} {M : Mt} (h : GM w W n n ma vE vA bE bA E M) (hn : n ≤ 10) (h1 : 1 ≤ n) :
    ∃ A c, vE = .slice A n c ∧ n ≤ c ∧ Kd.C (Kd.slice 4 Kd.bool) W A n (rowsE n E) := by
  obtain ⟨g, c, rfl, _, hc, hh⟩ := h.hE (by omega)
  refine ⟨some ⟨g, 0, none⟩, c, rfl, hc, by simp [rowsE], by omega, fun _ => ⟨⟨g, 0, none⟩, rfl, fun j p hj => ?_⟩⟩
  have hjn : j < n := by
    have := (List.getElem?_eq_some_iff.1 hj).1
    simpa [rowsE] using this
  obtain rfl : (List.range n).map (E j) = p := by simpa [rowsE, hjn] using hj
  refine ⟨[.slice (some ⟨bE j, 0, none⟩) n n], rfl, ⟨some ⟨bE j, 0, none⟩, n, by simp, by simp, by simpa using brow_C hn (h.rE j hjn).2⟩, fun i u hi => ?_⟩
  have hi0 : i = 0 := by
    have := (List.getElem?_eq_some_iff.1 hi).1
    simpa using this
  subst hi0
  obtain rfl : Value.slice (some ⟨bE j, 0, none⟩) n n = u := by simpa using hi
  rw [show j * (Kd.slice 4 Kd.bool).sz + 0 = j from by show j * 1 + 0 = j; omega, add_i]
  exact hh j hjn
/-- A pointer to the graph. -/
theorem GM.graphC {w W : World} {n : Nat} {vE vA : Value} {bE bA : Nat → Nat} {E : Nat → Nat → Bool} {M : Mt} (h : GM w W n n n vE vA bE bA E M) (hn : n ≤ 10) (h1 : 1 ≤ n) :
    Kd.C k82 W (some ⟨w.heap.size, 0, none⟩) 1 [(⟨n, rowsE n E, rowsA n M⟩ : S82)] := by
  obtain ⟨A1, c1, rfl, l1, g1⟩ := h.rowsCE hn h1
  obtain ⟨A2, c2, rfl, l2, g2⟩ := h.rowsC hn h1
  refine ⟨rfl, by omega, fun _ => ⟨⟨w.heap.size, 0, none⟩, rfl, fun j p hj => ?_⟩⟩
  have hj0 : j = 0 := by
    have := (List.getElem?_eq_some_iff.1 hj).1
    simpa using this
  subst hj0
  obtain rfl : (⟨n, rowsE n E, rowsA n M⟩ : S82) = p := by simpa using hj
  have e1 : (rowsE n E).length = n := by simp [rowsE]
  have e2 : (rowsA n M).length = n := by simp [rowsA]
  refine ⟨_, rfl, k82_mk W _ (A1 := A1) (c1 := c1) (by show (rowsE n E).length ≤ c1; omega) (by show Kd.C _ W A1 (rowsE n E).length _; rw [e1]; exact g1) (A2 := A2) (c2 := c2) (by show (rowsA n M).length ≤ c2; omega) (by show Kd.C _ W A2 (rowsA n M).length _; rw [e2]; exact g2), fun i u hi => ?_⟩
  rw [show 0 * k82.sz + i = i from by omega, add_i, blk_cell h.gm]
  have hi' : [Value.int .i64 (n : Int), .slice A1 (rowsE n E).length c1, .slice A2 (rowsA n M).length c2][i]? = some u := hi
  rw [e1, e2] at hi'
  simpa using hi'
/-- Is a graph valid, as read tells it? -/
def readOk (n : Int) (l : List S47) : Bool := decide (1 ≤ n) && decide (n ≤ 10) && decide (l.length ≤ 60) && l.all (edOk n.toNat) && decide (rowMax n.toNat l < n)
set_option maxRecDepth 100000 in
set_option maxHeartbeats 4000000 in
theorem read_bad (n : Int) (A : Option Addr) (c : Nat) (l : List S47) (w : World) (hb : n < 1 ∨ 10 < n ∨ 60 < l.length) :
    Calls Tryd.prog 46 #[.int .i64 n, .slice A l.length c] w fun e w' => e = .returned (.tuple #[.pointer none, .bool false]) ∧ w = w' := by
  by_cases h1 : n < 1
  · have h1b : decide (n < 1) = true := decide_eq_true h1
    clear h1 hb
    go_enter Tryd.func46, Tryd.ntmps46
    go_wp2
    go_ret2
    exact ⟨rfl, rfl⟩
  · have h1b : decide (n < 1) = false := decide_eq_false h1
    by_cases h2 : 10 < n
    · have h2b : decide (10 < n) = true := decide_eq_true h2
      clear h1 h2 hb
      go_enter Tryd.func46, Tryd.ntmps46
      go_wp2
      go_ret2
      exact ⟨rfl, rfl⟩
    · have h2b : decide (10 < n) = false := decide_eq_false h2
      have h5 : 60 < l.length := by omega
      have h5b : decide (60 < l.length) = true := decide_eq_true h5
      have h5c : decide (60 < (l.length : Int)) = true := decide_eq_true (by omega)
      clear h1 h2 h5 hb
      go_enter Tryd.func46, Tryd.ntmps46
      go_wp2
      go_ret2
      exact ⟨rfl, rfl⟩
/-- What read leaves, with what it owns. -/
theorem read_own (n : Int) (A : Option Addr) (c : Nat) (l : List S47) (w : World) (hr : Kd.C k47 w A l.length l) (hc : l.length ≤ c) :
    Calls Tryd.prog 46 #[.int .i64 n, .slice A l.length c] w fun e w' =>
      (readOk n l = true → 1 ≤ n ∧ n ≤ 10 ∧ e = .returned (.tuple #[.pointer (some ⟨w.heap.size, 0, none⟩), .bool true]) ∧ ∃ vE vA bE bA, GM w w' n.toNat n.toNat n.toNat vE vA bE bA (edE l) (finalM n.toNat l)) ∧
      (readOk n l = false → ∃ B, e = .returned (.tuple #[.pointer B, .bool false])) ∧ Below w.heap.size w w' := by
  by_cases hg : 1 ≤ n ∧ n ≤ 10 ∧ l.length ≤ 60
  · obtain ⟨g1, g2, g3⟩ := hg
    obtain ⟨N, rfl⟩ := Int.eq_ofNat_of_zero_le (show 0 ≤ n by omega)
    refine (read_good N (by omega) (by omega) A c l w hr hc g3).mono ?_
    rintro e w' ⟨h1, h2⟩
    have e0 : decide ((1 : Int) ≤ (N : Int)) = true := decide_eq_true g1
    have e1 : decide ((N : Int) ≤ 10) = true := decide_eq_true g2
    have e2 : decide (l.length ≤ 60) = true := decide_eq_true g3
    have e3 : (N : Int).toNat = N := Int.toNat_natCast N
    unfold readOk
    rw [e0, e1, e2, e3]
    cases ha : l.all (edOk N) with
    | true =>
      obtain ⟨vE, vA, bE, bA, rfl, hG⟩ := h1 ha
      refine ⟨fun h => ⟨g1, g2, ?_, vE, vA, bE, bA, hG⟩, fun h => ⟨some ⟨w.heap.size, 0, none⟩, ?_⟩, hG.hb⟩
      · simp only [Bool.and_true, Bool.true_and] at h
        rw [h]
      · simp only [Bool.and_true, Bool.true_and] at h
        rw [h]
    | false =>
      obtain ⟨rfl, hb⟩ := h2 ha
      exact ⟨(fun h => by simp at h), fun _ => ⟨none, rfl⟩, hb⟩
  · refine (read_bad n A c l w (by omega)).mono ?_
    rintro e w' ⟨rfl, rfl⟩
    have hno : readOk n l = false := by
      cases h : readOk n l with
      | false => rfl
      | true =>
        unfold readOk at h
        simp only [Bool.and_eq_true, decide_eq_true_eq] at h
        exact absurd ⟨h.1.1.1.1, h.1.1.1.2, h.1.1.2⟩ hg
    exact ⟨(fun h => by rw [hno] at h; cases h), fun _ => ⟨none, rfl⟩, Below.refl _ _⟩
theorem read_calls (n : Int) (A : Option Addr) (c : Nat) (l : List S47) (w : World) (hr : Kd.C k47 w A l.length l) (hc : l.length ≤ c) :
    Calls Tryd.prog 46 #[.int .i64 n, .slice A l.length c] w fun e w' =>
      ∃ B, e = .returned (.tuple #[.pointer B, .bool (readOk n l)]) ∧ Below w.heap.size w w' ∧ (readOk n l = true → 1 ≤ n ∧ n ≤ 10 ∧ Kd.C k82 w' B 1 [graphOf n.toNat l]) := by
  refine (read_own n A c l w hr hc).mono ?_
  rintro e w' ⟨h1, h2, hb⟩
  cases ho : readOk n l with
  | true =>
    obtain ⟨g1, g2, rfl, vE, vA, bE, bA, hG⟩ := h1 ho
    refine ⟨_, rfl, hb, fun _ => ⟨g1, g2, ?_⟩⟩
    exact hG.graphC (by omega) (by omega)
  | false =>
    obtain ⟨B, rfl⟩ := h2 ho
    exact ⟨B, rfl, hb, fun h => by cases h⟩
end Go.Proofs.YtbeimdngghedjaaDoor.P
