/- The graph while beacon.read makes it, in memory. -/
import Derived.Test.YtbeimdngghedjaaDoorPK
import Derived.Test.YtbeimdngghedjaaDoorBC
import Derived.Test.YtbeimdngghedjaaDoorBD
namespace Go.Proofs.YtbeimdngghedjaaDoor.P
set_option linter.unusedVariables false
open Go Go.RowKit Go.Proofs.YtbeimdngghedjaaDoorW.PrintWords Go.Proofs.YtbeimdngghedjaaDoorW.PrintLast Go.Proofs.YtbeimdngghedjaaDoorW.PrintMore

/-- The cells of a row of numbers, of bools, and of rows of n cells each. -/
def intRow (n : Nat) (f : Nat → Int) : List Value := (List.range n).map fun j => .int .i64 (f j)
def boolRow (n : Nat) (f : Nat → Bool) : List Value := (List.range n).map fun j => .bool (f j)
def hdrs (n m : Nat) (b : Nat → Nat) : List Value := (List.range m).map fun i => .slice (some ⟨b i, 0, none⟩) n n
theorem intRow_at (n : Nat) (f : Nat → Int) (j : Nat) (h : j < n) : (intRow n f).toArray[j]? = some (.int .i64 (f j)) := by simp [intRow, h]
theorem boolRow_at (n : Nat) (f : Nat → Bool) (j : Nat) (h : j < n) : (boolRow n f).toArray[j]? = some (.bool (f j)) := by simp [boolRow, h]
theorem hdrs_at (n m : Nat) (b : Nat → Nat) (i : Nat) (h : i < m) : (hdrs n m b)[i]? = some (.slice (some ⟨b i, 0, none⟩) n n) := by simp [hdrs, h]
theorem hdrs_succ (n m : Nat) (b : Nat → Nat) (g : Nat) : hdrs n (m + 1) (fun i => if i = m then g else b i) = hdrs n m b ++ [.slice (some ⟨g, 0, none⟩) n n] := by
  unfold hdrs
  rw [List.range_succ, List.map_append]
  congr 1
  · refine List.map_congr_left fun i hi => ?_
    have hlt : i < m := by simpa using hi
    have hne : i ≠ m := by omega
    simp only [hne, if_false]
  · simp
theorem intRow_set (n : Nat) (f : Nat → Int) (j : Nat) (v : Int) : (intRow n f).toArray.setIfInBounds j (.int .i64 v) = (intRow n (fun b => if b = j then v else f b)).toArray := by
  rw [List.setIfInBounds_toArray]
  congr 1
  refine List.ext_getElem (by simp [intRow]) fun i h1 h2 => ?_
  rw [List.getElem_set]
  simp only [intRow, List.getElem_map, List.getElem_range]
  by_cases h : j = i
  · rw [if_pos h, if_pos h.symm]
  · rw [if_neg h, if_neg (fun e => h e.symm)]
theorem boolRow_set (n : Nat) (f : Nat → Bool) (j : Nat) (v : Bool) : (boolRow n f).toArray.setIfInBounds j (.bool v) = (boolRow n (fun b => if b = j then v else f b)).toArray := by
  rw [List.setIfInBounds_toArray]
  congr 1
  refine List.ext_getElem (by simp [boolRow]) fun i h1 h2 => ?_
  rw [List.getElem_set]
  simp only [boolRow, List.getElem_map, List.getElem_range]
  by_cases h : j = i
  · rw [if_pos h, if_pos h.symm]
  · rw [if_neg h, if_neg (fun e => h e.symm)]
/-- What an own row of one cell each leads to. -/
theorem own_cells {W : World} {base e n : Nat} {v : Value} {xs : List Value} (h : W.ownsRow base e 1 v n xs) (hn : 0 < n) :
    ∃ g cap, v = .slice (some ⟨g, 0, none⟩) n cap ∧ base ≤ g ∧ n ≤ cap ∧ ∀ i u, xs[i]? = some u → W.cell? ⟨g, i, none⟩ = some u := by
  obtain ⟨hl, h⟩ := h
  rcases h with ⟨_, h0⟩ | ⟨g, cap, cur, rfl, hg, hh, hc, _, hs, ht⟩
  · omega
  · refine ⟨g, cap, rfl, hg, hc, fun i u hu => ?_⟩
    rw [blk_cell hh]
    rw [← ht, List.getElem?_take] at hu
    split at hu
    · simpa using hu
    · cases hu

/-- A literal of one number reads as a row. -/
theorem one_row {W : World} {g t : Nat} {v : Int} (h : W.heap[g]? = some (.cells #[.int .i64 v] t (0, 0))) : Kd.C (Kd.int .i64) W (some ⟨g, 0, none⟩) 1 [v] := by
  refine ⟨rfl, by omega, fun _ => ⟨⟨g, 0, none⟩, rfl, fun j p hj => ?_⟩⟩
  have hj0 : j = 0 := by
    have := (List.getElem?_eq_some_iff.1 hj).1
    simpa using this
  subst hj0
  obtain rfl : v = p := by simpa using hj
  refine ⟨[.int .i64 v], rfl, rfl, fun i u hi => ?_⟩
  have hi0 : i = 0 := by
    have := (List.getElem?_eq_some_iff.1 hi).1
    simpa using this
  subst hi0
  obtain rfl : Value.int .i64 v = u := by simpa using hi
  have : (⟨g, 0, none⟩ : Addr).add (0 * (Kd.int .i64).sz + 0) = ⟨g, 0, none⟩ := by simp [Addr.add]
  rw [this, blk_cell h]; rfl
theorem add_i (g i : Nat) : (⟨g, 0, none⟩ : Addr).add i = ⟨g, i, none⟩ := by cases i <;> simp [Addr.add]
/-- A row of the call's own reads as its list. -/
theorem row_C {W : World} {g n : Nat} {f : Nat → Int} (hn : n ≤ 10) (h : W.heap[g]? = some (.cells (intRow n f).toArray 3 (0, 0))) : Kd.C (Kd.int .i64) W (some ⟨g, 0, none⟩) n ((List.range n).map f) := by
  refine ⟨by simp, by omega, fun _ => ⟨⟨g, 0, none⟩, rfl, fun j p hj => ?_⟩⟩
  have hjn : j < n := by
    have := (List.getElem?_eq_some_iff.1 hj).1
    simpa using this
  obtain rfl : f j = p := by simpa [hjn] using hj
  refine ⟨[.int .i64 (f j)], rfl, rfl, fun i u hi => ?_⟩
  have hi0 : i = 0 := by
    have := (List.getElem?_eq_some_iff.1 hi).1
    simpa using this
  subst hi0
  obtain rfl : Value.int .i64 (f j) = u := by simpa using hi
  rw [show j * (Kd.int .i64).sz + 0 = j from by show j * 1 + 0 = j; omega, add_i, blk_cell h]
  exact intRow_at n f j hjn
theorem brow_C {W : World} {g n : Nat} {f : Nat → Bool} (hn : n ≤ 10) (h : W.heap[g]? = some (.cells (boolRow n f).toArray 4 (0, 0))) : Kd.C Kd.bool W (some ⟨g, 0, none⟩) n ((List.range n).map f) := by
  refine ⟨by simp, by omega, fun _ => ⟨⟨g, 0, none⟩, rfl, fun j p hj => ?_⟩⟩
  have hjn : j < n := by
    have := (List.getElem?_eq_some_iff.1 hj).1
    simpa using this
  obtain rfl : f j = p := by simpa [hjn] using hj
  refine ⟨[.bool (f j)], rfl, rfl, fun i u hi => ?_⟩
  have hi0 : i = 0 := by
    have := (List.getElem?_eq_some_iff.1 hi).1
    simpa using this
  subst hi0
  obtain rfl : Value.bool (f j) = u := by simpa using hi
  rw [show j * Kd.bool.sz + 0 = j from by show j * 1 + 0 = j; omega, add_i, blk_cell h]
  exact boolRow_at n f j hjn
/-- The graph in memory: me rows of edges, ma rows of distances. -/
structure GM (w W : World) (n me ma : Nat) (vE vA : Value) (bE bA : Nat → Nat) (E : Nat → Nat → Bool) (M : Mt) : Prop where
  hb : Below w.heap.size w W
  gm : W.heap[w.heap.size]? = some (.cells #[.int .i64 n, vE, vA] 82 (0, 0))
  oE : W.ownsRow (w.heap.size + 1) 78 1 vE me (hdrs n me bE)
  oA : W.ownsRow (w.heap.size + 1) 28 1 vA ma (hdrs n ma bA)
  rE : ∀ i, i < me → w.heap.size < bE i ∧ W.heap[bE i]? = some (.cells (boolRow n (E i)).toArray 4 (0, 0))
  rA : ∀ i, i < ma → w.heap.size < bA i ∧ W.heap[bA i]? = some (.cells (intRow n (M i)).toArray 3 (0, 0))
  iE : ∀ i j, i < me → j < me → bE i = bE j → i = j
  iA : ∀ i j, i < ma → j < ma → bA i = bA j → i = j
namespace GM
variable {w W W1 W2 W3 : World} {n me ma : Nat} {vE vA v : Value} {bE bA : Nat → Nat} {E : Nat → Nat → Bool} {M : Mt}
theorem own_below {base e m : Nat} {xs : List Value} (h : W.ownsRow base e 1 v m xs) (hb : Below W.heap.size W W1) : W1.ownsRow base e 1 v m xs :=
  own_move h (fun k hk => by
    obtain ⟨c, hc⟩ := own_typed h k hk
    exact hb.block k (blk_lt hc))
theorem below (h : GM w W n me ma vE vA bE bA E M) (hb : Below W.heap.size W W1) : GM w W1 n me ma vE vA bE bA E M :=
  ⟨h.hb.trans (hb.mono h.hb.size), blk_below h.gm hb, own_below h.oE hb, own_below h.oA hb, fun i hi => ⟨(h.rE i hi).1, blk_below (h.rE i hi).2 hb⟩, fun i hi => ⟨(h.rA i hi).1, blk_below (h.rA i hi).2 hb⟩, h.iE, h.iA⟩
theorem gsize (h : GM w W n me ma vE vA bE bA E M) : w.heap.size < W.heap.size := blk_lt h.gm
theorem drew (h : GM w W n me ma vE vA bE bA E M) : GM w W.drew n me ma vE vA bE bA E M := h.below (below_drew1 (Below.refl _ _))
theorem drewN (h : GM w W n me ma vE vA bE bA E M) (q : Nat) : GM w (W.drewN q) n me ma vE vA bE bA E M := h.below (pw_below_drewN (Below.refl _ _) q)
theorem alloc (h : GM w W n me ma vE vA bE bA E M) (o : Obj) : GM w (W.alloc o) n me ma vE vA bE bA E M := h.below (below_alloc (Below.refl _ _) o)
theorem c0 (h : GM w W n me ma vE vA bE bA E M) : W.cell? ⟨w.heap.size, 0, none⟩ = some (.int .i64 n) := by rw [blk_cell h.gm]; rfl
theorem c1 (h : GM w W n me ma vE vA bE bA E M) : W.cell? ⟨w.heap.size, 1, none⟩ = some vE := by rw [blk_cell h.gm]; rfl
theorem c2 (h : GM w W n me ma vE vA bE bA E M) : W.cell? ⟨w.heap.size, 2, none⟩ = some vA := by rw [blk_cell h.gm]; rfl
theorem fz (h : GM w W n me ma vE vA bE bA E M) (i : Nat) : W.frozen? ⟨w.heap.size, i, none⟩ = false := blk_frozen h.gm i
theorem apart {k : Nat} {e e' m : Nat} {base : Nat} {xs : List Value} {cs : Array Value} (h : W.ownsRow base e 1 v m xs) (hk : W.heap[k]? = some (.cells cs e' (0, 0))) (hne : e' ≠ e) : some k ≠ v.ownBlock := by
  intro hv
  obtain ⟨c, hc⟩ := own_typed h k hv.symm
  rw [hk] at hc
  injection hc with hc
  injection hc with _ he
  exact hne he
theorem own_set {base e m : Nat} {xs : List Value} (h : W.ownsRow base e 1 v m xs) {p : Addr} (hp : v.ownBlock ≠ some p.block) (u : Value) : (W.setCell p u).ownsRow base e 1 v m xs :=
  own_move h (fun k hk => by
    obtain ⟨c, hc⟩ := own_typed h k hk
    rw [blk_far hc (p := p) (fun e => hp (by rw [hk, e])), hc])
/-- A row of edges more. -/
theorem addE (h : GM w W n me ma vE vA bE bA E M) (hb : Below W.heap.size W W2) {g0 : Nat} (hg0 : W.heap.size ≤ g0) (hrow : W2.heap[g0]? = some (.cells (boolRow n (E me)).toArray 4 (0, 0)))
    (ho : W3.ownsRow (w.heap.size + 1) 78 1 v (me + 1) (hdrs n me bE ++ [.slice (some ⟨g0, 0, none⟩) n n])) (hg : W2.grownBy W3 vE.ownBlock) :
    GM w (W3.setCell ⟨w.heap.size, 1, none⟩ v) n (me + 1) ma v vA (fun i => if i = me then g0 else bE i) bA E M := by
  have h2 := h.below hb
  have hsz := h.gsize
  have kG := h2.gm
  have kE := fun i hi => (h2.rE i hi).2
  have kA := fun i hi => (h2.rA i hi).2
  have g3G := blk_grown kG hg (apart h2.oE kG (by decide))
  have g3E := fun i hi => blk_grown (kE i hi) hg (apart h2.oE (kE i hi) (by decide))
  have g3A := fun i hi => blk_grown (kA i hi) hg (apart h2.oE (kA i hi) (by decide))
  have g30 := blk_grown hrow hg (apart h2.oE hrow (by decide))
  have o3A : W3.ownsRow (w.heap.size + 1) 28 1 vA ma (hdrs n ma bA) := own_move h2.oA (fun k hk => by
    obtain ⟨c, hc⟩ := own_typed h2.oA k hk
    exact hg.block k (blk_lt hc) (apart h2.oE hc (by decide)))
  have nG : ∀ (u : Value) {m e : Nat} {xs : List Value}, W3.ownsRow (w.heap.size + 1) e 1 u m xs → 82 ≠ e → u.ownBlock ≠ some w.heap.size := fun u m e xs hu he e' => apart hu g3G he e'.symm
  refine ⟨below_set ((h2.hb).grown hg h2.hb.size (fun k hk => ?_)) (Nat.le_refl _), ?_, ?_, ?_, fun i hi => ?_, fun i hi => ?_, fun i j hi hj e => ?_, h.iA⟩
  · rcases h2.oE.2 with ⟨rfl, _⟩ | ⟨g, cap, cur, rfl, hgb, _⟩
    · simp [Value.ownBlock] at hk
    · have : g = k := by simpa [Value.ownBlock] using hk
      omega
  · have := blk_set g3G 1 v
    simpa using this
  · rw [hdrs_succ]
    exact own_set ho (nG v ho (by decide)) v
  · exact own_set o3A (nG vA o3A (by decide)) v
  · by_cases hi' : i = me
    · subst hi'
      refine ⟨by rw [if_pos rfl]; omega, ?_⟩
      rw [if_pos rfl]
      exact blk_far g30 (by show g0 ≠ w.heap.size; omega) v
    · rw [if_neg hi']
      have hlt : i < me := by omega
      exact ⟨(h.rE i hlt).1, blk_far (g3E i hlt) (by have := (h.rE i hlt).1; show bE i ≠ w.heap.size; omega) v⟩
  · exact ⟨(h.rA i hi).1, blk_far (g3A i hi) (by have := (h.rA i hi).1; show bA i ≠ w.heap.size; omega) v⟩
  · have lo : ∀ i, i < me → bE i < W.heap.size := fun i hi => blk_lt (h.rE i hi).2
    by_cases hi' : i = me <;> by_cases hj' : j = me
    · omega
    · rw [if_pos hi', if_neg hj'] at e
      have := lo j (by omega); omega
    · rw [if_neg hi', if_pos hj'] at e
      have := lo i (by omega); omega
    · rw [if_neg hi', if_neg hj'] at e
      exact h.iE i j (by omega) (by omega) e
/-- A row of distances more. -/
theorem addA (h : GM w W n me ma vE vA bE bA E M) (hb : Below W.heap.size W W2) {g0 : Nat} (hg0 : W.heap.size ≤ g0) (hrow : W2.heap[g0]? = some (.cells (intRow n (M ma)).toArray 3 (0, 0)))
    (ho : W3.ownsRow (w.heap.size + 1) 28 1 v (ma + 1) (hdrs n ma bA ++ [.slice (some ⟨g0, 0, none⟩) n n])) (hg : W2.grownBy W3 vA.ownBlock) :
    GM w (W3.setCell ⟨w.heap.size, 2, none⟩ v) n me (ma + 1) vE v bE (fun i => if i = ma then g0 else bA i) E M := by
  have h2 := h.below hb
  have hsz := h.gsize
  have kG := h2.gm
  have kE := fun i hi => (h2.rE i hi).2
  have kA := fun i hi => (h2.rA i hi).2
  have g3G := blk_grown kG hg (apart h2.oA kG (by decide))
  have g3E := fun i hi => blk_grown (kE i hi) hg (apart h2.oA (kE i hi) (by decide))
  have g3A := fun i hi => blk_grown (kA i hi) hg (apart h2.oA (kA i hi) (by decide))
  have g30 := blk_grown hrow hg (apart h2.oA hrow (by decide))
  have o3E : W3.ownsRow (w.heap.size + 1) 78 1 vE me (hdrs n me bE) := own_move h2.oE (fun k hk => by
    obtain ⟨c, hc⟩ := own_typed h2.oE k hk
    exact hg.block k (blk_lt hc) (apart h2.oA hc (by decide)))
  have nG : ∀ (u : Value) {m e : Nat} {xs : List Value}, W3.ownsRow (w.heap.size + 1) e 1 u m xs → 82 ≠ e → u.ownBlock ≠ some w.heap.size := fun u m e xs hu he e' => apart hu g3G he e'.symm
  refine ⟨below_set ((h2.hb).grown hg h2.hb.size (fun k hk => ?_)) (Nat.le_refl _), ?_, ?_, ?_, fun i hi => ?_, fun i hi => ?_, h.iE, fun i j hi hj e => ?_⟩
  · rcases h2.oA.2 with ⟨rfl, _⟩ | ⟨g, cap, cur, rfl, hgb, _⟩
    · simp [Value.ownBlock] at hk
    · have : g = k := by simpa [Value.ownBlock] using hk
      omega
  · have := blk_set g3G 2 v
    simpa using this
  · exact own_set o3E (nG vE o3E (by decide)) v
  · rw [hdrs_succ]
    exact own_set ho (nG v ho (by decide)) v
  · exact ⟨(h.rE i hi).1, blk_far (g3E i hi) (by have := (h.rE i hi).1; show bE i ≠ w.heap.size; omega) v⟩
  · by_cases hi' : i = ma
    · subst hi'
      refine ⟨by rw [if_pos rfl]; omega, ?_⟩
      rw [if_pos rfl]
      exact blk_far g30 (by show g0 ≠ w.heap.size; omega) v
    · rw [if_neg hi']
      have hlt : i < ma := by omega
      exact ⟨(h.rA i hlt).1, blk_far (g3A i hlt) (by have := (h.rA i hlt).1; show bA i ≠ w.heap.size; omega) v⟩
  · have lo : ∀ i, i < ma → bA i < W.heap.size := fun i hi => blk_lt (h.rA i hi).2
    by_cases hi' : i = ma <;> by_cases hj' : j = ma
    · omega
    · rw [if_pos hi', if_neg hj'] at e
      have := lo j (by omega); omega
    · rw [if_neg hi', if_pos hj'] at e
      have := lo i (by omega); omega
    · rw [if_neg hi', if_neg hj'] at e
      exact h.iA i j (by omega) (by omega) e
/-- Behind the append, ahead of the store. -/
theorem afterE (h : GM w W2 n me ma vE vA bE bA E M) (hg : W2.grownBy W3 vE.ownBlock) : W3.cell? ⟨w.heap.size, 1, none⟩ = some vE ∧ W3.frozen? ⟨w.heap.size, 1, none⟩ = false := by
  have g3G := blk_grown h.gm hg (apart h.oE h.gm (by decide))
  exact ⟨by rw [blk_cell g3G]; rfl, blk_frozen g3G 1⟩
theorem afterA (h : GM w W2 n me ma vE vA bE bA E M) (hg : W2.grownBy W3 vA.ownBlock) : W3.cell? ⟨w.heap.size, 2, none⟩ = some vA ∧ W3.frozen? ⟨w.heap.size, 2, none⟩ = false := by
  have g3G := blk_grown h.gm hg (apart h.oA h.gm (by decide))
  exact ⟨by rw [blk_cell g3G]; rfl, blk_frozen g3G 2⟩
/-- A distance is stored. -/
theorem putA (h : GM w W n me ma vE vA bE bA E M) {i j : Nat} (hi : i < ma) (hj : j < n) (x : Int) :
    GM w (W.setCell ⟨bA i, j, none⟩ (.int .i64 x)) n me ma vE vA bE bA E (upd M i j x) := by
  obtain ⟨hlo, hrow⟩ := h.rA i hi
  refine ⟨below_set h.hb (by omega), blk_far h.gm (by show w.heap.size ≠ bA i; omega) _, own_set h.oE (fun e => apart h.oE hrow (by decide) e.symm) _, own_set h.oA (fun e => apart h.oA hrow (by decide) e.symm) _, fun a ha => ?_, fun a ha => ?_, h.iE, h.iA⟩
  · exact ⟨(h.rE a ha).1, blk_far (h.rE a ha).2 (blk_ne (h.rE a ha).2 hrow (by decide)) _⟩
  · by_cases hai : a = i
    · subst hai
      refine ⟨hlo, ?_⟩
      rw [blk_set hrow j _, intRow_set]
      have : (fun b => if b = j then x else M a b) = upd M a j x a := by funext b; unfold upd; simp
      rw [this]
    · have : upd M i j x a = M a := by funext b; unfold upd; rw [if_neg (fun e => hai e.1)]
      rw [this]
      exact ⟨(h.rA a ha).1, blk_far (h.rA a ha).2 (fun e => hai (h.iA a i ha hi e)) _⟩
/-- A bool matrix with an entry set. -/
def updE (E : Nat → Nat → Bool) (i j : Nat) : Nat → Nat → Bool := fun a b => if a = i ∧ b = j then true else E a b
theorem putE (h : GM w W n me ma vE vA bE bA E M) {i j : Nat} (hi : i < me) (hj : j < n) :
    GM w (W.setCell ⟨bE i, j, none⟩ (.bool true)) n me ma vE vA bE bA (updE E i j) M := by
  obtain ⟨hlo, hrow⟩ := h.rE i hi
  refine ⟨below_set h.hb (by omega), blk_far h.gm (by show w.heap.size ≠ bE i; omega) _, own_set h.oE (fun e => apart h.oE hrow (by decide) e.symm) _, own_set h.oA (fun e => apart h.oA hrow (by decide) e.symm) _, fun a ha => ?_, fun a ha => ?_, h.iE, h.iA⟩
  · by_cases hai : a = i
    · subst hai
      refine ⟨hlo, ?_⟩
      rw [blk_set hrow j _, boolRow_set]
      have : (fun b => if b = j then true else E a b) = updE E a j a := by funext b; unfold updE; simp
      rw [this]
    · have : updE E i j a = E a := by funext b; unfold updE; rw [if_neg (fun e => hai e.1)]
      rw [this]
      exact ⟨(h.rE a ha).1, blk_far (h.rE a ha).2 (fun e => hai (h.iE a i ha hi e)) _⟩
  · exact ⟨(h.rA a ha).1, blk_far (h.rA a ha).2 (blk_ne (h.rA a ha).2 hrow (by decide)) _⟩
theorem cA (h : GM w W n me ma vE vA bE bA E M) {i j : Nat} (hi : i < ma) (hj : j < n) : W.cell? ⟨bA i, j, none⟩ = some (.int .i64 (M i j)) := by rw [blk_cell (h.rA i hi).2]; exact intRow_at _ _ _ hj
theorem cE (h : GM w W n me ma vE vA bE bA E M) {i j : Nat} (hi : i < me) (hj : j < n) : W.cell? ⟨bE i, j, none⟩ = some (.bool (E i j)) := by rw [blk_cell (h.rE i hi).2]; exact boolRow_at _ _ _ hj
theorem fA (h : GM w W n me ma vE vA bE bA E M) {i : Nat} (hi : i < ma) (j : Nat) : W.frozen? ⟨bA i, j, none⟩ = false := blk_frozen (h.rA i hi).2 j
theorem fE (h : GM w W n me ma vE vA bE bA E M) {i : Nat} (hi : i < me) (j : Nat) : W.frozen? ⟨bE i, j, none⟩ = false := blk_frozen (h.rE i hi).2 j
theorem hA (h : GM w W n me ma vE vA bE bA E M) (hm : 0 < ma) : ∃ g c, vA = .slice (some ⟨g, 0, none⟩) ma c ∧ w.heap.size < g ∧ ma ≤ c ∧ ∀ i, i < ma → W.cell? ⟨g, i, none⟩ = some (.slice (some ⟨bA i, 0, none⟩) n n) := by
  obtain ⟨g, c, e, hg, hc, hh⟩ := own_cells h.oA hm
  exact ⟨g, c, e, by omega, hc, fun i hi => hh i _ (hdrs_at n ma bA i hi)⟩
theorem hE (h : GM w W n me ma vE vA bE bA E M) (hm : 0 < me) : ∃ g c, vE = .slice (some ⟨g, 0, none⟩) me c ∧ w.heap.size < g ∧ me ≤ c ∧ ∀ i, i < me → W.cell? ⟨g, i, none⟩ = some (.slice (some ⟨bE i, 0, none⟩) n n) := by
  obtain ⟨g, c, e, hg, hc, hh⟩ := own_cells h.oE hm
  exact ⟨g, c, e, by omega, hc, fun i hi => hh i _ (hdrs_at n me bE i hi)⟩
theorem hEc {g c : Nat} (h : GM w W n me ma (.slice (some ⟨g, 0, none⟩) me c) vA bE bA E M) {i : Nat} (hi : i < me) : W.cell? ⟨g, i, none⟩ = some (.slice (some ⟨bE i, 0, none⟩) n n) := by
  obtain ⟨g', c', e, _, _, hh⟩ := h.hE (by omega)
  obtain ⟨rfl, _⟩ : g = g' ∧ c = c' := by simpa using e
  exact hh i hi
theorem hAc {g c : Nat} (h : GM w W n me ma vE (.slice (some ⟨g, 0, none⟩) ma c) bE bA E M) {i : Nat} (hi : i < ma) : W.cell? ⟨g, i, none⟩ = some (.slice (some ⟨bA i, 0, none⟩) n n) := by
  obtain ⟨g', c', e, _, _, hh⟩ := h.hA (by omega)
  obtain ⟨rfl, _⟩ : g = g' ∧ c = c' := by simpa using e
  exact hh i hi
/-- What a region that stores into the edges' rows loads. -/
theorem pairE {x p q g c : Nat} (h : GM w W n me ma (.slice (some ⟨g, 0, none⟩) me c) vA bE bA E M) (hx : W.heap[x]? = some (.cells #[.int .i64 (p : Int), .int .i64 (q : Int)] 47 (0, 0))) (hp : p < me) (hq : q < me) :
    W.cell? ⟨w.heap.size, 1, none⟩ = some (.slice (some ⟨g, 0, none⟩) me c) ∧ W.cell? ⟨g, p, none⟩ = some (.slice (some ⟨bE p, 0, none⟩) n n) ∧ W.cell? ⟨g, q, none⟩ = some (.slice (some ⟨bE q, 0, none⟩) n n) ∧
    W.cell? ⟨x, 0, none⟩ = some (.int .i64 (p : Int)) ∧ W.cell? ⟨x, 1, none⟩ = some (.int .i64 (q : Int)) :=
  ⟨h.c1, h.hEc hp, h.hEc hq, by rw [blk_cell hx]; rfl, by rw [blk_cell hx]; rfl⟩
theorem pairA {x p q g c : Nat} (h : GM w W n me ma vE (.slice (some ⟨g, 0, none⟩) ma c) bE bA E M) (hx : W.heap[x]? = some (.cells #[.int .i64 (p : Int), .int .i64 (q : Int)] 47 (0, 0))) (hp : p < ma) (hq : q < ma) :
    W.cell? ⟨w.heap.size, 2, none⟩ = some (.slice (some ⟨g, 0, none⟩) ma c) ∧ W.cell? ⟨g, p, none⟩ = some (.slice (some ⟨bA p, 0, none⟩) n n) ∧ W.cell? ⟨g, q, none⟩ = some (.slice (some ⟨bA q, 0, none⟩) n n) ∧
    W.cell? ⟨x, 0, none⟩ = some (.int .i64 (p : Int)) ∧ W.cell? ⟨x, 1, none⟩ = some (.int .i64 (q : Int)) :=
  ⟨h.c2, h.hAc hp, h.hAc hq, by rw [blk_cell hx]; rfl, by rw [blk_cell hx]; rfl⟩
theorem farE {x i j t : Nat} {cs : Array Value} (h : GM w W n me ma vE vA bE bA E M) (hx : W.heap[x]? = some (.cells cs t (0, 0))) (ht : t ≠ 4) (hi : i < me) (u : Value) : (W.setCell ⟨bE i, j, none⟩ u).heap[x]? = some (.cells cs t (0, 0)) :=
  blk_far hx (blk_ne hx (h.rE i hi).2 ht) _
theorem farA {x i j t : Nat} {cs : Array Value} (h : GM w W n me ma vE vA bE bA E M) (hx : W.heap[x]? = some (.cells cs t (0, 0))) (ht : t ≠ 3) (hi : i < ma) (u : Value) : (W.setCell ⟨bA i, j, none⟩ u).heap[x]? = some (.cells cs t (0, 0)) :=
  blk_far hx (blk_ne hx (h.rA i hi).2 ht) _
end GM
/-- Entries from 0 to n. -/
def Bd (n : Nat) (M : Mt) : Prop := ∀ a b, 0 ≤ M a b ∧ M a b ≤ n
theorem Bd.upd {n : Nat} {M : Mt} (h : Bd n M) (i j : Nat) {v : Int} (h0 : 0 ≤ v) (h1 : v ≤ n) : Bd n (upd M i j v) := fun a b => by
  unfold P.upd; split
  · exact ⟨h0, h1⟩
  · exact h a b
theorem Bd.flJ {n : Nat} {M : Mt} (h : Bd n M) (k i j : Nat) : Bd n (flJ k i M j) := by
  unfold P.flJ
  have h1 := h i j; have h2 := h i k; have h3 := h k j
  refine h.upd i j ?_ ?_
  · rcases mnI_cases (M i j) (M i k + M k j) with e | e <;> omega
  · exact Int.le_trans (mnI_le_left _ _) h1.2
theorem Bd.foldl {n : Nat} {f : Mt → Nat → Mt} (hf : ∀ M j, Bd n M → Bd n (f M j)) : ∀ (l : List Nat) (M : Mt), Bd n M → Bd n (l.foldl f M)
  | [], _, h => h
  | x :: l, M, h => Bd.foldl hf l _ (hf M x h)
theorem Bd.flI {n m : Nat} {M : Mt} (h : Bd n M) (k i : Nat) : Bd n (flI m k M i) := Bd.foldl (fun M j hM => hM.flJ k i j) _ _ h
theorem Bd.flK {n m : Nat} {M : Mt} (h : Bd n M) (k : Nat) : Bd n (flK m M k) := Bd.foldl (fun M j hM => hM.flI k j) _ _ h
end Go.Proofs.YtbeimdngghedjaaDoor.P
