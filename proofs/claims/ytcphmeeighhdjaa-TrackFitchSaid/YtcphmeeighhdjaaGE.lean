/- Plain facts and helping facts for sankoff: what its tables are, and rows of numbers told by the block that they lie in. -/
import Derived.Test.YtcphmeeighhdjaaGD
import Derived.Test.YtcphmeeighhdjaaWA
import Derived.Test.YtcphmeeighhdjaaRT
namespace Go.Proofs.Ytcphmeeighhdjaa.P
set_option linter.unusedVariables false
open Go Go.RowKit Go.Proofs.YtcphmeeighhdjaaW.PrintWords Go.Proofs.YtcphmeeighhdjaaW.PrintLast Go.Proofs.YtcphmeeighhdjaaW.PrintMore

/-- A table: the costs and the numbers of ways. -/
structure S111 where
  f0 : List Int
  f1 : List Int
def z111 : S111 := ⟨[], []⟩
def k111 : Kd S111 := Kd.iso (Kd.pair (Kd.slice 3 (Kd.int .i64)) (Kd.slice 3 (Kd.int .i64))) (fun x : S111 => (x.f0, x.f1))
theorem k111_open {w : World} {x : S111} {cs : List Value} (h : k111.K w x cs) : ∃ A0 c0 A1 c1, cs = [.slice A0 x.f0.length c0, .slice A1 x.f1.length c1] ∧ x.f0.length ≤ c0 ∧ Kd.C (Kd.int .i64) w A0 x.f0.length x.f0 ∧ x.f1.length ≤ c1 ∧ Kd.C (Kd.int .i64) w A1 x.f1.length x.f1 := by
  obtain ⟨_, _, rfl, ⟨A0, c0, rfl, l0, g0⟩, ⟨A1, c1, rfl, l1, g1⟩⟩ := h
  exact ⟨A0, c0, A1, c1, rfl, l0, g0, l1, g1⟩
theorem k111_mkF (W : World) (ok : Nat → Prop) (x : S111) {A0 A1 : Option Addr} {c0 c1 : Nat} (l0 : x.f0.length ≤ c0) (g0 : Kd.F (Kd.int .i64) W ok A0 x.f0.length x.f0) (l1 : x.f1.length ≤ c1) (g1 : Kd.F (Kd.int .i64) W ok A1 x.f1.length x.f1) :
    Kd.FK k111 W ok x [.slice A0 x.f0.length c0, .slice A1 x.f1.length c1] := fun W2 hW => ⟨_, _, rfl, ⟨A0, c0, rfl, l0, g0 W2 hW⟩, ⟨A1, c1, rfl, l1, g1 W2 hW⟩⟩
def rd_T111 (xs : List S111) (i : Int) : S111 := xs.getD i.toNat z111
theorem at_T111 {w : World} {A : Option Addr} {n : Nat} {xs : List S111} (h : Kd.C k111 w A n xs) (i : Int) (h0 : 0 ≤ i) (h1 : i < n) : ∃ ad A0 c0 A1 c1, A = some ad ∧ w.cell? (ad.add (i.toNat * 2)) = some (.slice A0 (rd_T111 xs i).f0.length c0) ∧
    w.cell? ⟨(ad.add (i.toNat * 2)).block, (ad.add (i.toNat * 2)).off + 1, none⟩ = some (.slice A1 (rd_T111 xs i).f1.length c1) ∧ (rd_T111 xs i).f0.length ≤ c0 ∧ Kd.C (Kd.int .i64) w A0 (rd_T111 xs i).f0.length (rd_T111 xs i).f0 ∧ (rd_T111 xs i).f1.length ≤ c1 ∧ Kd.C (Kd.int .i64) w A1 (rd_T111 xs i).f1.length (rd_T111 xs i).f1 := by
  obtain ⟨ad, c, e, _, hK, hc⟩ := Kd.C_get h z111 i h0 h1
  obtain ⟨A0, c0, A1, c1, rfl, l0, g0, l1, g1⟩ := k111_open hK
  exact ⟨ad, A0, c0, A1, c1, e, hc 0 _ rfl, by rw [← add_field _ _ 1 (by omega)]; exact hc 1 _ rfl, l0, g0, l1, g1⟩
theorem info111 : (Try.prog.info? 111).map (fun i => (i.zero, i.size, i.bytes)) = some (some (.agg #[.slice none 0 0, .slice none 0 0]), 2, 48) := by kernel_rfl
theorem lit1 (W : World) (g : Nat) (v : Int) (h : W.cell? ⟨g, 0, none⟩ = some (.int .i64 v)) : Kd.C (Kd.int .i64) W (some ⟨g, 0, none⟩) 1 [v] := by
  refine ⟨rfl, by decide, fun _ => ⟨_, rfl, fun j p hj => ⟨[.int .i64 p], rfl, rfl, fun i u hu => ?_⟩⟩⟩
  rcases j with _ | j
  · rcases i with _ | i
    · simp only [List.getElem?_cons_zero, Option.some.injEq] at hj hu
      subst hj; subst hu
      exact h
    · simp at hu
  · simp at hj
/-- The table of a leaf. -/
def leafTab (k : Nat) (s : Int) : S111 := ⟨(List.replicate k 1073741824).set s.toNat 0, (List.replicate k 0).set s.toNat 1⟩
/-- The table of a join, as far as m states. -/
def joinTo (k : Nat) (C : List (List Int)) (f : Int) (ta tb : S111) : Nat → S111
  | 0 => ⟨List.replicate k 1073741824, List.replicate k 0⟩
  | m + 1 => if 0 ≤ f ∧ f ≠ m then joinTo k C f ta tb m else
      ⟨(joinTo k C f ta tb m).f0.set m (wrap64 ((belowTo (rd_L3 C m) ta.f0 ta.f1 k).1 + (belowTo (rd_L3 C m) tb.f0 tb.f1 k).1)), (joinTo k C f ta tb m).f1.set m (wrap64 ((belowTo (rd_L3 C m) ta.f0 ta.f1 k).2 * (belowTo (rd_L3 C m) tb.f0 tb.f1 k).2))⟩
theorem joinTo_len (k : Nat) (C : List (List Int)) (f : Int) (ta tb : S111) (m : Nat) : (joinTo k C f ta tb m).f0.length = k ∧ (joinTo k C f ta tb m).f1.length = k := by
  induction m with
  | zero => exact ⟨List.length_replicate, List.length_replicate⟩
  | succ m ih =>
    unfold joinTo
    split
    · exact ih
    · exact ⟨by rw [List.length_set]; exact ih.1, by rw [List.length_set]; exact ih.2⟩
/-- The tables of all leaves and of m joins. -/
def sankTo (k : Nat) (C : List (List Int)) (F : List Int) (J : List S67) (L : List Int) : Nat → List S111
  | 0 => L.map (leafTab k)
  | m + 1 => sankTo k C F J L m ++ [joinTo k C (rd F m) (rd_T111 (sankTo k C F J L m) (rd_T67 J m).f0) (rd_T111 (sankTo k C F J L m) (rd_T67 J m).f1) k]
theorem sankTo_length (k : Nat) (C : List (List Int)) (F : List Int) (J : List S67) (L : List Int) (m : Nat) : (sankTo k C F J L m).length = L.length + m := by
  induction m with
  | zero => simp [sankTo]
  | succ m ih => simp [sankTo, ih]; omega
theorem sankTo_len (k : Nat) (C : List (List Int)) (F : List Int) (J : List S67) (L : List Int) (m : Nat) : ∀ t ∈ sankTo k C F J L m, t.f0.length = k ∧ t.f1.length = k := by
  induction m with
  | zero =>
    intro t ht
    obtain ⟨s, _, rfl⟩ := List.mem_map.1 ht
    exact ⟨by simp [leafTab], by simp [leafTab]⟩
  | succ m ih =>
    intro t ht
    rcases List.mem_append.1 ht with h | h
    · exact ih t h
    · rw [List.mem_singleton.1 h]; exact joinTo_len _ _ _ _ _ _
theorem rd_T111_mem (l : List S111) (i : Int) (h0 : 0 ≤ i) (h1 : i < l.length) : rd_T111 l i ∈ l := by
  unfold rd_T111
  rw [List.getD_eq_getElem?_getD, List.getElem?_eq_getElem (by omega), Option.getD_some]
  exact List.getElem_mem _
/-- Whole numbers that fill a block of their own. -/
def ints (xs : List Int) : Obj := .cells (xs.map (Value.int .i64)).toArray 3 (0, 0)
def Blk (w : World) (b g : Nat) (o : Obj) : Prop := w.heap[g]? = some o ∧ b ≤ g
theorem Blk.lt {w : World} {b g : Nat} {o : Obj} (h : Blk w b g o) : g < w.heap.size := (Array.getElem?_eq_some_iff.1 h.1).1
theorem Blk.below {w w1 : World} {b g : Nat} {o : Obj} (h : Blk w b g o) (hb : Below w.heap.size w w1) : Blk w1 b g o := ⟨(hb.block g h.lt).trans h.1, h.2⟩
theorem Blk.alloc {w : World} {b g : Nat} {o : Obj} (h : Blk w b g o) (p : Obj) : Blk (w.alloc p) b g o := h.below (below_alloc (Below.refl _ _) p)
theorem Blk.drew {w : World} {b g : Nat} {o : Obj} (h : Blk w b g o) : Blk w.drew b g o := h
theorem Blk.far {w : World} {b g : Nat} {o : Obj} (h : Blk w b g o) {p : Addr} (hp : g ≠ p.block) (u : Value) : Blk (w.setCell p u) b g o := ⟨(Below.heap_setCell w p u g hp).trans h.1, h.2⟩
theorem Blk.ne {w : World} {b g q : Nat} {o p : Obj} (h : Blk w b g o) (hq : w.heap.size ≤ q) : g ≠ q := by have := h.lt; omega
theorem Blk.new (w : World) (b : Nat) (hb : b ≤ w.heap.size) (o : Obj) : Blk (w.alloc o) b w.heap.size o := ⟨alloc_at _ _, hb⟩
theorem Blk.at {w : World} {b g : Nat} {xs : List Int} (h : Blk w b g (ints xs)) (i : Nat) (hi : i < xs.length) : w.cell? ⟨g, i, none⟩ = some (.int .i64 (rd xs i)) := by
  have h0 := h.1
  unfold ints at h0
  rw [Pure.rd_nat xs i hi]
  simp [World.cell?, h0, hi]
theorem Blk.frozen {w : World} {b g : Nat} {xs : List Int} (h : Blk w b g (ints xs)) (i : Nat) : w.frozen? ⟨g, i, none⟩ = false := by
  have h0 := h.1
  unfold ints at h0
  simp [World.frozen?, h0]
theorem Blk.put {w : World} {b g : Nat} {xs : List Int} (h : Blk w b g (ints xs)) (i : Nat) (x : Int) : Blk (w.setCell ⟨g, i, none⟩ (.int .i64 x)) b g (ints (xs.set i x)) := by
  refine ⟨?_, h.2⟩
  have h0 := h.1
  have hl := h.lt
  unfold ints at h0 ⊢
  rw [heap_setCell_same w g i _ 3 _ h0]
  simp [List.map_set]
theorem Blk.F {w : World} {b g : Nat} {xs : List Int} (h : Blk w b g (ints xs)) (hm : xs.length ≤ maxLen) : Kd.F (Kd.int .i64) w (fun j => j = g) (some ⟨g, 0, none⟩) xs.length xs := by
  intro W2 hW
  have h1 : Blk W2 b g (ints xs) := ⟨(hW g rfl h.lt).trans h.1, h.2⟩
  refine ⟨rfl, hm, fun _ => ⟨_, rfl, fun j p hj => ⟨[.int .i64 p], rfl, rfl, fun i u hu => ?_⟩⟩⟩
  rcases i with _ | i
  · simp only [List.getElem?_cons_zero, Option.some.injEq] at hu
    subst hu
    have hjl := (List.getElem?_eq_some_iff.1 hj).1
    have h2 := h1.at j hjl
    have e : (⟨g, 0, none⟩ : Addr).add (j * 1 + 0) = ⟨g, j, none⟩ := by cases j <;> simp [Addr.add]
    show W2.cell? ((⟨g, 0, none⟩ : Addr).add (j * (Kd.int .i64).sz + 0)) = _
    rw [show (Kd.int .i64).sz = 1 from rfl, e, h2, Pure.rd_nat xs j hjl]
    rw [List.getElem?_eq_getElem hjl] at hj
    rw [Option.some.inj hj]
  · simp at hu
/-- A block of a table. -/
def tabO (u v : Value) : Obj := .cells #[u, v] 111 (0, 0)
theorem Blk.c0 {w : World} {b g : Nat} {u v : Value} (h : Blk w b g (tabO u v)) : w.cell? ⟨g, 0, none⟩ = some u := by
  have h0 := h.1
  unfold tabO at h0
  simp [World.cell?, h0]
theorem Blk.c1 {w : World} {b g : Nat} {u v : Value} (h : Blk w b g (tabO u v)) : w.cell? ⟨g, 1, none⟩ = some v := by
  have h0 := h.1
  unfold tabO at h0
  simp [World.cell?, h0]
theorem Blk.fz {w : World} {b g : Nat} {u v : Value} (h : Blk w b g (tabO u v)) (i : Nat) : w.frozen? ⟨g, i, none⟩ = false := by
  have h0 := h.1
  unfold tabO at h0
  simp [World.frozen?, h0]
theorem Blk.s0 {w : World} {b g : Nat} {u v : Value} (h : Blk w b g (tabO u v)) (x : Value) : Blk (w.setCell ⟨g, 0, none⟩ x) b g (tabO x v) := by
  refine ⟨?_, h.2⟩
  have h0 := h.1
  unfold tabO at h0 ⊢
  rw [heap_setCell_same w g 0 _ 111 _ h0]
  simp
theorem Blk.s1 {w : World} {b g : Nat} {u v : Value} (h : Blk w b g (tabO u v)) (x : Value) : Blk (w.setCell ⟨g, 1, none⟩ x) b g (tabO u x) := by
  refine ⟨?_, h.2⟩
  have h0 := h.1
  unfold tabO at h0 ⊢
  rw [heap_setCell_same w g 1 _ 111 _ h0]
  simp
theorem rd_mem (l : List Int) (i : Int) (h0 : 0 ≤ i) (h1 : i < l.length) : rd l i ∈ l := by
  unfold rd
  rw [List.getD_eq_getElem?_getD, List.getElem?_eq_getElem (by omega), Option.getD_some]
  exact List.getElem_mem _
theorem tab_FK {w : World} {b g h k : Nat} {xs ys : List Int} (hx : Blk w b g (ints xs)) (hy : Blk w b h (ints ys)) (lx : xs.length = k) (ly : ys.length = k) (hk : k ≤ 8) : Kd.FK k111 w (fun j => b ≤ j) ⟨xs, ys⟩ [.slice (some ⟨g, 0, none⟩) k k, .slice (some ⟨h, 0, none⟩) k k] := by
  have h1 := k111_mkF w (fun j => b ≤ j) ⟨xs, ys⟩ (c0 := k) (c1 := k) (by show xs.length ≤ k; omega) (Kd.F_mono (hx.F (by unfold maxLen; omega)) (fun j e => by rw [e]; exact hx.2)) (by show ys.length ≤ k; omega) (Kd.F_mono (hy.F (by unfold maxLen; omega)) (fun j e => by rw [e]; exact hy.2))
  rw [lx, ly] at h1
  exact h1
theorem w64_succ (m : Nat) (h : m ≤ 100000) : wrap64 ((m : Int) + 1) = ((m + 1 : Nat) : Int) := by
  unfold wrap64
  omega
theorem cellD {W : World} {p : Addr} {v : Value} (h : W.cell? p = some v) : W.drew.cell? p = some v := h
theorem cellA {W : World} {o : Obj} {p : Addr} {v : Value} (h : W.cell? p = some v) : (W.alloc o).cell? p = some v := ((below_alloc (Below.refl _ _) o).cell (World.block_lt_of_cell? _ _ h)).trans h
theorem madeInts (k : Nat) : Obj.cells (madeCells #[.int .i64 0] k) 3 (0, 0) = ints (List.replicate k 0) := by
  have e : madeCells #[.int .i64 0] k = ((List.replicate k (0 : Int)).map (Value.int .i64)).toArray := by
    apply Array.ext'
    unfold madeCells
    simp
    apply List.ext_getElem
    · simp
    · intro i h1 h2
      simp [Nat.mod_one]
  unfold ints
  rw [e]
end Go.Proofs.Ytcphmeeighhdjaa.P
