/- What a statement's input is, told by the kinds: a value that is read at a type follows its kind's row in memory. -/
import Derived.Test.YtcphmeeighhdjaaPK
import Derived.ChangeArms
import Derived.OpenShut
import Derived.WideShapes
namespace Go.Proofs.Ytcphmeeighhdjaa.P
open Go Go.Proofs Go.RowKit Go.Proofs.YtcphmeeighhdjaaW.PrintWords Go.Proofs.YtcphmeeighhdjaaW.PrintLast Go.Proofs.YtcphmeeighhdjaaW.PrintMore

/-- At type t each value that is read is one of kind d, and a good one. -/
def Reads {α : Type} (P : Program) (d : Kd α) (t : TypeId) (good : α → Prop) : Prop :=
  P.cellsOf t = d.sz ∧ ∀ (H : Type) (enc : TypeId × Value → H) (w : World) (base : Nat) (sp : Nat → Bool) (held : Bool) (fuel : Nat) (cs : List Value) (x : DataW H × List MemPlace),
    DataW.trod enc P w base sp held fuel t cs = some x → ∃ v, d.K w v cs ∧ good v
theorem reads_int {P : Program} {t : TypeId} {k : IntKind} (ht : P.underlying t = some (.int k)) (hc : P.cellsOf t = 1) : Reads P (Kd.int k) t (fun n => (Lit.int k n).wf = true) := by
  refine ⟨hc, fun H enc w base sp held fuel cs x h => ?_⟩
  obtain ⟨n, rfl, _, hw⟩ := DataW.trod_int ht h
  exact ⟨n, rfl, hw⟩
theorem reads_bool {P : Program} {t : TypeId} (ht : P.underlying t = some .bool) (hc : P.cellsOf t = 1) : Reads P Kd.bool t (fun _ => True) := by
  refine ⟨hc, fun H enc w base sp held fuel cs x h => ?_⟩
  obtain ⟨n, rfl, _⟩ := DataW.trod_bool ht h
  exact ⟨n, rfl, trivial⟩
theorem list_of {α : Type} {Q : Nat → α → Prop} : ∀ (n : Nat), (∀ i, i < n → ∃ v, Q i v) → ∃ xs : List α, xs.length = n ∧ ∀ i v, xs[i]? = some v → Q i v
  | 0, _ => ⟨[], rfl, fun i v h => by simp at h⟩
  | n + 1, h => by
    obtain ⟨xs, hl, hx⟩ := list_of n fun i hi => h i (by omega)
    obtain ⟨v, hv⟩ := h n (by omega)
    refine ⟨xs ++ [v], by simp [hl], fun i u hu => ?_⟩
    by_cases hi : i < xs.length
    · rw [List.getElem?_append_left hi] at hu; exact hx i u hu
    · rw [List.getElem?_append_right (by omega)] at hu
      have h0 : i - xs.length = 0 := by
        have := (List.getElem?_eq_some_iff.1 hu).1
        simp at this; omega
      rw [h0] at hu
      obtain rfl : v = u := by simpa using hu
      have : i = n := by omega
      subst this; exact hv
theorem cells_at {w : World} {base n : Nat} {a : Addr} {cs : List Value} (h : w.cells? base a n = some cs) : cs.length = n ∧ ∀ i u, cs[i]? = some u → w.cell? (a.add i) = some u := by
  unfold World.cells? at h
  split at h
  · have hl : cs.length = n := by simpa using mapM_some_length h
    refine ⟨hl, fun i u hu => ?_⟩
    have hi : i < n := by have := (List.getElem?_eq_some_iff.1 hu).1; omega
    rw [← hu]
    exact mapM_some_get h i i (by simp [hi])
  · cases h
theorem add_add' (a : Addr) (m n : Nat) : (a.add m).add n = a.add (m + n) := by
  unfold Addr.add
  by_cases hm : m = 0
  · subst hm; rw [if_pos rfl, Nat.zero_add]
  · rw [if_neg hm, if_neg (show ¬ m + n = 0 by omega)]
    by_cases hn : n = 0
    · subst hn; rw [if_pos rfl]; rfl
    · rw [if_neg hn]
      simp [Nat.add_assoc]
theorem reads_slice {α : Type} {P : Program} {d : Kd α} {t e : TypeId} {good : α → Prop} (e' : Nat) (ht : P.underlying t = some (.slice e)) (hc : P.cellsOf t = 1) (hd : Reads P d e good) :
    Reads P (Kd.slice e' d) t (fun l => l.length ≤ maxLen ∧ ∀ x ∈ l, good x) := by
  refine ⟨hc, fun H enc w base sp held fuel cs x h => ?_⟩
  rcases DataW.trod_slice ht h with ⟨rfl, _⟩ | ⟨a, len, cap, elems, rest, n, _, rfl, _, _, hl, hm, hlen, hel, _, _⟩
  · exact ⟨[], ⟨none, 0, rfl, Nat.le_refl 0, rfl, Nat.zero_le _, fun h => absurd h (Nat.lt_irrefl 0)⟩, Nat.zero_le _, fun x hx => by cases hx⟩
  · have each : ∀ i, i < len → ∃ v, (∃ c, c.length = d.sz ∧ d.K w v c ∧ ∀ j u, c[j]? = some u → w.cell? (a.add (i * d.sz + j)) = some u) ∧ good v := fun i hi => by
      have h1 := hel i hi
      rw [List.getElem?_eq_getElem (by omega), hd.1] at h1
      obtain ⟨c, hc1, hc2⟩ := Option.bind_eq_some_iff.1 h1
      obtain ⟨v, hv, hg⟩ := hd.2 H enc w base sp held n c _ hc2
      obtain ⟨hcl, hcc⟩ := cells_at hc1
      exact ⟨v, ⟨c, hcl, hv, fun j u hu => by rw [← add_add']; exact hcc j u hu⟩, hg⟩
    obtain ⟨xs, hxl, hx⟩ := list_of len each
    subst hxl
    refine ⟨xs, ⟨some a, cap, rfl, hl, rfl, by have : maxLen ≤ 9223372036854775807 := by decide
                                               omega, fun _ => ⟨a, rfl, fun j p hp => (hx j p hp).1⟩⟩, by omega, fun x hx' => ?_⟩
    obtain ⟨i, hi, he⟩ := List.getElem_of_mem hx'
    exact (hx i x (by rw [List.getElem?_eq_getElem hi, he])).2
/-- The fields of a struct from some place on. -/
def ReadsFs {α : Type} (P : Program) (d : Kd α) (fs : List Field) (off : Nat) (good : α → Prop) : Prop :=
  ∀ (H : Type) (enc : TypeId × Value → H) (w : World) (base : Nat) (sp : Nat → Bool) (held : Bool) (fuel : Nat) (cs : List Value), cs.length = off + d.sz →
    (∀ (i : Nat) (f : Field), fs[i]? = some f → ∃ x : DataW H × List MemPlace, DataW.trod enc P w base sp held fuel f.type ((cs.drop f.offset).take (P.cellsOf f.type)) = some x) →
    ∃ v, d.K w v (cs.drop off) ∧ good v
theorem readsFs_one {α : Type} {P : Program} {d : Kd α} {f : Field} {off : Nat} {good : α → Prop} (ho : f.offset = off) (h : Reads P d f.type good) : ReadsFs P d [f] off good := by
  intro H enc w base sp held fuel cs hl he
  obtain ⟨x, hx⟩ := he 0 f rfl
  rw [ho, h.1, List.take_of_length_le (by rw [List.length_drop]; omega)] at hx
  exact h.2 H enc w base sp held fuel _ x hx
theorem readsFs_cons {α β : Type} {P : Program} {d : Kd α} {d2 : Kd β} {f : Field} {fs : List Field} {off off2 : Nat} {good : α → Prop} {good2 : β → Prop} (ho : f.offset = off) (h : Reads P d f.type good)
    (ho2 : off2 = off + d.sz) (h2 : ReadsFs P d2 fs off2 good2) : ReadsFs P (Kd.pair d d2) (f :: fs) off (fun x => good x.1 ∧ good2 x.2) := by
  intro H enc w base sp held fuel cs hl he
  have hl' : cs.length = off + (d.sz + d2.sz) := hl
  obtain ⟨x, hx⟩ := he 0 f rfl
  rw [ho, h.1] at hx
  obtain ⟨v, hv, hg⟩ := h.2 H enc w base sp held fuel _ x hx
  subst ho2
  obtain ⟨v2, hv2, hg2⟩ := h2 H enc w base sp held fuel cs (by omega) (fun i f' hf => he (i + 1) f' hf)
  refine ⟨(v, v2), ⟨_, _, ?_, hv, hv2⟩, hg, hg2⟩
  rw [← List.drop_drop, List.take_append_drop]
theorem reads_fields {α β : Type} {P : Program} {d : Kd α} {t : TypeId} {fs : Array Field} {good : α → Prop} (f : β → α) (mk : α → β) (hf : ∀ a, f (mk a) = a) (ht : P.underlying t = some (.struct fs)) (hc : P.cellsOf t = d.sz)
    (h : ReadsFs P d fs.toList 0 good) : Reads P (Kd.iso d f) t (fun x => good (f x)) := by
  refine ⟨hc, fun H enc w base sp held fuel cs x hx => ?_⟩
  obtain ⟨xs, n, _, _, hl, hxl, he⟩ := DataW.trod_struct ht hx
  obtain ⟨v, hv, hg⟩ := h H enc w base sp held n cs (by omega) (fun i f' hf' => by
    have hi : i < fs.size := by
      have := (List.getElem?_eq_some_iff.1 hf').1
      simpa using this
    have e0 := he i f' (by simpa using hf')
    rw [List.getElem?_eq_getElem (by omega)] at e0
    exact ⟨_, e0⟩)
  rw [List.drop_zero] at hv
  refine ⟨mk v, ?_, show good (f (mk v)) from by rw [hf]; exact hg⟩
  show d.K w (f (mk v)) cs
  rw [hf]; exact hv
theorem reads_struct {α : Type} {P : Program} {d : Kd α} {t : TypeId} {fs : Array Field} {good : α → Prop} (ht : P.underlying t = some (.struct fs)) (hc : P.cellsOf t = d.sz)
    (h : ReadsFs P d fs.toList 0 good) : Reads P d t good := by
  obtain ⟨h1, h2⟩ := reads_fields (fun x : α => x) (fun x => x) (fun _ => rfl) ht hc h
  exact ⟨h1, h2⟩
/-- The elements of an array from some place on. -/
def ReadsAr {α : Type} (P : Program) (d : Kd α) (e : TypeId) (n : Nat) (i : Nat) (good : α → Prop) : Prop :=
  ∀ (H : Type) (enc : TypeId × Value → H) (w : World) (base : Nat) (sp : Nat → Bool) (held : Bool) (fuel : Nat) (cs : List Value), cs.length = i * P.cellsOf e + d.sz →
    (∀ j, i ≤ j → j < n → ∃ x : DataW H × List MemPlace, DataW.trod enc P w base sp held fuel e ((cs.drop (j * P.cellsOf e)).take (P.cellsOf e)) = some x) →
    ∃ v, d.K w v (cs.drop (i * P.cellsOf e)) ∧ good v
theorem readsAr_one {α : Type} {P : Program} {d : Kd α} {e : TypeId} {n i : Nat} {good : α → Prop} (hn : n = i + 1) (h : Reads P d e good) : ReadsAr P d e n i good := by
  intro H enc w base sp held fuel cs hl he
  obtain ⟨x, hx⟩ := he i (Nat.le_refl _) (by omega)
  rw [List.take_of_length_le (by rw [List.length_drop, h.1]; rw [h.1] at hl; omega)] at hx
  exact h.2 H enc w base sp held fuel _ x hx
theorem readsAr_cons {α β : Type} {P : Program} {d : Kd α} {d2 : Kd β} {e : TypeId} {n i : Nat} {good : α → Prop} {good2 : β → Prop} (hi : i < n) (h : Reads P d e good) (h2 : ReadsAr P d2 e n (i + 1) good2) :
    ReadsAr P (Kd.pair d d2) e n i (fun x => good x.1 ∧ good2 x.2) := by
  intro H enc w base sp held fuel cs hl he
  have hl' : cs.length = i * P.cellsOf e + (d.sz + d2.sz) := hl
  obtain ⟨x, hx⟩ := he i (Nat.le_refl _) hi
  rw [h.1] at hx
  obtain ⟨v, hv, hg⟩ := h.2 H enc w base sp held fuel _ x hx
  obtain ⟨v2, hv2, hg2⟩ := h2 H enc w base sp held fuel cs (by rw [Nat.succ_mul, h.1]; rw [h.1] at hl'; omega) (fun j hj hn => he j (by omega) hn)
  refine ⟨(v, v2), ⟨_, _, ?_, hv, hv2⟩, hg, hg2⟩
  rw [Nat.succ_mul, ← List.drop_drop, h.1, List.take_append_drop]
theorem reads_array {α : Type} {P : Program} {d : Kd α} {t e : TypeId} {n : Nat} {good : α → Prop} (ht : P.underlying t = some (.array n e)) (hc : P.cellsOf t = d.sz)
    (h : ReadsAr P d e n 0 good) : Reads P d t good := by
  refine ⟨hc, fun H enc w base sp held fuel cs x hx => ?_⟩
  obtain ⟨xs, m, _, _, hl, hxl, he⟩ := DataW.trod_array ht hx
  obtain ⟨v, hv, hg⟩ := h H enc w base sp held m cs (by omega) (fun j _ hj => by
    have e0 := he j hj
    rw [List.getElem?_eq_getElem (by omega)] at e0
    exact ⟨_, e0⟩)
  rw [Nat.zero_mul, List.drop_zero] at hv
  exact ⟨v, hv, hg⟩
theorem reads_iso {α β : Type} {P : Program} {d : Kd α} {t : TypeId} {good : α → Prop} (f : β → α) (mk : α → β) (hf : ∀ a, f (mk a) = a) (h : Reads P d t good) : Reads P (Kd.iso d f) t (fun x => good (f x)) := by
  refine ⟨h.1, fun H enc w base sp held fuel cs x hx => ?_⟩
  obtain ⟨v, hv, hg⟩ := h.2 H enc w base sp held fuel cs x hx
  refine ⟨mk v, ?_, show good (f (mk v)) from by rw [hf]; exact hg⟩
  show d.K w (f (mk v)) cs
  rw [hf]; exact hv
/-- A value that a statement reads, by its kind. -/
theorem Reads.of_trod {α : Type} {P : Program} {d : Kd α} {t : TypeId} {good : α → Prop} (h : Reads P d t good) {H : Type} {enc : TypeId × Value → H} {w : World} {base : Nat} {sp : Nat → Bool} {held : Bool} {v : Value} {dd : DataW H} {p : List MemPlace}
    (hx : DataW.Trod enc P w base sp held t v dd p) : ∃ x, d.K w x v.cells.toList ∧ good x := by
  obtain ⟨fuel, hf⟩ := hx
  exact h.2 H enc w base sp held fuel _ _ hf
theorem okWide_array {P : Program} {w : World} {r : Reach} {base : Nat} {t e : TypeId} {n : Nat} {v : Value} (ht : P.underlying t = some (.array n e)) (h : Value.okWide P w r base t v) : ∃ cs, v = .agg cs ∧ cs.size = P.cellsOf t := by
  simp only [Value.okWide, ht] at h
  obtain ⟨cs, h1, h2, _⟩ := h
  exact ⟨cs, h1, h2⟩

end Go.Proofs.Ytcphmeeighhdjaa.P
