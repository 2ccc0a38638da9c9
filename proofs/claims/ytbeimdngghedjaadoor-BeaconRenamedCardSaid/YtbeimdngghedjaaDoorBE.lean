/- Plain facts on graphs renamed: distances go over, marks that resolve go over to at most as many that resolve. -/
import Derived.Test.YtbeimdngghedjaaDoorBN
namespace Go.Proofs.YtbeimdngghedjaaDoor.Pure
open Go Go.Proofs Go.RowKit Go.Proofs.YtbeimdngghedjaaDoor.P Go.Proofs.YtbeimdngghedjaaDoorW.PrintWords Go.Proofs.YtbeimdngghedjaaDoorW.PrintLast
set_option linter.unusedVariables false

theorem Wk.map {n : Nat} {E E' : Nat → Nat → Bool} {f : Nat → Nat} (hf : ∀ i, i < n → f i < n) (he : ∀ i j, i < n → j < n → E i j = true → E' (f i) (f j) = true) : ∀ {r i j : Nat}, i < n → Wk n E r i j → Wk n E' r (f i) (f j)
  | 0, i, j, _, h => congrArg f (show i = j from h)
  | r + 1, i, j, hi, ⟨m, hm, h1, h2⟩ => ⟨f m, hf m hm, he i m hi hm h1, Wk.map hf he hm h2⟩
/-- One graph is the other with its vertices renamed by f. -/
structure Ren (n : Nat) (E E' : Nat → Nat → Bool) (f g : Nat → Nat) : Prop where
  hf : ∀ i, i < n → f i < n
  hg : ∀ i, i < n → g i < n
  gf : ∀ i, i < n → g (f i) = i
  fg : ∀ i, i < n → f (g i) = i
  e1 : ∀ i j, i < n → j < n → E i j = true → E' (f i) (f j) = true
  e2 : ∀ i j, i < n → j < n → E' i j = true → E (g i) (g j) = true
namespace Ren
variable {n : Nat} {E E' : Nat → Nat → Bool} {M M' : Mt} {f g : Nat → Nat}
theorem symm (R : Ren n E E' f g) : Ren n E' E g f := ⟨R.hg, R.hf, R.fg, R.gf, R.e2, R.e1⟩
theorem le (R : Ren n E E' f g) (h : Met n E M) (h' : Met n E' M') {i j : Nat} (hi : i < n) (hj : j < n) : M' (f i) (f j) ≤ M i j := by
  have hw := h.fl.wk i j hi hj (h.lt i j hi hj)
  have := h'.fl.le_walk _ (f i) (f j) (R.hf i hi) (R.hf j hj) (Wk.map R.hf R.e1 hi hw)
  have hp := h.pos hi hj
  omega
theorem eq (R : Ren n E E' f g) (h : Met n E M) (h' : Met n E' M') {i j : Nat} (hi : i < n) (hj : j < n) : M' (f i) (f j) = M i j := by
  have h1 := R.le h h' hi hj
  have h2 := R.symm.le h' h (R.hf i hi) (R.hf j hj)
  rw [R.gf i hi, R.gf j hj] at h2
  omega
end Ren
theorem nodup_sub {α : Type} [DecidableEq α] : ∀ (l s : List α), l.Nodup → (∀ x ∈ l, x ∈ s) → l.length ≤ s.length
  | [], s, _, _ => Nat.zero_le _
  | a :: l, s, hn, hs => by
    have ha := hs a (by simp)
    obtain ⟨h1, h2⟩ := List.nodup_cons.1 hn
    have := nodup_sub l (s.erase a) h2 fun x hx => (List.mem_erase_of_ne (fun e => h1 (by rw [← e]; exact hx))).2 (hs x (by simp [hx]))
    rw [List.length_erase_of_mem ha] at this
    have := List.length_pos_of_mem ha
    simp only [List.length_cons]
    omega
theorem Ris.low {n : Int} : ∀ {lo hi : Int} {s : List Int}, lo ≤ hi → Ris n hi s → Ris n lo s
  | _, _, [], _, _ => trivial
  | lo, hi, x :: s, h, ⟨h1, h2, h3⟩ => ⟨by omega, h2, h3⟩
theorem Ris.filter {n : Int} (p : Int → Bool) : ∀ {lo : Int} {s : List Int}, Ris n lo s → Ris n lo (s.filter p)
  | _, [], _ => trivial
  | lo, x :: s, ⟨h1, h2, h3⟩ => by
    by_cases h : p x = true
    · rw [List.filter_cons_of_pos h]; exact ⟨h1, h2, Ris.filter p h3⟩
    · rw [List.filter_cons_of_neg h]; exact Ris.low (by omega) (Ris.filter p h3)
theorem ris_ge {n : Int} : ∀ {lo : Int} {s : List Int}, Ris n lo s → ∀ x ∈ s, lo ≤ x
  | _, [], _, x, hx => by cases hx
  | lo, y :: s, ⟨h1, h2, h3⟩, x, hx => by
    rcases List.mem_cons.1 hx with rfl | hx
    · exact h1
    · have := ris_ge h3 x hx
      omega
theorem ris_nodup {n : Int} : ∀ {lo : Int} {s : List Int}, Ris n lo s → s.Nodup
  | _, [], _ => List.nodup_nil
  | lo, x :: s, ⟨h1, h2, h3⟩ => List.nodup_cons.2 ⟨fun h => by have := ris_ge h3 x h; omega, ris_nodup h3⟩
theorem nodup_map_on {α β : Type} {f : α → β} : ∀ {l : List α}, l.Nodup → (∀ x ∈ l, ∀ y ∈ l, f x = f y → x = y) → (l.map f).Nodup
  | [], _, _ => List.nodup_nil
  | a :: l, h, hi => by
    obtain ⟨h1, h2⟩ := List.nodup_cons.1 h
    rw [List.map_cons]
    refine List.nodup_cons.2 ⟨fun hm => ?_, nodup_map_on h2 fun x hx y hy => hi x (by simp [hx]) y (by simp [hy])⟩
    obtain ⟨b, hb, e⟩ := List.mem_map.1 hm
    obtain rfl := hi b (by simp [hb]) a (by simp) e
    exact h1 hb
/-- The marks of s under f, in order. -/
def renS (n : Nat) (g : Nat → Nat) (s : List Int) : List Int := (fullL n).filter fun y => s.contains ((g y.toNat : Nat) : Int)
theorem renS_ris (n : Nat) (g : Nat → Nat) (s : List Int) : Ris n 0 (renS n g s) := Ris.filter _ (ris_full n)
theorem renS_mem {n : Nat} {f g : Nat → Nat} (hf : ∀ i, i < n → f i < n) (gf : ∀ i, i < n → g (f i) = i) {s : List Int} {a : Nat} (ha : a < n) (h : (a : Int) ∈ s) : (f a : Int) ∈ renS n g s := by
  unfold renS
  refine List.mem_filter.2 ⟨mem_full (hf a ha), ?_⟩
  rw [Int.toNat_natCast, gf a ha]
  simpa using h
theorem renS_len {n : Nat} {f g : Nat → Nat} (fg : ∀ i, i < n → f (g i) = i) (s : List Int) : (renS n g s).length ≤ s.length := by
  have hr := renS_ris n g s
  have hb : ∀ x ∈ renS n g s, 0 ≤ x ∧ x < (n : Int) := ris_mem (Int.le_refl _) hr
  have := nodup_sub ((renS n g s).map fun y => ((g y.toNat : Nat) : Int)) s (nodup_map_on (ris_nodup hr) fun x hx y hy e => by
    have hx := hb x hx
    have hy := hb y hy
    have e2 : g x.toNat = g y.toNat := Int.ofNat.inj e
    have e3 := congrArg f e2
    rw [fg _ (by omega), fg _ (by omega)] at e3
    omega) fun z hz => by
      obtain ⟨y, hy, rfl⟩ := List.mem_map.1 hz
      simpa using (List.mem_filter.1 hy).2
  simpa using this
section
variable {n : Nat} {E E' : Nat → Nat → Bool} {M M' : Mt} {f g : Nat → Nat} {s : List Int}
theorem res_ne (h : resP n M s = true) {x y : Nat} (hx : x < n) (hy : y < n) (hxy : x ≠ y) : ∃ a ∈ s, M x a.toNat ≠ M y a.toNat := by
  have key : ∀ x y, x < y → y < n → ∃ a ∈ s, M x a.toNat ≠ M y a.toNat := fun x y h1 h2 => by
    have h3 := resP_iff.1 h x y h1 h2
    rw [Ne, codeL_eq] at h3
    by_cases h4 : ∃ a ∈ s, M x a.toNat ≠ M y a.toNat
    · exact h4
    · exact absurd (fun a ha => by
        by_cases h5 : M x a.toNat = M y a.toNat
        · exact h5
        · exact absurd ⟨a, ha, h5⟩ h4) h3
  rcases Nat.lt_or_gt_of_ne hxy with h1 | h1
  · exact key x y h1 hy
  · obtain ⟨a, ha, h2⟩ := key y x h1 hx
    exact ⟨a, ha, fun e => h2 e.symm⟩
theorem sep_symm {u v : Nat} : sepP M u v s = true ↔ sepP M v u s = true := by
  rw [sep_iff, sep_iff]
  constructor <;> rintro ⟨a, ha, b, hb, h⟩ <;> exact ⟨a, ha, b, hb, by omega⟩
theorem dbl_ne (h : dblP n M s = true) {x y : Nat} (hx : x < n) (hy : y < n) (hxy : x ≠ y) : sepP M x y s = true := by
  rcases Nat.lt_or_gt_of_ne hxy with h1 | h1
  · exact sep_symm.1 (dblP_iff.1 h y x h1 hy)
  · exact dblP_iff.1 h x y h1 hx
theorem Ren.ne (R : Ren n E E' f g) {x y : Nat} (hx : x < n) (hy : y < n) (h : x ≠ y) : g x ≠ g y := fun e => h (by rw [← R.fg x hx, ← R.fg y hy, e])
theorem Ren.at (R : Ren n E E' f g) (h : Met n E M) (h' : Met n E' M') {x a : Nat} (hx : x < n) (ha : a < n) : M' x (f a) = M (g x) a := by
  have := R.eq h h' (R.hg x hx) ha
  rwa [R.fg x hx] at this
theorem Ren.res (R : Ren n E E' f g) (h : Met n E M) (h' : Met n E' M') (hs : Ris n 0 s) (hr : resP n M s = true) : resP n M' (renS n g s) = true := by
  rw [resP_iff]
  intro x y hxy hy e
  rw [codeL_eq] at e
  obtain ⟨a, ha, hne⟩ := res_ne hr (R.hg x (by omega)) (R.hg y hy) (R.ne (by omega) hy (by omega))
  have hb := ris_mem (Int.le_refl _) hs a ha
  obtain ⟨A, rfl⟩ : ∃ A : Nat, a = A := ⟨a.toNat, by omega⟩
  have h2 := e _ (renS_mem R.hf R.gf (by omega) ha)
  rw [Int.toNat_natCast] at h2 hne
  rw [R.at h h' (by omega) (by omega), R.at h h' hy (by omega)] at h2
  exact hne h2
theorem Ren.dbl (R : Ren n E E' f g) (h : Met n E M) (h' : Met n E' M') (hs : Ris n 0 s) (hr : dblP n M s = true) : dblP n M' (renS n g s) = true := by
  rw [dblP_iff]
  intro u v hv hu
  obtain ⟨a, ha, b, hb, hne⟩ := sep_iff _ _ |>.1 (dbl_ne hr (R.hg u hu) (R.hg v (by omega)) (R.ne hu (by omega) (by omega)))
  have h1 := ris_mem (Int.le_refl _) hs a ha
  have h2 := ris_mem (Int.le_refl _) hs b hb
  obtain ⟨A, rfl⟩ : ∃ A : Nat, a = A := ⟨a.toNat, by omega⟩
  obtain ⟨B, rfl⟩ : ∃ B : Nat, b = B := ⟨b.toNat, by omega⟩
  rw [sep_iff]
  refine ⟨_, renS_mem R.hf R.gf (by omega) ha, _, renS_mem R.hf R.gf (by omega) hb, ?_⟩
  rw [Int.toNat_natCast, Int.toNat_natCast] at hne ⊢
  rw [R.at h h' hu (by omega), R.at h h' (by omega) (by omega), R.at h h' hu (by omega), R.at h h' (by omega) (by omega)]
  exact hne
end
end Go.Proofs.YtbeimdngghedjaaDoor.Pure
