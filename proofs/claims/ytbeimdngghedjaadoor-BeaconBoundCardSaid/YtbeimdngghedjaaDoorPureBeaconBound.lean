/- A graph whose distances are at most D has at most k + D^k vertices, where k marks resolve it: for all graphs and marks that are derived. -/
import Derived.Test.YtbeimdngghedjaaDoorPF9
import Derived.Test.YtbeimdngghedjaaDoorPL
namespace Go.Proofs.YtbeimdngghedjaaDoor.Pure
open Go Go.Proofs Go.RowKit Go.Proofs.YtbeimdngghedjaaDoor.P Go.Proofs.YtbeimdngghedjaaDoorW.PrintWords Go.Proofs.YtbeimdngghedjaaDoorW.PrintLast
set_option linter.unusedVariables false
/-- All lists of a length over 1 .. F. -/
def codesOver (F : Nat) : Nat → List (List Int)
  | 0 => [[]]
  | k + 1 => (List.range F).flatMap fun x => (codesOver F k).map fun c => ((x + 1 : Nat) : Int) :: c
theorem over_len (F : Nat) : ∀ k, (codesOver F k).length = F ^ k
  | 0 => rfl
  | k + 1 => by
    have : ∀ (l : List Nat), (l.flatMap fun x => (codesOver F k).map fun c => ((x + 1 : Nat) : Int) :: c).length = l.length * F ^ k := by
      intro l
      induction l with
      | nil => simp
      | cons a l ih => rw [List.flatMap_cons, List.length_append, ih, List.length_map, over_len F k, List.length_cons, Nat.add_mul, Nat.one_mul, Nat.add_comm]
    simp only [codesOver]
    rw [this, List.length_range, Nat.pow_succ, Nat.mul_comm]
theorem over_mem {F : Nat} : ∀ (c : List Int), (∀ x ∈ c, 1 ≤ x ∧ x ≤ F) → c ∈ codesOver F c.length
  | [], _ => List.mem_singleton.2 rfl
  | x :: c, h => by
    have hx := h x (by simp)
    have ih := over_mem c fun y hy => h y (by simp [hy])
    simp only [List.length_cons, codesOver]
    refine List.mem_flatMap.2 ⟨(x - 1).toNat, List.mem_range.2 (by omega), List.mem_map.2 ⟨c, ih, ?_⟩⟩
    rw [show (((x - 1).toNat + 1 : Nat) : Int) = x by omega]
theorem bound_is {n : Nat} {E : Nat → Nat → Bool} {M : Mt} {m : List Int} {F : Nat} (hM : Met n E M) (hm : Ris n 0 m) (hr : resP n M m = true) (hF : ∀ v w, v < n → w < n → M v w ≤ F) : n ≤ m.length + F ^ m.length := by
  have bm := ris_mem (Int.le_refl _) hm
  have hU := ris_nodup (Ris.filter (fun x => !m.contains x) (ris_full n))
  have bU : ∀ x ∈ (fullL n).filter (fun x => !m.contains x), (0 ≤ x ∧ x < (n : Int)) ∧ x ∉ m := fun x hx => by
    have a := ris_mem (Int.le_refl _) (ris_full n) x (List.mem_filter.1 hx).1
    have b := (List.mem_filter.1 hx).2
    exact ⟨a, by simpa using b⟩
  generalize hUe : (fullL n).filter (fun x => !m.contains x) = U at hU bU
  have h1 : n ≤ m.length + U.length := by
    have := nodup_sub (fullL n) (m ++ U) (ris_nodup (ris_full n)) fun x hx => by
      by_cases h : x ∈ m
      · exact List.mem_append.2 (.inl h)
      · refine List.mem_append.2 (.inr ?_)
        rw [← hUe]
        exact List.mem_filter.2 ⟨hx, by simpa using h⟩
    simpa [fullL] using this
  have h2 := nodup_sub (U.map fun x => codeL M x.toNat m) (codesOver F m.length) (nodup_map_on hU fun x hx y hy e => by
    obtain ⟨⟨x0, x1⟩, _⟩ := bU x hx
    obtain ⟨⟨y0, y1⟩, _⟩ := bU y hy
    by_cases hxy : x.toNat = y.toNat
    · omega
    · obtain ⟨a, ha, hne⟩ := res_ne hr (x := x.toNat) (y := y.toNat) (by omega) (by omega) hxy
      exact absurd ((codeL_eq x.toNat y.toNat).1 e a ha) hne) fun c hc => by
    obtain ⟨x, hx, rfl⟩ := List.mem_map.1 hc
    obtain ⟨⟨x0, x1⟩, x2⟩ := bU x hx
    rw [← codeL_len (M := M) (m := m) x.toNat]
    refine over_mem _ fun y hy => ?_
    obtain ⟨a, ha, rfl⟩ := List.mem_map.1 (show y ∈ m.map fun x' => M x.toNat x'.toNat from hy)
    obtain ⟨a0, a1⟩ := bm a ha
    refine ⟨hM.ne (by omega) (by omega) fun e => x2 ?_, hF _ _ (by omega) (by omega)⟩
    rw [show x = a by omega]; exact ha
  rw [over_len, List.length_map] at h2
  omega
/-- The power, at most 1000. -/
def capP (F k : Nat) : Nat := min (F ^ k) 1000
theorem capP_succ (F k : Nat) : capP F (k + 1) = min (capP F k * F) 1000 := by
  unfold capP
  rw [Nat.pow_succ]
  generalize F ^ k = p
  by_cases h : p ≤ 1000
  · rw [show min p 1000 = p from Nat.min_eq_left h]
  · rw [show min p 1000 = 1000 from Nat.min_eq_right (by omega)]
    by_cases hF : F = 0
    · subst hF; simp
    · have a : 1000 ≤ p * F := Nat.le_trans (by omega) (Nat.le_mul_of_pos_right p (by omega))
      have b : 1000 ≤ 1000 * F := Nat.le_mul_of_pos_right 1000 (by omega)
      rw [Nat.min_eq_right a, Nat.min_eq_right b]
section
variable {n : Nat} {E : Nat → Nat → Bool} {M : Mt} {m : List Int}
theorem bd_l2 (hM : Met n E M) (hm : Ris n 0 m) {F : Nat} (hF9 : F ≤ 9) (hF : ∀ v w, v < n → w < n → M v w ≤ F) : Ev (fun k => wogglelaw07_BeaconBound.l2 k n m (resP n M m) F 1 0) true := by
  have hlen := ris_len hm (by omega)
  have hn := hM.n10
  refine up_ind (fun i => Ev (fun k => wogglelaw07_BeaconBound.l2 k n m (resP n M m) F (capP F i : Nat) (i : Int)) true) m.length ?_ ?_
  · have hcap : capP F m.length ≤ 1000 := Nat.min_le_right _ _
    refine Ev.step (f := fun _ => some true) (fun k => ?_) (Ev.now _)
    simp only [wogglelaw07_BeaconBound.l2]
    rw [if_neg (Int.lt_irrefl _)]
    by_cases hr : resP n M m = true
    · rw [if_pos hr, IntWalk.wrap64_in _ (by omega)]
      have := bound_is hM hm hr hF
      have h2 : n ≤ m.length + capP F m.length := by unfold capP; omega
      rw [decide_eq_true (by omega)]
    · rw [if_neg hr]
  · intro i hi ih
    have hcap : capP F i ≤ 1000 := Nat.min_le_right _ _
    have hmul : capP F i * F ≤ 1000 * 9 := Nat.mul_le_mul hcap hF9
    refine Ev.step (fun k => ?_) ih
    simp only [wogglelaw07_BeaconBound.l2]
    have e : ((capP F i : Nat) : Int) * (F : Int) = ((capP F i * F : Nat) : Int) := (Int.natCast_mul _ _).symm
    rw [if_pos (by omega), e, IntWalk.wrap64_in _ (by omega), succ_w i (by omega), capP_succ]
    have : mn ((capP F i * F : Nat) : Int) 1000 = ((min (capP F i * F) 1000 : Nat) : Int) := by unfold mn; split <;> omega
    rw [this]
theorem bd_l1 (hM : Met n E M) {v : Nat} (hv : v < n) {r : Bool} : ∀ (d w F : Nat), w + d = n → F ≤ 9 → (∀ x, x < w → M v x ≤ F) → (∀ u x, u < v → x < n → M u x ≤ F) →
    (∀ F' : Nat, F' ≤ 9 → (∀ u x, u < v + 1 → x < n → M u x ≤ F') → Ev (fun k => wogglelaw07_BeaconBound.l0 k n m (resP n M m) (rowsA n M) F' 1 ((v + 1 : Nat) : Int)) r) →
    Ev (fun k => wogglelaw07_BeaconBound.l1 k n m (resP n M m) (rowsA n M) F 1 v w) r
  | 0, w, F, hd, hF, h1, h2, cont => by
    have hn := hM.n10
    have q : ((rd_L5 (rowsA n M) (v : Int)).length : Int) = n := by rw [row_at v hv]; simp
    refine Ev.step (fun k => ?_) (cont F hF fun u x hu hx => by
      by_cases e : u = v
      · subst e; exact h1 x (by omega)
      · exact h2 u x (by omega) hx)
    simp only [wogglelaw07_BeaconBound.l1]
    rw [if_pos (by omega), if_pos (by simp [rowsA]; omega), if_neg (by rw [q]; omega), succ_w v (by omega)]
  | d + 1, w, F, hd, hF, h1, h2, cont => by
    have hn := hM.n10
    have hw : w < n := by omega
    have q : ((rd_L5 (rowsA n M) (v : Int)).length : Int) = n := by rw [row_at v hv]; simp
    have hp := hM.pos hv hw
    have hl := hM.lt v w hv hw
    have e : mx (F : Int) (M v w) = ((max F (M v w).toNat : Nat) : Int) := by unfold mx; split <;> omega
    refine Ev.step (fun k => ?_) (bd_l1 hM hv d (w + 1) (max F (M v w).toNat) (by omega) (by omega) (fun x hx => by
      by_cases e : x = w
      · subst e; omega
      · have := h1 x (by omega); omega) (fun u x hu hx => by have := h2 u x hu hx; omega) cont)
    simp only [wogglelaw07_BeaconBound.l1]
    rw [if_pos (by omega), if_pos (by simp [rowsA]; omega), if_pos (by rw [q]; omega), if_pos (by omega), row_at v hv, cell_at_ v _ (by omega) (by omega), Int.toNat_natCast, e, succ_w w (by omega)]
theorem bd_l0 (hM : Met n E M) (hm : Ris n 0 m) : ∀ (d v F : Nat), v + d = n → F ≤ 9 → (∀ u x, u < v → x < n → M u x ≤ F) → Ev (fun k => wogglelaw07_BeaconBound.l0 k n m (resP n M m) (rowsA n M) F 1 v) true
  | 0, v, F, hd, hF, h2 => by
    refine Ev.step (fun k => ?_) (bd_l2 hM hm hF fun u x hu hx => h2 u x (by omega) hx)
    simp only [wogglelaw07_BeaconBound.l0]
    rw [if_neg (by omega)]
  | d + 1, v, F, hd, hF, h2 => by
    refine Ev.step (fun k => ?_) (bd_l1 hM (v := v) (by omega) n 0 F (by omega) hF (fun x hx => by omega) h2 fun F' a b => bd_l0 hM hm d (v + 1) F' (by omega) a b)
    simp only [wogglelaw07_BeaconBound.l0]
    rw [if_pos (by omega)]; rfl
end
theorem BeaconBound : wogglelaw07_BeaconBound.Pure := by
  intro l0 a1 hl0 ha1
  obtain ⟨N, l, hm, hev⟩ := made_ev (x := l0) (fun e he => u8_pair (hl0.2 e he))
  obtain ⟨m, hmr, hmev⟩ := marks_ev hm.n10 ha1
  have hr := hm.readOk
  have hn := hm.n10
  have hd : beacon_Distances.f N l = some (rowsA N (finalM N l), 0) := by unfold beacon_Distances.f; rw [if_pos hr, Int.toNat_natCast]
  have key : Ev (fun k => wogglelaw07_BeaconBound.f k l0 a1) true := by
    unfold wogglelaw07_BeaconBound.f
    refine Ev.bind hev (Ev.bind hmev (Ev.bind (resolves_ev hr hn hmr) ?_))
    simp only [hd, Option.bind_some, if_true]
    refine ev_pos (by simp [rowsA]) (Ev.bind lives_ev ?_)
    refine Ev.step (fun k => ?_) (bd_l0 (met_of hr) hmr N 0 0 (by omega) (by omega) fun u x hu _ => by omega)
    simp only [wogglelaw07_BeaconBound.j0]
    rw [if_neg (by decide)]; rfl
  obtain ⟨K, h⟩ := key
  exact ⟨K, h K (Nat.le_refl _)⟩
end Go.Proofs.YtbeimdngghedjaaDoor.Pure
