/- Plain facts on codes, on what is confused, and on what is doubly resolved. -/
import Derived.Test.YtbeimdngghedjaaDoorRT
import Derived.Test.YtbeimdngghedjaaDoorBX
import Derived.Test.YtbeimdngghedjaaDoorBH
import Derived.Test.YtbeimdngghedjaaDoorPF49
namespace Go.Proofs.YtbeimdngghedjaaDoor.Pure
open Go Go.Proofs Go.RowKit Go.Proofs.YtbeimdngghedjaaDoor.P Go.Proofs.YtbeimdngghedjaaDoorW.PrintWords Go.Proofs.YtbeimdngghedjaaDoorW.PrintLast
set_option linter.unusedVariables false

/-- A graph, told. -/
def Gr (n : Nat) (E : Nat → Nat → Bool) (M : Mt) : List S82 := [⟨n, rowsE n E, rowsA n M⟩]
/-- Landmarks that are vertices. -/
def Mk (n : Nat) (m : List Int) : Prop := m.length ≤ 1000000 ∧ ∀ x ∈ m, 0 ≤ x ∧ x < (n : Int)
def codeL (M : Mt) (v : Nat) (m : List Int) : List Int := m.map fun x => M v x.toNat
section
variable {n : Nat} {E : Nat → Nat → Bool} {M : Mt} {m : List Int}
theorem gr0 : rd_T82 (Gr n E M) 0 = ⟨n, rowsE n E, rowsA n M⟩ := rfl
theorem row_at (v : Nat) (hv : v < n) : rd_L5 (rowsA n M) (v : Int) = (List.range n).map (M v) := by unfold rd_L5 rowsA; simp [hv]
theorem rowE_at (v : Nat) (hv : v < n) : rd_L3 (rowsE n E) (v : Int) = (List.range n).map (E v) := by unfold rd_L3 rowsE; simp [hv]
theorem cell_at_ (v : Nat) (x : Int) (h0 : 0 ≤ x) (hx : x < (n : Int)) : rd ((List.range n).map (M v)) x = M v x.toNat := by
  have : x.toNat < n := by omega
  unfold rd; simp [this]
theorem code_ev (hn : n ≤ 10) (hm : Mk n m) (v : Nat) (hv : v < n) : Ev (fun k => beacon_graph_code.f k (Gr n E M) (v : Int) m) (codeL M v m) := by
  unfold beacon_graph_code.f
  have key := up_ind (fun i => Ev (fun k => beacon_graph_code.l0 k (Gr n E M) (v : Int) (codeL M v (m.take i)) m (m.length : Int) (i : Int)) (codeL M v m)) m.length ?_ ?_
  · exact key
  · refine Ev.step (f := fun _ => some (codeL M v m)) (fun k => ?_) (Ev.now _)
    simp only [beacon_graph_code.l0]
    rw [if_neg (Int.lt_irrefl _), List.take_length]
  · intro i hi ih
    have hml := hm.1
    have p1 : (i : Int) < m.length := by omega
    have p2 : (0 : Int) ≤ i := by omega
    obtain ⟨b0, b1⟩ := hm.2 _ (List.getElem_mem hi)
    have q1 : (v : Int) < (((rd_T82 (Gr n E M) 0).f2).length : Int) := by rw [gr0]; simp [rowsA]; omega
    have q2 : (0 : Int) ≤ (v : Int) := by omega
    have q3 : (0 : Int) < ((Gr n E M).length : Int) := by simp [Gr]
    have q4 : m[i] < ((rd_L5 (rowsA n M) (v : Int)).length : Int) := by rw [row_at v hv]; simp; omega
    have q5 : (codeL M v (m.take i)).length < 17592186044416 := by unfold codeL; rw [List.length_map, List.length_take]; omega
    refine Ev.step (fun k => ?_) ih
    simp only [beacon_graph_code.l0]
    rw [if_pos p1, if_pos p2, if_pos p1, if_pos q3, if_pos q2, if_pos q1, rd_nat m i hi, if_pos b0, gr0, if_pos q4, if_pos q5, succ_w i (by omega), row_at v hv, cell_at_ v _ b0 b1, take_up m i hi]
    unfold codeL
    rw [List.map_append]
    rfl
theorem equal_ev (a b : List Int) (h : a.length = b.length) (hl : a.length ≤ 1000000) : Ev (fun k => slices_Equal_int_int.f k a b) (decide (a = b)) := by
  unfold slices_Equal_int_int.f
  refine Ev.congr (f := fun k => slices_Equal_int_int.l0 k a b (a.length : Int) 0) (fun k => if_pos (by omega)) ?_
  have key := up_ind (fun i => a.take i = b.take i → Ev (fun k => slices_Equal_int_int.l0 k a b (a.length : Int) (i : Int)) (decide (a = b))) a.length ?_ ?_
  · exact key rfl
  · intro he
    rw [List.take_length, h, List.take_length] at he
    refine Ev.step (f := fun _ => some (decide (a = b))) (fun k => ?_) (Ev.now _)
    simp only [slices_Equal_int_int.l0]
    rw [if_neg (Int.lt_irrefl _), decide_eq_true he]
  · intro i hi ih he
    have p1 : (i : Int) < a.length := by omega
    have p2 : (0 : Int) ≤ i := by omega
    have p3 : (i : Int) < b.length := by omega
    by_cases hx : a[i] = b[i]'(by omega)
    · refine Ev.step (fun k => ?_) (ih (by rw [take_up a i hi, take_up b i (by omega), he, hx]))
      simp only [slices_Equal_int_int.l0]
      rw [if_pos p1, if_pos p2, if_pos p1, if_pos p3, rd_nat a i hi, rd_nat b i (by omega), if_pos hx, succ_w i (by omega)]
    · refine Ev.step (f := fun _ => some (decide (a = b))) (fun k => ?_) (Ev.now _)
      simp only [slices_Equal_int_int.l0]
      have hne : ¬ a = b := fun e => hx (by simp only [e])
      rw [if_pos p1, if_pos p2, if_pos p1, if_pos p3, rd_nat a i hi, rd_nat b i (by omega), if_neg hx, decide_eq_false hne]
/-- The first v that is confused with u. -/
def cfV (M : Mt) (m : List Int) (u : Nat) : Nat → Nat → Option Nat
  | 0, _ => none
  | d + 1, v => if codeL M u m = codeL M v m then some v else cfV M m u d (v + 1)
/-- The first two that are confused. -/
def cfU (M : Mt) (m : List Int) (n : Nat) : Nat → Nat → Int × Int
  | 0, _ => (-1, -1)
  | d + 1, u => match cfV M m u (n - (u + 1)) (u + 1) with
    | some v => ((u : Int), (v : Int))
    | none => cfU M m n d (u + 1)
def confF (n : Nat) (M : Mt) (m : List Int) : Int × Int := cfU M m n n 0
theorem codeL_len (v : Nat) : (codeL M v m).length = m.length := by unfold codeL; simp
theorem conf_ev (hn : n ≤ 10) (hm : Mk n m) : Ev (fun k => beacon_graph_confused.f k (Gr n E M) m) (confF n M m) := by
  unfold beacon_graph_confused.f
  have q3 : (0 : Int) < ((Gr n E M).length : Int) := by simp [Gr]
  refine Ev.congr (f := fun k => beacon_graph_confused.l0 k (Gr n E M) m (n : Int) 0) (fun k => by rw [if_pos q3, gr0]) ?_
  have key := up_ind (fun u => Ev (fun k => beacon_graph_confused.l0 k (Gr n E M) m (n : Int) (u : Int)) (cfU M m n (n - u) u)) n ?_ ?_
  · exact key
  · refine Ev.step (f := fun _ => some (((-1 : Int)), (-1 : Int))) (fun k => ?_) ?_
    · simp only [beacon_graph_confused.l0]
      rw [if_neg (Int.lt_irrefl _)]
    · rw [Nat.sub_self]; exact Ev.now _
  · intro u hu ih
    have p1 : (u : Int) < (n : Int) := by omega
    refine Ev.step (f := fun k => beacon_graph_confused.l1 k (Gr n E M) m (u : Int) ((u + 1 : Nat) : Int) (n : Int) (u : Int)) (fun k => ?_) ?_
    · simp only [beacon_graph_confused.l0]
      rw [if_pos p1, succ_w u (by omega)]
    have inner := up_from (fun v => Ev (fun k => beacon_graph_confused.l1 k (Gr n E M) m (u : Int) (v : Int) (n : Int) (u : Int)) (match cfV M m u (n - v) v with | some x => ((u : Int), (x : Int)) | none => cfU M m n (n - (u + 1)) (u + 1))) (u + 1) n (by omega) ?_ ?_
    · rw [show n - u = (n - (u + 1)) + 1 by omega]
      exact inner
    · refine Ev.step (fun k => ?_) (show Ev (fun k => beacon_graph_confused.l0 k (Gr n E M) m (n : Int) ((u + 1 : Nat) : Int)) (match cfV M m u (n - n) n with | some x => ((u : Int), (x : Int)) | none => cfU M m n (n - (u + 1)) (u + 1)) by rw [Nat.sub_self]; exact ih)
      simp only [beacon_graph_confused.l1]
      rw [if_pos q3, gr0, if_neg (Int.lt_irrefl _), succ_w u (by omega)]
    · intro v hv1 hv ih2
      have r1 : (v : Int) < (n : Int) := by omega
      refine Ev.step (f := fun k => (beacon_graph_code.f k (Gr n E M) (u : Int) m).bind fun a => (beacon_graph_code.f k (Gr n E M) (v : Int) m).bind fun b => (slices_Equal_int_int.f k a b).bind fun t => if t = true then some ((u : Int), (v : Int)) else beacon_graph_confused.l1 k (Gr n E M) m (u : Int) ((v + 1 : Nat) : Int) (n : Int) (u : Int)) (fun k => ?_) ?_
      · simp only [beacon_graph_confused.l1]
        rw [if_pos q3, gr0, if_pos r1, succ_w v (by omega)]
      refine Ev.bind (code_ev hn hm u hu) (Ev.bind (code_ev hn hm v (by omega)) (Ev.bind (equal_ev _ _ (by rw [codeL_len, codeL_len]) (by rw [codeL_len]; exact hm.1)) ?_))
      rw [show n - v = (n - (v + 1)) + 1 by omega]
      by_cases he : codeL M u m = codeL M v m
      · rw [decide_eq_true he]
        simp only [cfV]
        rw [if_pos he]
        exact Ev.congr (fun _ => if_pos trivial) (Ev.now _)
      · rw [decide_eq_false he]
        simp only [cfV]
        rw [if_neg he]
        exact Ev.congr (fun _ => if_neg (by decide)) ih2
theorem cfV_none (u : Nat) : ∀ (d v : Nat), cfV M m u d v = none ↔ ∀ x, v ≤ x → x < v + d → codeL M u m ≠ codeL M x m
  | 0, v => ⟨fun _ x h1 h2 => by omega, fun _ => rfl⟩
  | d + 1, v => by
    simp only [cfV]
    by_cases he : codeL M u m = codeL M v m
    · rw [if_pos he]
      exact ⟨(fun h => by cases h), fun h => absurd he (h v (Nat.le_refl _) (by omega))⟩
    · rw [if_neg he, cfV_none u d (v + 1)]
      refine ⟨fun h x h1 h2 => ?_, fun h x h1 h2 => h x (by omega) (by omega)⟩
      by_cases hx : x = v
      · subst hx; exact he
      · exact h x (by omega) (by omega)
theorem cfV_some (u : Nat) : ∀ (d v x : Nat), cfV M m u d v = some x → v ≤ x ∧ x < v + d ∧ codeL M u m = codeL M x m ∧ ∀ y, v ≤ y → y < x → codeL M u m ≠ codeL M y m
  | 0, v, x, h => by cases h
  | d + 1, v, x, h => by
    simp only [cfV] at h
    by_cases he : codeL M u m = codeL M v m
    · rw [if_pos he] at h
      obtain rfl := Option.some.inj h
      exact ⟨Nat.le_refl _, by omega, he, fun y h1 h2 => by omega⟩
    · rw [if_neg he] at h
      obtain ⟨h1, h2, h3, h4⟩ := cfV_some u d (v + 1) x h
      refine ⟨by omega, by omega, h3, fun y hy1 hy2 => ?_⟩
      by_cases hy : y = v
      · subst hy; exact he
      · exact h4 y (by omega) hy2
theorem cfU_spec (n : Nat) : ∀ (d u : Nat), u + d = n → (cfU M m n d u = (-1, -1) ∧ ∀ x y, u ≤ x → x < y → y < n → codeL M x m ≠ codeL M y m) ∨
    ∃ x y : Nat, cfU M m n d u = ((x : Int), (y : Int)) ∧ u ≤ x ∧ x < y ∧ y < n ∧ codeL M x m = codeL M y m ∧ ∀ a b, u ≤ a → a < b → b < n → (a < x ∨ a = x ∧ b < y) → codeL M a m ≠ codeL M b m
  | 0, u, h => .inl ⟨rfl, fun x y h1 h2 h3 => by omega⟩
  | d + 1, u, h => by
    simp only [cfU]
    cases hv : cfV M m u (n - (u + 1)) (u + 1) with
    | some v =>
      obtain ⟨h1, h2, h3, h4⟩ := cfV_some u _ _ _ hv
      refine .inr ⟨u, v, rfl, Nat.le_refl _, by omega, by omega, h3, fun a b ha hab hb hlt => ?_⟩
      rcases hlt with hlt | ⟨rfl, hlt⟩
      · omega
      · exact h4 b (by omega) hlt
    | none =>
      have h0 := (cfV_none u _ _).1 hv
      rcases cfU_spec n d (u + 1) (by omega) with ⟨h1, h2⟩ | ⟨x, y, h1, h2, h3, h4, h5, h6⟩
      · refine .inl ⟨h1, fun x y hx hxy hy => ?_⟩
        by_cases hxu : x = u
        · subst hxu; exact h0 y (by omega) (by omega)
        · exact h2 x y (by omega) hxy hy
      · refine .inr ⟨x, y, h1, by omega, h3, h4, h5, fun a b ha hab hb hlt => ?_⟩
        by_cases hau : a = u
        · subst hau; exact h0 b (by omega) (by omega)
        · exact h6 a b (by omega) hab hb hlt
/-- Do landmarks resolve? -/
def resP (n : Nat) (M : Mt) (m : List Int) : Bool := (confF n M m).1 == (-1) && ((confF n M m).2 == (-1))
theorem resP_iff : resP n M m = true ↔ ∀ x y, x < y → y < n → codeL M x m ≠ codeL M y m := by
  unfold resP confF
  rcases cfU_spec (M := M) (m := m) n n 0 (by omega) with ⟨h1, h2⟩ | ⟨x, y, h1, h2, h3, h4, h5, h6⟩
  · rw [h1]
    exact ⟨fun _ x y hxy hy => h2 x y (by omega) hxy hy, fun _ => rfl⟩
  · rw [h1]
    constructor
    · intro h
      simp only [Bool.and_eq_true, beq_iff_eq] at h
      omega
    · intro h
      exact absurd h5 (h x y h3 h4)
theorem res_ev (hn : n ≤ 10) (hm : Mk n m) : Ev (fun k => beacon_graph_resolves.f k (Gr n E M) m) (resP n M m) := by
  unfold beacon_graph_resolves.f
  exact Ev.bind (conf_ev hn hm) (Ev.now _)
end
end Go.Proofs.YtbeimdngghedjaaDoor.Pure
