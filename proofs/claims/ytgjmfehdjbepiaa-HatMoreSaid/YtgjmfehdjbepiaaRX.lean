/- How many guesses are right over all hats: n times the (n - 1)-th power of q, in plain Lean. -/
import Derived.Test.YtgjmfehdjbepiaaRW
namespace Go.Proofs.Ytgjmfehdjbepiaa.Pure
open Go Go.Proofs Go.RowKit Go.Proofs.Ytgjmfehdjbepiaa.P Go.Proofs.YtgjmfehdjbepiaaW.PrintWords Go.Proofs.YtgjmfehdjbepiaaW.PrintLast Go.Proofs.YtgjmfehdjbepiaaW.PrintMore
set_option maxRecDepth 100000

/-- All lists of n numbers below m, in lexicographic order. -/
def allL (m : Nat) : Nat → List (List Int)
  | 0 => [[]]
  | n + 1 => (List.range m).flatMap fun c : Nat => (allL m n).map fun r => (c : Int) :: r
theorem range_mul (N : Nat) : ∀ m : Nat, List.range (m * N) = (List.range m).flatMap fun c => (List.range N).map fun y => c * N + y
  | 0 => by simp
  | m + 1 => by rw [Nat.succ_mul, List.range_add, range_mul N m, List.range_succ, List.flatMap_append]; simp
theorem digs_top (q : Nat) (hq : 1 ≤ q) : ∀ (n : Nat) (c y : Nat), c < q → y < q ^ n → digs q (n + 1) ((c * q ^ n + y : Nat) : Int) = digs q n (y : Int) ++ [(c : Int)]
  | 0, c, y, hc, hy => by
    have : y = 0 := by simpa using hy
    subst this
    simp only [digs, Nat.pow_zero, Nat.mul_one, Nat.add_zero, List.nil_append]
    rw [Int.emod_eq_of_lt (by omega) (by omega)]
  | n + 1, c, y, hc, hy => by
    have ih := digs_top q hq n c (y / q) hc (by rw [Nat.pow_succ] at hy; exact Nat.div_lt_of_lt_mul (by rw [Nat.mul_comm]; exact hy))
    have e1 : ((c * q ^ (n + 1) + y : Nat) : Int) % (q : Int) = (y : Int) % q := by
      rw [← Int.natCast_emod, ← Int.natCast_emod, Nat.pow_succ, ← Nat.mul_assoc, Nat.add_comm, Nat.add_mul_mod_self_right]
    have e2 : ((c * q ^ (n + 1) + y : Nat) : Int) / (q : Int) = ((c * q ^ n + y / q : Nat) : Int) := by
      rw [← Int.natCast_ediv, Nat.pow_succ, ← Nat.mul_assoc, Nat.add_comm, Nat.add_mul_div_right _ _ (by omega), Nat.add_comm]
    rw [digs, e1, e2, ih, digs, ← Int.natCast_ediv, List.cons_append]
theorem allHats_eq (q : Nat) (hq : 1 ≤ q) : ∀ n : Nat, allHats n q = allL q n
  | 0 => by simp [allHats, allL, digs]
  | n + 1 => by
    have ih := allHats_eq q hq n
    unfold allHats at ih ⊢
    have ep : ∀ k : Nat, ((q : Int) ^ k).toNat = q ^ k := fun k => by rw [← Int.natCast_pow]; rfl
    rw [ep] at ih ⊢
    rw [allL, ← ih, Nat.pow_succ, Nat.mul_comm, range_mul, List.map_flatMap]
    have : ∀ c ∈ List.range q, ((List.range (q ^ n)).map fun y => c * q ^ n + y).map (fun x : Nat => (digs q (n + 1) x).reverse) = ((List.range (q ^ n)).map fun x : Nat => (digs q n x).reverse).map fun r => (c : Int) :: r := by
      intro c hc
      rw [List.map_map, List.map_map]
      apply List.map_congr_left
      intro y hy
      simp only [Function.comp]
      rw [digs_top q hq n c y (List.mem_range.1 hc) (List.mem_range.1 hy), List.reverse_append]; rfl
    have e : ∀ (l : List Nat) (f g : Nat → List (List Int)), (∀ c ∈ l, f c = g c) → l.flatMap f = l.flatMap g := by
      intro l f g h
      induction l with
      | nil => rfl
      | cons a l ih => rw [List.flatMap_cons, List.flatMap_cons, h a List.mem_cons_self, ih fun c hc => h c (List.mem_cons_of_mem _ hc)]
    exact e _ _ _ this
theorem allL_len (m : Nat) : ∀ n : Nat, (allL m n).length = m ^ n
  | 0 => rfl
  | n + 1 => by
    rw [allL, List.length_flatMap]
    have : ((List.range m).map fun c : Nat => ((allL m n).map fun r => (c : Int) :: r).length) = List.replicate m (m ^ n) := by
      rw [List.eq_replicate_iff]
      refine ⟨by simp, fun b hb => ?_⟩
      obtain ⟨c, _, rfl⟩ := List.mem_map.1 hb
      rw [List.length_map, allL_len m n]
    rw [this, List.sum_replicate_nat, Nat.pow_succ, Nat.mul_comm]
theorem ones (v : Int) (h0 : 0 ≤ v) : ∀ m : Nat, ((List.range m).map fun c : Nat => if v = (c : Int) then 1 else 0).sum = if v < m then 1 else 0
  | 0 => by simp; omega
  | m + 1 => by
    rw [range_succ_map, List.sum_append, ones v h0 m]
    simp only [List.sum_cons, List.sum_nil]
    by_cases h : v = (m : Int)
    · rw [if_pos h, if_neg (by omega), if_pos (by omega)]; rfl
    · rw [if_neg h]
      by_cases h2 : v < (m : Int)
      · rw [if_pos h2, if_pos (by omega)]; rfl
      · rw [if_neg h2, if_neg (by omega)]; rfl
theorem sum_map_add {α : Type} (f g : α → Nat) : ∀ l : List α, (l.map fun x => f x + g x).sum = (l.map f).sum + (l.map g).sum
  | [] => rfl
  | a :: l => by simp only [List.map_cons, List.sum_cons, sum_map_add f g l]; omega
theorem each_once {α : Type} (G : α → Int) (m : Nat) : ∀ L : List α, (∀ r ∈ L, 0 ≤ G r ∧ G r < m) → ((List.range m).map fun c : Nat => L.countP fun r => G r == (c : Int)).sum = L.length
  | [], _ => by
    simp only [List.countP_nil]
    rw [List.length_nil]
    have : ((List.range m).map fun _ : Nat => 0) = List.replicate m 0 := by rw [List.eq_replicate_iff]; simp
    rw [this, List.sum_replicate_nat, Nat.mul_zero]
  | r :: L, h => by
    have ih := each_once G m L fun x hx => h x (List.mem_cons_of_mem _ hx)
    have hr := h r List.mem_cons_self
    have e : ((List.range m).map fun c : Nat => (r :: L).countP fun r => G r == (c : Int)) = (List.range m).map fun c : Nat => (L.countP fun r => G r == (c : Int)) + (if G r = (c : Int) then 1 else 0) := by
      apply List.map_congr_left
      intro c _
      rw [List.countP_cons]
      simp only [beq_iff_eq]
    rw [e, sum_map_add, ih, ones _ hr.1, if_pos hr.2, List.length_cons]
theorem count_right (m : Nat) (hm : 1 ≤ m) : ∀ (n i : Nat) (g : List Int → Int), i ≤ n → (∀ h ∈ allL m (n + 1), 0 ≤ g h ∧ g h < m) → (∀ h ∈ allL m (n + 1), ∀ c : Nat, c < m → g (h.set i c) = g h) →
    (allL m (n + 1)).countP (fun h => g h == rd h i) = m ^ n := by
  intro n
  induction n with
  | zero =>
    intro i g hi hb hg
    obtain rfl : i = 0 := by omega
    have hmem : ∀ c : Nat, c < m → [(c : Int)] ∈ allL m 1 := fun c hc => by
      simp only [allL, List.mem_flatMap, List.mem_map, List.mem_range]
      exact ⟨c, hc, [], List.mem_singleton.2 rfl, rfl⟩
    have h0 := hmem 0 hm
    have hb0 : 0 ≤ g [0] ∧ g [0] < m := hb _ h0
    have e : ∀ c : Nat, c < m → g [(c : Int)] = g [0] := fun c hc => hg _ h0 c hc
    rw [show allL m (0 + 1) = (List.range m).flatMap fun c : Nat => (allL m 0).map fun r => (c : Int) :: r from rfl, List.countP_flatMap]
    have e2 : (List.range m).map (List.countP (fun h => g h == rd h ((0 : Nat) : Int)) ∘ fun c : Nat => (allL m 0).map fun r => (c : Int) :: r) = (List.range m).map fun c : Nat => if g [0] = (c : Int) then 1 else 0 := by
      apply List.map_congr_left
      intro c hc
      have hc := List.mem_range.1 hc
      simp only [Function.comp, allL, List.map_cons, List.map_nil, List.countP_cons, List.countP_nil, Nat.zero_add]
      rw [e c hc]
      simp only [beq_iff_eq]
      rfl
    rw [e2, ones _ hb0.1, if_pos hb0.2, Nat.pow_zero]
  | succ n ih =>
    intro i g hi hb hg
    have hmem : ∀ c : Nat, c < m → ∀ r ∈ allL m (n + 1), (c : Int) :: r ∈ allL m (n + 1 + 1) := fun c hc r hr => by
      rw [allL, List.mem_flatMap]
      exact ⟨c, List.mem_range.2 hc, List.mem_map.2 ⟨r, hr, rfl⟩⟩
    rw [show allL m (n + 1 + 1) = (List.range m).flatMap fun c : Nat => (allL m (n + 1)).map fun r => (c : Int) :: r from rfl, List.countP_flatMap]
    cases i with
    | zero =>
      have e : (List.range m).map (List.countP (fun h => g h == rd h ((0 : Nat) : Int)) ∘ fun c : Nat => (allL m (n + 1)).map fun r => (c : Int) :: r) = (List.range m).map fun c : Nat => (allL m (n + 1)).countP fun r => g (0 :: r) == (c : Int) := by
        apply List.map_congr_left
        intro c hc
        have hc := List.mem_range.1 hc
        simp only [Function.comp, List.countP_map]
        apply List.countP_congr
        intro r hr
        have := hg _ (hmem 0 hm r hr) c hc
        have e1 : g ((c : Int) :: r) = g (0 :: r) := this
        show (g ((c : Int) :: r) == (c : Int)) = true ↔ _
        rw [e1]
      rw [e, each_once (fun r => g (0 :: r)) m _ (fun r hr => hb _ (hmem 0 hm r hr)), allL_len]
    | succ i =>
      have e : (List.range m).map (List.countP (fun h => g h == rd h ((i + 1 : Nat) : Int)) ∘ fun c : Nat => (allL m (n + 1)).map fun r => (c : Int) :: r) = List.replicate m (m ^ n) := by
        rw [List.eq_replicate_iff]
        refine ⟨by simp, fun b hbm => ?_⟩
        obtain ⟨c, hc, rfl⟩ := List.mem_map.1 hbm
        have hc := List.mem_range.1 hc
        simp only [Function.comp, List.countP_map]
        exact ih i (fun r => g ((c : Int) :: r)) (by omega) (fun h hh => hb _ (hmem c hc h hh)) (fun h hh d hd => hg _ (hmem c hc h hh) d hd)
      rw [e, List.sum_replicate_nat, Nat.pow_succ, Nat.mul_comm]
theorem ix_same (q : Int) (row hats hats' : List Int) (h : ∀ k : Nat, k < row.length → rd hats (rd row k) = rd hats' (rd row k)) : ∀ m : Nat, m ≤ row.length → ixTo q row hats m = ixTo q row hats' m
  | 0, _ => rfl
  | m + 1, hm => by rw [ixTo, ixTo, ix_same q row hats hats' h m (by omega), h m (by omega)]
theorem rd_set (l : List Int) (i : Nat) (c j : Int) (hj : 0 ≤ j) (h : j ≠ i) : rd (l.set i c) j = rd l j := by
  unfold rd
  rw [List.getD_eq_getElem?_getD, List.getD_eq_getElem?_getD, List.getElem?_set_ne (by omega)]
theorem sumHits_all (n : Nat) (q : Nat) (hq1 : 1 ≤ q) (hq4 : q ≤ 4) (l : List S71) (t : List (List Int)) (hf : Fits (n + 1) q (seesTo l (n + 1) (n + 1)) t) :
    sumHits (n + 1) q (seesTo l (n + 1) (n + 1)) t (allHats (n + 1) q) = ((n + 1 : Nat) : Int) * (q : Int) ^ n := by
  have hok := hats_ok (n + 1) q (by omega)
  rw [allHats_eq q hq1] at hok ⊢
  have each : ∀ i : Nat, i ≤ n → (allL q (n + 1)).countP (fun h => guessP q (rd_L2 (seesTo l (n + 1) (n + 1)) i) (rd_L2 t i) h == rd h i) = q ^ n := by
    intro i hi
    obtain ⟨hb, hl4, hsz, hcol⟩ := hf.2.2 i (by omega)
    refine count_right q hq1 n i _ hi ?_ ?_
    · intro h hh
      obtain ⟨hc, hl⟩ := hok h hh
      have hx := ix_bound q _ h hc (by rw [hl]; exact hb) (by omega) _ (Nat.le_refl _)
      have hp := pow_small q (by omega) (by omega) (rd_L2 (seesTo l (n + 1) (n + 1)) i).length (by omega)
      exact hcol _ (rd_mem _ _ hx.1 (by rw [hsz]; omega))
    · intro h hh c hc
      unfold guessP
      congr 1
      refine ix_same q _ _ _ ?_ _ (Nat.le_refl _)
      intro k hk
      have hm : rd (rd_L2 (seesTo l (n + 1) (n + 1)) i) k ∈ rd_L2 (seesTo l (n + 1) (n + 1)) i := rd_mem _ _ (by omega) (by omega)
      have h0 := hb _ hm
      refine rd_set _ _ _ _ h0.1 ?_
      rw [seesTo_row l (n + 1) i (by omega)] at hm ⊢
      intro he
      rw [he] at hm
      exact rowTo_self l i (n + 1) hm
  have sums : ∀ m : Nat, m ≤ n + 1 → ((allL q (n + 1)).map fun h => hits q (seesTo l (n + 1) (n + 1)) t h m).sum = (m : Int) * (q : Int) ^ n := by
    intro m
    induction m with
    | zero =>
      intro _
      have : ∀ L : List (List Int), (L.map fun h => hits q (seesTo l (n + 1) (n + 1)) t h 0).sum = 0 := by
        intro L
        induction L with
        | nil => rfl
        | cons a L ih => rw [List.map_cons, List.sum_cons, ih, hits]; rfl
      rw [this]; simp
    | succ m ih =>
      intro hm
      have add : ∀ L : List (List Int), (L.map fun h => hits q (seesTo l (n + 1) (n + 1)) t h (m + 1)).sum = (L.map fun h => hits q (seesTo l (n + 1) (n + 1)) t h m).sum + ((L.countP fun h => guessP q (rd_L2 (seesTo l (n + 1) (n + 1)) m) (rd_L2 t m) h == rd h m : Nat) : Int) := by
        intro L
        induction L with
        | nil => rfl
        | cons a L ih =>
          rw [List.map_cons, List.sum_cons, List.map_cons, List.sum_cons, ih, hits, List.countP_cons]
          simp only [beq_iff_eq]
          split <;> omega
      rw [add, ih (by omega), each m (by omega), Int.natCast_pow, Int.natCast_add, Int.add_mul]
      omega
  exact sums (n + 1) (Nat.le_refl _)

end Go.Proofs.Ytgjmfehdjbepiaa.Pure
