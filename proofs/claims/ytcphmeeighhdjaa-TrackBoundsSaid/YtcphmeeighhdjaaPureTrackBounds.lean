/- For every tree and all states derived from arbitrary numbers, the least cost with unit costs lies between the two bounds: in plain numbers and lists. -/
import Derived.Test.YtcphmeeighhdjaaPF9
import Derived.Test.YtcphmeeighhdjaaRE
namespace Go.Proofs.Ytcphmeeighhdjaa.Pure
open Go Go.Proofs Go.RowKit Go.Proofs.Ytcphmeeighhdjaa.P Go.Proofs.YtcphmeeighhdjaaW.PrintWords Go.Proofs.YtcphmeeighhdjaaW.PrintLast
set_option linter.unusedVariables false

theorem lives_ev : Ev (fun k => wogglelaw02_lives.f k) true := Ev.of wogglelaw02_lives.mono track_lives_at
theorem least_ev {n : Int} {J : List S67} {C : List (List Int)} {L : List Int} (ht : TreeOk n J) (hc : CostsOk C) (hs : StatesOk n C.length L) :
    Ev (fun k => track_Least.f k n J C L) ((P.leastOf C.length C (none_ J) J L).1, 0) := by
  have hJ : J.length ≤ 99 := by have := ht.2.2.1; have := ht.2.1; omega
  have h := read_ev n J C L hJ
  rw [errOf_0 ht hc hs] at h
  unfold track_Least.f
  exact Ev.bind h (ev_val (if_pos rfl))
theorem ways_ev {n : Int} {J : List S67} {C : List (List Int)} {L : List Int} (ht : TreeOk n J) (hc : CostsOk C) (hs : StatesOk n C.length L) :
    Ev (fun k => track_Ways.f k n J C L) ((P.leastOf C.length C (none_ J) J L).2, 0) := by
  have hJ : J.length ≤ 99 := by have := ht.2.2.1; have := ht.2.1; omega
  have h := read_ev n J C L hJ
  rw [errOf_0 ht hc hs] at h
  unfold track_Ways.f
  exact Ev.bind h (ev_val (if_pos rfl))
/-- How many leaves have a state, among the first. -/
def many (L : List Int) (s : Nat) : Nat → Nat
  | 0 => 0
  | i + 1 => many L s i + if rd L i = s then 1 else 0
theorem many_le (L : List Int) (s i : Nat) : many L s i ≤ i := by
  induction i with
  | zero => exact Nat.le_refl _
  | succ i ih => simp only [many]; split <;> omega
def manyL (L : List Int) (k i : Nat) : List Int := (List.range k).map (fun s => (many L s i : Int))
theorem manyL_rd (L : List Int) (k i s : Nat) (h : s < k) : rd (manyL L k i) s = many L s i := by
  rw [rd_nat _ s (by simp [manyL]; exact h)]
  simp [manyL]
theorem manyL_set (L : List Int) (k i s : Nat) (h : s < k) (e : rd L i = s) : (manyL L k i).set s ((many L s i : Int) + 1) = manyL L k (i + 1) := by
  apply List.ext_getElem
  · simp [manyL]
  · intro j h1 h2
    have hj : j < k := by simpa [manyL] using h2
    rw [List.getElem_set]
    simp only [manyL, List.getElem_map, List.getElem_range, many, e]
    by_cases q : s = j
    · subst q; rw [if_pos rfl, if_pos rfl]; rfl
    · rw [if_neg q, if_neg (by omega)]; rfl
/-- The greatest of the first counts. -/
def mostTo (c : Nat → Nat) : Nat → Nat
  | 0 => 0
  | i + 1 => if mostTo c i < c i then c i else mostTo c i
theorem mostTo_is (c : Nat → Nat) (k : Nat) : mostTo c k = 0 ∨ ∃ s, s < k ∧ mostTo c k = c s := by
  induction k with
  | zero => exact .inl rfl
  | succ k ih =>
    simp only [mostTo]
    split
    · exact .inr ⟨k, by omega, rfl⟩
    · rcases ih with h | ⟨s, h1, h2⟩
      · exact .inl h
      · exact .inr ⟨s, by omega, h2⟩
theorem mostTo_le (c : Nat → Nat) (k B : Nat) (h : ∀ s, s < k → c s ≤ B) : mostTo c k ≤ B := by
  rcases mostTo_is c k with e | ⟨s, h1, h2⟩
  · omega
  · rw [h2]; exact h s h1
theorem cnt_le (P : Nat → Bool) (m : Nat) : TT.cnt P m ≤ m := by
  induction m with
  | zero => exact Nat.le_refl _
  | succ m ih => simp only [TT.cnt]; split <;> omega
theorem bounds_l1 (n k : Nat) (L : List Int) (v : Int) (hn : n ≤ 8) (hk : k ≤ 4) (hlo : (TT.cnt (fun s => decide (0 < many L s n)) k : Int) - 1 ≤ v) (hhi : v ≤ n - (mostTo (fun s => many L s n) k : Nat)) :
    Ev (fun q => wogglelaw02_TrackBounds.l1 q n k v 0 (manyL L k n) 0 0 0) true := by
  have hlen : (manyL L k n).length = k := by simp [manyL]
  have key := up_ind (fun i => Ev (fun q => wogglelaw02_TrackBounds.l1 q n k v 0 (manyL L k n) ((TT.cnt (fun s => decide (0 < many L s n)) i : Nat) : Int) ((mostTo (fun s => many L s n) i : Nat) : Int) (i : Int)) true) k ?_ ?_
  · exact key
  · have c1 := cnt_le (fun s => decide (0 < many L s n)) k
    have c2 := mostTo_le (fun s => many L s n) k n (fun s _ => many_le L s n)
    refine Ev.step (f := fun q => (wogglelaw02_lives.f q).bind fun t => some t) (fun q => ?_) (Ev.bind lives_ev (Ev.now _))
    have w1 : wrap64 (((TT.cnt (fun s => decide (0 < many L s n)) k : Nat) : Int) - 1) = ((TT.cnt (fun s => decide (0 < many L s n)) k : Nat) : Int) - 1 := w64 _ (by omega) (by omega)
    have w2 : wrap64 ((n : Int) - ((mostTo (fun s => many L s n) k : Nat) : Int)) = (n : Int) - ((mostTo (fun s => many L s n) k : Nat) : Int) := w64 _ (by omega) (by omega)
    simp only [wogglelaw02_TrackBounds.l1]
    rw [if_neg (Int.lt_irrefl _), if_pos trivial, w1, w2, if_pos hlo, if_pos hhi]
  · intro i hi ih
    refine Ev.step (fun q => ?_) ih
    have hr := manyL_rd L k n i hi
    have p1 : (i : Int) < k := by omega
    have p2 : (0 : Int) ≤ i := by omega
    have p3 : (i : Int) < (manyL L k n).length := by rw [hlen]; exact p1
    have c1 := cnt_le (fun s => decide (0 < many L s n)) i
    have e1 : mx ((mostTo (fun s => many L s n) i : Nat) : Int) ((many L i n : Nat) : Int) = ((mostTo (fun s => many L s n) (i + 1) : Nat) : Int) := by
      simp only [mostTo]
      unfold mx
      split <;> split <;> omega
    simp only [wogglelaw02_TrackBounds.l1]
    rw [if_pos p1, if_pos p2, if_pos p3, hr, e1, succ_w i (by omega)]
    by_cases c : 0 < many L i n
    · have c' : ((many L i n : Nat) : Int) > 0 := by omega
      have e3 : wrap64 (((TT.cnt (fun s => decide (0 < many L s n)) i : Nat) : Int) + 1) = ((TT.cnt (fun s => decide (0 < many L s n)) (i + 1) : Nat) : Int) := by
        rw [succ_w _ (by omega)]
        simp only [TT.cnt, c, decide_true, if_true]
      rw [if_pos c', e3]
    · have c' : ¬ ((many L i n : Nat) : Int) > 0 := by omega
      rw [if_neg c']
      simp only [TT.cnt, c, decide_false, Bool.false_eq_true, if_false, Nat.add_zero]
theorem bounds_l0 (n k : Nat) (L : List Int) (v : Int) (hn : n ≤ 8) (hk : k ≤ 4) (hs : StatesOk n k L) (hlo : (TT.cnt (fun s => decide (0 < many L s n)) k : Int) - 1 ≤ v) (hhi : v ≤ n - (mostTo (fun s => many L s n) k : Nat)) :
    Ev (fun q => wogglelaw02_TrackBounds.l0 q n k L v 0 (List.replicate k 0) 0 0 0) true := by
  have hl : L.length = n := by have := hs.2; omega
  have e0 : List.replicate k (0 : Int) = manyL L k 0 := by
    apply List.ext_getElem
    · simp [manyL]
    · intro j h1 h2; simp [manyL, many]
  rw [e0]
  have key := up_ind (fun i => Ev (fun q => wogglelaw02_TrackBounds.l0 q n k L v 0 (manyL L k i) 0 0 (i : Int)) true) n ?_ ?_
  · exact key
  · exact Ev.step (f := fun q => wogglelaw02_TrackBounds.l1 q n k v 0 (manyL L k n) 0 0 0) (fun q => by simp only [wogglelaw02_TrackBounds.l0]; rw [if_neg (Int.lt_irrefl _)]) (bounds_l1 n k L v hn hk hlo hhi)
  · intro i hi ih
    refine Ev.step (fun q => ?_) ih
    have hb := hs.1 (L[i]'(by omega)) (List.getElem_mem _)
    have hr := rd_nat L i (by omega)
    obtain ⟨s, hs'⟩ : ∃ s : Nat, L[i]'(by omega) = s := ⟨(L[i]'(by omega)).toNat, by omega⟩
    rw [hs'] at hb hr
    have p1 : (i : Int) < n := by omega
    have p2 : (0 : Int) ≤ i := by omega
    have p3 : (i : Int) < L.length := by omega
    have p4 : (0 : Int) ≤ s := by omega
    have p5 : (s : Int) < (manyL L k i).length := by simp [manyL]; omega
    have hsk : s < k := by omega
    have hm := many_le L s i
    have e1 : wrap64 (((many L s i : Nat) : Int) + 1) = ((many L s i : Nat) : Int) + 1 := w64 _ (by omega) (by omega)
    simp only [wogglelaw02_TrackBounds.l0]
    rw [if_pos p1, if_pos p2, if_pos p3, hr, if_pos p4, if_pos p5, manyL_rd L k i s hsk, e1, Int.toNat_natCast, manyL_set L k i s hsk hr, succ_w i (by omega)]
theorem isum_le (f g : Nat → Int) (l : List Nat) (h : ∀ v ∈ l, f v ≤ g v) : TT.isum f l ≤ TT.isum g l := by
  induction l with
  | nil => exact Int.le_refl _
  | cons v l ih => have := h v (by simp); have := ih (fun u hu => h u (by simp [hu])); simp only [TT.isum]; omega
theorem many_isum (L : List Int) (s n : Nat) (hL : ∀ v, v < n → 0 ≤ rd L v) : ((many L s n : Nat) : Int) + TT.isum (fun v => if lOf L v = s then 0 else 1) (List.range n) = n := by
  induction n with
  | zero => simp [many, TT.isum]
  | succ n ih =>
    have i := ih (fun v hv => hL v (by omega))
    have h0 := hL n (by omega)
    rw [List.range_succ, TT.isum_append]
    simp only [many, TT.isum]
    unfold lOf at i ⊢
    by_cases e : rd L n = s
    · rw [if_pos e, if_pos (by omega)]; omega
    · rw [if_neg e, if_neg (by omega)]; omega
theorem many_pos (L : List Int) (s n : Nat) (h : 0 < many L s n) : ∃ v, v < n ∧ rd L v = s := by
  induction n with
  | zero => simp [many] at h
  | succ n ih =>
    simp only [many] at h
    by_cases e : rd L n = s
    · exact ⟨n, by omega, e⟩
    · rw [if_neg e] at h
      obtain ⟨v, h1, h2⟩ := ih (by omega)
      exact ⟨v, by omega, h2⟩
/-- The two bounds. -/
theorem unit_bounds {n k : Nat} {J : List S67} {L : List Int} (ht : TreeOk n J) (h1 : 1 ≤ k) (h4 : k ≤ 4) (hs : StatesOk n k L) :
    (TT.cnt (fun s => decide (0 < many L s n)) k : Int) - 1 ≤ (P.leastOf k (unitL k k) (none_ J) J L).1 ∧ (P.leastOf k (unitL k k) (none_ J) J L).1 ≤ n - (mostTo (fun s => many L s n) k : Nat) := by
  have hkl := unitL_length k
  have hs' : StatesOk n (unitL k k).length L := by rw [hkl]; exact hs
  have hc := unit_costs k h1 h4
  have hJn : J.length = n - 1 := by have := ht.2.2.1; have := ht.1; omega
  have hn2 : 2 ≤ n := by have := ht.1; omega
  have hl : L.length = n := by have := hs.2; omega
  have hV : TT.Valid n (aOf J) (bOf J) J.length := valid_of ht
  rw [hJn] at hV
  have U : TT.UnitC (cOf (unitL k k)) k := fun a b ha hb => unit_cOf k a b ha hb
  have hLk : ∀ v, v < n → 0 ≤ rd L v ∧ lOf L v < k := by
    intro v hv
    have := hs.1 _ (List.getElem_mem (show v < L.length by omega))
    unfold lOf
    rw [rd_nat L v (by omega)]
    omega
  have pl := TT.whole_leaves n (aOf J) (bOf J) hn2 hV
  have pi := TT.whole_idx n (aOf J) (bOf J) hn2 hV
  have ml : ∀ v, v ∈ (TT.whole n (aOf J) (bOf J)).leaves ↔ v < n := fun v => by rw [pl.mem_iff, List.mem_range]
  have mi : ∀ i, i ∈ (TT.whole n (aOf J) (bOf J)).idx ↔ i < n - 1 := fun i => by rw [pi.mem_iff, List.mem_range]
  obtain ⟨hmin, ⟨x, x1, x2, x3⟩, _, h0⟩ := least_min (F := none_ J) ht hc hs' (fun i hi => by rw [none_free J i hi]; omega)
  rw [hkl] at hmin x1 x3 h0
  constructor
  · have hsub := TT.whole_sub n (aOf J) (bOf J) (cOf (unitL k k)) (lOf L) x hn2 hV
    have sl := (TT.seen_le (cOf (unitL k k)) k (lOf L) x U (TT.whole n (aOf J) (bOf J)) (fun v hv => (hLk v ((ml v).1 hv)).2) (fun i _ => x1 i)).2
    have cm := TT.cnt_mono (fun s => decide (0 < many L s n)) (TT.seenIn (lOf L) x (TT.whole n (aOf J) (bOf J))) k (fun s _ h => by
      obtain ⟨v, hv1, hv2⟩ := many_pos L s n (of_decide_eq_true h)
      unfold TT.seenIn
      rw [Bool.or_eq_true]
      right
      rw [List.any_eq_true]
      exact ⟨v, (ml v).2 hv1, decide_eq_true (by unfold lOf; rw [hv2]; rfl)⟩)
    unfold totalOf at x3
    rw [hJn] at x3
    omega
  · have up : ∀ m, m < k → (P.leastOf k (unitL k k) (none_ J) J L).1 + (many L m n : Nat) ≤ n := by
      intro m hm
      have hle := hmin (fun _ => m) (fun i hi => ⟨hm, fun h => by rw [none_free J i hi] at h; omega⟩)
      unfold totalOf at hle
      rw [hJn, ← TT.whole_sub n (aOf J) (bOf J) (cOf (unitL k k)) (lOf L) (fun _ => m) hn2 hV] at hle
      have cs := TT.const_sub (cOf (unitL k k)) k (lOf L) U m hm (TT.whole n (aOf J) (bOf J)) (fun v hv => (hLk v ((ml v).1 hv)).2)
      rw [TT.isum_perm _ pl] at cs
      have ms := many_isum L m n (fun v hv => (hLk v hv).1)
      split at cs <;> omega
    rcases mostTo_is (fun s => many L s n) k with e | ⟨s, h1s, h2s⟩
    · have := up 0 (by omega)
      omega
    · have := up s h1s
      rw [h2s]; omega
theorem TrackBounds : wogglelaw02_TrackBounds.Pure := by
  intro a0 a1 x0 x1 x2 h0 h1 g0 g1 g2
  apply Ev.rounds
  obtain ⟨n, J, hm, ht⟩ := made_ev a0 h0 x0 g0
  obtain ⟨k, hk, k1, k4⟩ := k_of a1 h1
  have hn8 : n ≤ 8 := by have := ht.2.1; omega
  obtain ⟨L, hl, hs⟩ := states_ev n k x2 g2 (by omega) k1 (by omega)
  have hkl := unitL_length k
  have hv := least_ev ht (unit_costs k k1 k4) (show StatesOk n (unitL k k).length L by rw [hkl]; exact hs)
  rw [hkl] at hv
  obtain ⟨b1, b2⟩ := unit_bounds ht k1 k4 hs
  unfold wogglelaw02_TrackBounds.f
  rw [hk]
  refine Ev.bind hm (Ev.bind hl (Ev.bind (unit_ev k (by omega)) (Ev.bind hv ?_)))
  have p0 : (0 : Int) ≤ k := by omega
  have p1 : (k : Int).toNat ≤ 35184372088832 := by omega
  refine Ev.congr (f := fun q => wogglelaw02_TrackBounds.l0 q n k L (P.leastOf k (unitL k k) (none_ J) J L).1 0 (List.replicate k 0) 0 0 0) (fun q => ?_) (bounds_l0 n k L _ hn8 k4 hs b1 b2)
  rw [if_pos p0, if_pos p1, Int.toNat_natCast]

end Go.Proofs.Ytcphmeeighhdjaa.Pure
