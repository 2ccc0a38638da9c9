/- With metric costs the least cost does not depend on the position of the root: in plain numbers and lists. -/
import Derived.Test.YtcphmeeighhdjaaPF8d
import Derived.Test.YtcphmeeighhdjaaRQX
import Derived.Test.YtcphmeeighhdjaaRN2
import Derived.Test.YtcphmeeighhdjaaRL
namespace Go.Proofs.Ytcphmeeighhdjaa.Pure
open Go Go.Proofs Go.RowKit Go.Proofs.Ytcphmeeighhdjaa.P Go.Proofs.YtcphmeeighhdjaaW.PrintWords Go.Proofs.YtcphmeeighhdjaaW.PrintLast
set_option linter.unusedVariables false
open Classical in
theorem ev_cls {P : Prop} {r : Bool} {g h : Nat → Option Bool} (hp : P) (k : Ev g r) : Ev (fun q => if P then g q else h q) r := Ev.congr (fun q => if_pos hp) k
theorem livesT_ev : Ev (fun k => wogglelaw02_lives.f k) true := Ev.of wogglelaw02_lives.mono track_lives_at
theorem name_nm (inner v : Nat) : name8 (inner : Int) (v : Int) = (nm inner v : Int) := by
  unfold name8 nm
  by_cases h : inner < v
  · rw [if_pos (by omega), if_pos h]; omega
  · rw [if_neg (by omega), if_neg h]
theorem readT_ev {n : Int} {J : List S67} {C : List (List Int)} {L : List Int} (ht : TreeOk n J) (hc : CostsOk C) (hs : StatesOk n C.length L) : Ev (fun k => readErr k n J C L) 0 := by
  have hJ : J.length ≤ 99 := by have := ht.2.2.1; have := ht.2.1; omega
  have h := read_ev n J C L hJ
  rw [errOf_0 ht hc hs] at h
  exact h
theorem leastT_ev {n : Int} {J : List S67} {C : List (List Int)} {L : List Int} (ht : TreeOk n J) (hc : CostsOk C) (hs : StatesOk n C.length L) : Ev (fun k => track_Least.f k n J C L) (bestOf J C L, 0) := by
  unfold track_Least.f
  exact Ev.bind (readT_ev ht hc hs) (ev_val (if_pos rfl))
section
variable {n : Nat} {J : List S67}
theorem mv_at (inn : Int) (a : Nat) : ∀ i, i ≤ J.length → (mv8 inn (a : Int) J i).length = (if i ≤ a then i else i - 1) ∧
    ∀ j, j < (mv8 inn (a : Int) J i).length → rd_T67 (mv8 inn (a : Int) J i) j = if j < a then ⟨name8 inn (rd_T67 J j).f0, name8 inn (rd_T67 J j).f1⟩ else ⟨name8 inn (rd_T67 J ((j + 1 : Nat) : Int)).f0, name8 inn (rd_T67 J ((j + 1 : Nat) : Int)).f1⟩
  | 0, _ => ⟨by simp [mv8], fun j hj => by simp [mv8] at hj⟩
  | i + 1, h => by
    obtain ⟨e, ih⟩ := mv_at inn a i (by omega)
    unfold mv8
    by_cases c : i = a
    · rw [if_pos (by omega)]
      refine ⟨?_, ih⟩
      rw [e, if_pos (by omega), if_neg (by omega)]; omega
    · rw [if_neg (by omega)]
      refine ⟨?_, fun j hj => ?_⟩
      · rw [List.length_append, List.length_singleton, e]
        by_cases d : i ≤ a
        · rw [if_pos d, if_pos (by omega)]
        · rw [if_neg d, if_neg (by omega)]; omega
      · rw [List.length_append, List.length_singleton] at hj
        by_cases d : j < (mv8 inn (a : Int) J i).length
        · rw [rd_T67_old _ _ j d]
          exact ih j d
        · rw [rd_T67_new _ _ j (by omega)]
          by_cases f : i ≤ a
          · rw [if_pos f] at e
            have : j = i := by omega
            subst this
            rw [if_pos (by omega)]
          · rw [if_neg f] at e
            have : j + 1 = i := by omega
            subst this
            rw [if_neg (by omega)]
theorem moved_of (ht : TreeOk n J) {last a O : Nat} (hl : J.length = last + 1) (ha : a < last) (hr : aOf J last = n + a ∧ bOf J last = O ∨ bOf J last = n + a ∧ aOf J last = O) (J' : List S67) (hJ' : J' = moved8 n ((n + a : Nat) : Int) (O : Int) J) :
    J'.length = last + 1 ∧ Moved n last a (aOf J) (bOf J) (aOf J') (bOf J') O ∧ (∀ i, i < last + 1 → (rd_T67 J' i).f0 = (aOf J' i : Int) ∧ (rd_T67 J' i).f1 = (bOf J' i : Int)) := by
  have M := mv_at (J := J) ((n + a : Nat) : Int) a last (by omega)
  rw [if_neg (by omega)] at M
  unfold moved8 at hJ'
  rw [show (((n + a : Nat) : Int) - (n : Int)) = (a : Int) by omega, show J.length - 1 = last by omega] at hJ'
  obtain ⟨Q, hQ⟩ : ∃ Q, mv8 ((n + a : Nat) : Int) (a : Int) J last = Q := ⟨_, rfl⟩
  rw [hQ] at M hJ'
  have key := fun {i : Nat} (hi : i < J.length) => tree_at ht hi
  have kid := fun {c c' : Nat} (h : c < c') (h' : c' < 2 * J.length) => tree_inj ht h h'
  have len : J'.length = last + 1 := by rw [hJ', List.length_append, M.1]; simp; omega
  have at0 : ∀ j, j + 1 < last → rd_T67 J' j = rd_T67 Q j := fun j hj => by
    rw [hJ']; unfold rd_T67
    simp only [Int.toNat_natCast]
    rw [List.getD_eq_getElem?_getD, List.getElem?_append_left (by rw [M.1]; omega), ← List.getD_eq_getElem?_getD]
  have at1 : rd_T67 J' ((last - 1 : Nat) : Int) = ⟨name8 ((n + a : Nat) : Int) (rd_T67 J a).f1, name8 ((n + a : Nat) : Int) O⟩ := by
    rw [hJ']; unfold rd_T67
    simp only [Int.toNat_natCast]
    rw [List.getD_eq_getElem?_getD, List.getElem?_append_right (by rw [M.1]; omega), M.1, Nat.sub_self]
    rfl
  have at2 : rd_T67 J' (last : Int) = ⟨name8 ((n + a : Nat) : Int) (rd_T67 J a).f0, (n : Int) + (J.length : Int) - 2⟩ := by
    rw [hJ']; unfold rd_T67
    simp only [Int.toNat_natCast]
    rw [List.getD_eq_getElem?_getD, List.getElem?_append_right (by rw [M.1]; omega), M.1, show last - (last - 1) = 1 by omega]
    rfl
  have ne : ∀ i, i < last → aOf J i ≠ n + a ∧ bOf J i ≠ n + a := fun i hi => by
    have c0 : chd (aOf J) (bOf J) (2 * i) = aOf J i := by unfold chd; rw [if_pos (by omega), show 2 * i / 2 = i by omega]
    have c1 : chd (aOf J) (bOf J) (2 * i + 1) = bOf J i := by unfold chd; rw [if_neg (by omega), show (2 * i + 1) / 2 = i by omega]
    have d0 : chd (aOf J) (bOf J) (2 * last) = aOf J last := by unfold chd; rw [if_pos (by omega), show 2 * last / 2 = last by omega]
    have d1 : chd (aOf J) (bOf J) (2 * last + 1) = bOf J last := by unfold chd; rw [if_neg (by omega), show (2 * last + 1) / 2 = last by omega]
    have k1 := kid (c := 2 * i) (c' := 2 * last) (by omega) (by omega)
    have k2 := kid (c := 2 * i) (c' := 2 * last + 1) (by omega) (by omega)
    have k3 := kid (c := 2 * i + 1) (c' := 2 * last) (by omega) (by omega)
    have k4 := kid (c := 2 * i + 1) (c' := 2 * last + 1) (by omega) (by omega)
    rw [c0, d0] at k1
    rw [c0, d1] at k2
    rw [c1, d0] at k3
    rw [c1, d1] at k4
    constructor <;> intro e <;> rcases hr with ⟨r1, r2⟩ | ⟨r1, r2⟩ <;> omega
  have hone : O ≠ n + a := by
    have d0 : chd (aOf J) (bOf J) (2 * last) = aOf J last := by unfold chd; rw [if_pos (by omega), show 2 * last / 2 = last by omega]
    have d1 : chd (aOf J) (bOf J) (2 * last + 1) = bOf J last := by unfold chd; rw [if_neg (by omega), show (2 * last + 1) / 2 = last by omega]
    have k1 := kid (c := 2 * last) (c' := 2 * last + 1) (by omega) (by omega)
    rw [d0, d1] at k1
    rcases hr with ⟨r1, r2⟩ | ⟨r1, r2⟩ <;> omega
  have lowQ : ∀ i, i < a → (rd_T67 J' i).f0 = (nm (n + a) (aOf J i) : Int) ∧ (rd_T67 J' i).f1 = (nm (n + a) (bOf J i) : Int) := fun i hi => by
    obtain ⟨p1, p2, _, _⟩ := key (i := i) (by omega)
    rw [at0 i (by omega), M.2 i (by rw [M.1]; omega), if_pos hi]
    simp only []
    rw [p1, p2, name_nm, name_nm]
    exact ⟨rfl, rfl⟩
  have upQ : ∀ i, a ≤ i → i + 1 < last → (rd_T67 J' i).f0 = (nm (n + a) (aOf J (i + 1)) : Int) ∧ (rd_T67 J' i).f1 = (nm (n + a) (bOf J (i + 1)) : Int) := fun i hi hi2 => by
    obtain ⟨p1, p2, _, _⟩ := key (i := i + 1) (by omega)
    rw [at0 i (by omega), M.2 i (by rw [M.1]; omega), if_neg (by omega)]
    simp only []
    rw [p1, p2, name_nm, name_nm]
    exact ⟨rfl, rfl⟩
  obtain ⟨q1, q2, _, _⟩ := key (i := a) (by omega)
  have x1 : (rd_T67 J' ((last - 1 : Nat) : Int)).f0 = (nm (n + a) (bOf J a) : Int) := by rw [at1]; simp only []; rw [q2, name_nm]
  have x2 : (rd_T67 J' ((last - 1 : Nat) : Int)).f1 = (nm (n + a) O : Int) := by rw [at1]; simp only []; rw [name_nm]
  have r1 : (rd_T67 J' (last : Int)).f0 = (nm (n + a) (aOf J a) : Int) := by rw [at2]; simp only []; rw [q1, name_nm]
  have r2 : (rd_T67 J' (last : Int)).f1 = ((n + last - 1 : Nat) : Int) := by rw [at2]; simp only []; omega
  have toA : ∀ (i m : Nat), (rd_T67 J' i).f0 = (m : Int) → aOf J' i = m := fun i m h => by unfold aOf; rw [h]; omega
  have toB : ∀ (i m : Nat), (rd_T67 J' i).f1 = (m : Int) → bOf J' i = m := fun i m h => by unfold bOf; rw [h]; omega
  refine ⟨len, ⟨ha, fun i hi => ⟨toA _ _ (lowQ i hi).1, toB _ _ (lowQ i hi).2⟩, fun i hi hi2 => ⟨toA _ _ (upQ i hi hi2).1, toB _ _ (upQ i hi hi2).2⟩, ⟨toA _ _ x1, toB _ _ x2⟩, ⟨toA _ _ r1, toB _ _ r2⟩, hr, fun i hi => ?_, ne, hone⟩, fun i hi => ?_⟩
  · obtain ⟨_, _, l1, l2⟩ := key (i := i) (by omega)
    exact ⟨l1, l2⟩
  · have nn : ∀ x : Int, ∀ m : Nat, x = (m : Int) → x = (x.toNat : Int) := fun x m h => by omega
    unfold aOf bOf
    by_cases h1 : i < a
    · exact ⟨nn _ _ (lowQ i h1).1, nn _ _ (lowQ i h1).2⟩
    · by_cases h2 : i + 1 < last
      · exact ⟨nn _ _ (upQ i (by omega) h2).1, nn _ _ (upQ i (by omega) h2).2⟩
      · by_cases h3 : i = last
        · subst h3; exact ⟨nn _ _ r1, nn _ _ r2⟩
        · obtain rfl : i = last - 1 := by omega
          exact ⟨nn _ _ x1, nn _ _ x2⟩
theorem moved_best (ht : TreeOk n J) {C : List (List Int)} {L : List Int} (hc : CostsOk C) (hM : Metric (cOf C) C.length) (hs : StatesOk n C.length L) {last a O : Nat} (hl : J.length = last + 1) (ha : a < last)
    (hr : aOf J last = n + a ∧ bOf J last = O ∨ bOf J last = n + a ∧ aOf J last = O) : TreeOk n (moved8 n ((n + a : Nat) : Int) (O : Int) J) ∧ bestOf (moved8 n ((n + a : Nat) : Int) (O : Int) J) C L = bestOf J C L := by
  obtain ⟨J', hJ'⟩ : ∃ J', J' = moved8 n ((n + a : Nat) : Int) (O : Int) J := ⟨_, rfl⟩
  obtain ⟨len, hm, hat⟩ := moved_of ht hl ha hr J' hJ'
  rw [← hJ']
  have h1 := ht.1
  have h2 := ht.2.1
  have h3 := ht.2.2.1
  have ht' : TreeOk n J' := tree_mk (A' := aOf J') (B' := bOf J') (by omega) (by omega) (by omega) (fun i hi => hat i (by omega)) (fun i hi => moved_lt hm (by omega))
    (fun c c' hc hc' => moved_inj hm (fun c c' h h' => tree_inj ht h (by omega)) hc (by omega))
  refine ⟨ht', ?_⟩
  have A := least_min (F := none_ J) ht hc hs (fun i hi => by rw [none_free J i hi]; omega)
  have B := least_min (F := none_ J') ht' hc hs (fun i hi => by rw [none_free J' i hi]; omega)
  have hL : ∀ v, v < n → lOf L v < C.length := by
    intro v hv
    have hvL : v < L.length := by have := hs.2; omega
    have := hs.1 _ (List.getElem_mem hvL)
    unfold lOf
    rw [rd_nat L v hvL]
    omega
  unfold bestOf
  obtain ⟨A1, ⟨x, x1, _, x3⟩, _, _⟩ := A
  obtain ⟨B1, ⟨y, y1, _, y3⟩, _, _⟩ := B
  obtain ⟨y', hy', hle⟩ := to_moved (L := lOf L) (by omega) hm hM hL x (fun i _ => x1 i)
  obtain ⟨x', hx', hle2⟩ := from_moved (L := lOf L) (by omega) hm hM hL y (fun i _ => y1 i)
  have b := B1 y' (fun i hi => ⟨hy' i (by omega), fun h => by rw [none_free J' i hi] at h; omega⟩)
  have c := A1 x' (fun i hi => ⟨hx' i (by omega), fun h => by rw [none_free J i hi] at h; omega⟩)
  unfold totalOf at b c x3 y3
  rw [len] at b y3
  rw [hl] at c x3
  omega
end
theorem TrackRoot : wogglelaw02_TrackRoot.Pure := by
  intro a0 a1 x0 x1 x2 h0 h1 g0 g1 g2
  apply Ev.rounds
  obtain ⟨n, J, hm, ht⟩ := made_ev a0 h0 x0 g0
  obtain ⟨k, hk, k1, k4⟩ := k_of a1 h1
  have hn8 : n ≤ 8 := by have := ht.2.1; omega
  have hn2 : 2 ≤ n := by have := ht.1; omega
  have hJl := ht.2.2.1
  obtain ⟨C, hCe, hCl, hc, hM⟩ := PureX.costs_metric_ev k k1 k4 x1 g1
  obtain ⟨L, hl, hs⟩ := states_ev n k x2 g2 (by omega) k1 (by omega)
  obtain ⟨last, hlast⟩ : ∃ last, J.length = last + 1 := ⟨J.length - 1, by omega⟩
  have hsC : StatesOk n C.length L := by rw [hCl]; exact hs
  have l1 := leastT_ev ht hc hsC
  obtain ⟨p1, p2, p3, p4⟩ := tree_at ht (i := last) (by omega)
  unfold wogglelaw02_TrackRoot.f
  rw [hk]
  refine Ev.bind hm (Ev.bind hCe (Ev.bind hl ?_))
  unfold mid8
  simp only []
  rw [show J.length - 1 = last by omega, p1, p2]
  have fin : ∀ a O : Nat, a < last → (aOf J last = n + a ∧ bOf J last = O ∨ bOf J last = n + a ∧ aOf J last = O) → Ev (fun q => wogglelaw02_TrackRoot_t.f q 0 0 0 n J 0 C L 0 0 0 0 0 (moved8 n ((n + a : Nat) : Int) (O : Int) J)) true := fun a O ha hr => by
    obtain ⟨t, b⟩ := moved_best ht hc (by rw [hCl]; exact hM) hsC hlast ha hr
    have l2 := leastT_ev t hc hsC
    rw [b] at l2
    unfold wogglelaw02_TrackRoot_t.f
    exact Ev.bind l1 (Ev.bind l2 (ev_pos rfl (ev_pos rfl (ev_pos rfl (Ev.bind livesT_ev (Ev.now _))))))
  refine ev_cls ht ?_
  by_cases c : aOf J last < n
  · refine ev_pos (by omega) ?_
    by_cases d : bOf J last < n
    · exact ev_pos (by omega) livesT_ev
    · refine ev_neg (by omega) ?_
      have h := fin (bOf J last - n) (aOf J last) (by omega) (.inr ⟨by omega, rfl⟩)
      rw [show n + (bOf J last - n) = bOf J last by omega] at h
      exact h
  · refine ev_neg (by omega) ?_
    have h := fin (aOf J last - n) (bOf J last) (by omega) (.inl ⟨by omega, rfl⟩)
    rw [show n + (aOf J last - n) = aOf J last by omega] at h
    exact h
end Go.Proofs.Ytcphmeeighhdjaa.Pure
