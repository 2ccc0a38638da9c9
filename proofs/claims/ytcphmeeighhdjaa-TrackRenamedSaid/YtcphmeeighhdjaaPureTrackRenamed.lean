/- For all arguments derived from arbitrary numbers, rotating the states with the costs changes neither Least nor Ways: in plain numbers and lists. -/
import Derived.Test.YtcphmeeighhdjaaRC
import Derived.Test.YtcphmeeighhdjaaPF10
import Derived.Test.YtcphmeeighhdjaaRQ
/-! Plain facts: the tables under a renaming of the states. -/
namespace Go.Proofs.Ytcphmeeighhdjaa.TT
set_option linter.unusedVariables false
def stepB (z a : Int × Int) : Int × Int := if a.2 = 0 then z else if a.1 < z.1 then a else if a.1 = z.1 then (z.1, z.2 + a.2) else z
def stepL (z a : Int × Int) : Int × Int := if a.2 = 0 then z else if z.1 < 0 ∨ a.1 < z.1 then a else if a.1 = z.1 then (z.1, z.2 + a.2) else z
theorem below_fold (row : Nat → Int) (t : Nat → Int × Int) : ∀ m, belowE row t m = ((List.range m).map fun u => ((t u).1 + row u, (t u).2)).foldl stepB (far, 0)
  | 0 => rfl
  | m + 1 => by
    rw [List.range_succ, List.map_append, List.foldl_append, ← below_fold row t m]
    rfl
theorem least_fold (t : Nat → Int × Int) : ∀ m, leastE t m = ((List.range m).map t).foldl stepL (-1, 0)
  | 0 => rfl
  | m + 1 => by
    rw [List.range_succ, List.map_append, List.foldl_append, ← least_fold t m]
    rfl
theorem stepB_comm (z a b : Int × Int) : stepB (stepB z a) b = stepB (stepB z b) a := by
  obtain ⟨z1, z2⟩ := z
  obtain ⟨a1, a2⟩ := a
  obtain ⟨b1, b2⟩ := b
  unfold stepB
  simp only []
  repeat' split
  all_goals (try dsimp only at *)
  all_goals first
    | rfl
    | (exfalso; omega)
    | (rw [Prod.mk.injEq]; constructor <;> omega)
theorem stepL_comm (z a b : Int × Int) (ha : a.2 ≠ 0 → 0 ≤ a.1) (hb : b.2 ≠ 0 → 0 ≤ b.1) : stepL (stepL z a) b = stepL (stepL z b) a := by
  obtain ⟨z1, z2⟩ := z
  obtain ⟨a1, a2⟩ := a
  obtain ⟨b1, b2⟩ := b
  simp only [] at ha hb
  unfold stepL
  simp only []
  repeat' split
  all_goals (try dsimp only at *)
  all_goals first
    | rfl
    | (exfalso; omega)
    | (rw [Prod.mk.injEq]; constructor <;> omega)
theorem rots : ∀ k ∈ List.range 5, ∀ r ∈ List.range k, ((List.range k).map fun s => (s + r) % k).Perm (List.range k) := by decide +kernel
section
variable {k r : Nat} (hk : k ≤ 4) (hr : r < k)
include hk hr
theorem rot_map {α : Type} {g g' : Nat → α} (h : ∀ u, u < k → g' ((u + r) % k) = g u) : ((List.range k).map g').Perm ((List.range k).map g) := by
  have hp := (rots k (List.mem_range.2 (by omega)) r (List.mem_range.2 hr)).map g'
  rw [List.map_map] at hp
  have e : (List.range k).map (g' ∘ fun s => (s + r) % k) = (List.range k).map g := List.map_congr_left fun u hu => h u (List.mem_range.1 hu)
  rw [e] at hp
  exact hp.symm
theorem below_rot {row row' : Nat → Int} {t t' : Nat → Int × Int} (h1 : ∀ u, u < k → t' ((u + r) % k) = t u) (h2 : ∀ u, u < k → row' ((u + r) % k) = row u) : belowE row' t' k = belowE row t k := by
  rw [below_fold, below_fold]
  exact (rot_map hk hr (g := fun u => ((t u).1 + row u, (t u).2)) (g' := fun u => ((t' u).1 + row' u, (t' u).2)) fun u hu => by simp only [h1 u hu, h2 u hu]).foldl_eq' (fun x _ y _ z => stepB_comm z x y) _
theorem least_rot {t t' : Nat → Int × Int} (h1 : ∀ u, u < k → t' ((u + r) % k) = t u) (h0 : ∀ u, u < k → (t u).2 ≠ 0 → 0 ≤ (t u).1) : leastE t' k = leastE t k := by
  rw [least_fold, least_fold]
  have hp := rot_map hk hr (g := t) (g' := t') h1
  refine (hp.symm.foldl_eq' (fun x hx y hy z => ?_) _).symm
  obtain ⟨u, hu, rfl⟩ := List.mem_map.1 hx
  obtain ⟨v, hv, rfl⟩ := List.mem_map.1 hy
  exact stepL_comm z _ _ (h0 u (List.mem_range.1 hu)) (h0 v (List.mem_range.1 hv))
theorem rot_inj {a b : Nat} (ha : a < k) (hb : b < k) (h : (a + r) % k = (b + r) % k) : a = b := by
  have h1 : k = 1 ∨ k = 2 ∨ k = 3 ∨ k = 4 := by omega
  rcases h1 with rfl | rfl | rfl | rfl <;> omega
theorem tab_rot {C D : Nat → Nat → Int} {L M : Nat → Nat} {F : Nat → Int} (hC : ∀ s u, s < k → u < k → D ((s + r) % k) ((u + r) % k) = C s u) : ∀ (t : T), (∀ v ∈ t.leaves, L v < k ∧ M v = (L v + r) % k) → (∀ i ∈ t.idx, F i < 0) → ∀ s, s < k → tab D k M F t ((s + r) % k) = tab C k L F t s
  | .leaf v, hL, _, s, hs => by
    obtain ⟨h1, h2⟩ := hL v (by simp [T.leaves])
    simp only [tab, h2]
    by_cases e : s = L v
    · rw [if_pos e, if_pos (by rw [e])]
    · rw [if_neg e, if_neg (fun e2 => e (rot_inj hk hr hs h1 e2))]
  | .node i l q, hL, hF, s, hs => by
    have hi := hF i (by simp [T.idx])
    have e1 := below_rot hk hr (t := tab C k L F l) (t' := tab D k M F l) (row := C s) (row' := D ((s + r) % k)) (fun u hu => tab_rot hC l (fun v hv => hL v (by simp [T.leaves, hv])) (fun j hj => hF j (by simp [T.idx, hj])) u hu) (fun u hu => hC s u hs hu)
    have e2 := below_rot hk hr (t := tab C k L F q) (t' := tab D k M F q) (row := C s) (row' := D ((s + r) % k)) (fun u hu => tab_rot hC q (fun v hv => hL v (by simp [T.leaves, hv])) (fun j hj => hF j (by simp [T.idx, hj])) u hu) (fun u hu => hC s u hs hu)
    simp only [tab]
    rw [if_neg (by omega), if_neg (by omega), e1, e2]
end
end Go.Proofs.Ytcphmeeighhdjaa.TT

/-! For all arguments derived from arbitrary numbers, rotating the states with the costs changes neither Least nor Ways: in plain numbers and lists. -/
namespace Go.Proofs.Ytcphmeeighhdjaa.Pure
open Go Go.Proofs Go.RowKit Go.Proofs.Ytcphmeeighhdjaa.P Go.Proofs.YtcphmeeighhdjaaW.PrintWords Go.Proofs.YtcphmeeighhdjaaW.PrintLast
set_option linter.unusedVariables false
theorem livesR_ev : Ev (fun k => wogglelaw02_lives.f k) true := Ev.of wogglelaw02_lives.mono track_lives_at
theorem tm_rot {i r k : Nat} (hi : i ≤ 1000) (hr : r ≤ 1000) : Int.tmod (wrap64 ((i : Int) + (r : Int))) (k : Int) = (((i + r) % k : Nat) : Int) := by
  rw [w64 _ (by omega) (by omega), Int.tmod_eq_emod_of_nonneg (by omega), ← Int.natCast_add, ← Int.natCast_emod]
theorem rd3_same (D : List (List Int)) (a : Nat) (row : List Int) (h : a < D.length) : rd_L3 (D.set a row) (a : Int) = row := by unfold rd_L3; simp [h]
theorem rd3_ne (D : List (List Int)) (a b : Nat) (row : List Int) (h : a ≠ b) : rd_L3 (D.set a row) (b : Int) = rd_L3 D b := by unfold rd_L3; simp [List.getD_eq_getElem?_getD, h]
theorem rd3_nat (D : List (List Int)) (a : Nat) (h : a < D.length) : rd_L3 D (a : Int) = D[a] := by unfold rd_L3; simp [h]
/-- The rotated costs, filled up to a place. -/
structure RotD (k r : Nat) (C D : List (List Int)) (i j : Nat) : Prop where
  len : D.length = k
  rows : RowsOk k D
  done : ∀ s t, s < k → t < k → (s < i ∨ s = i ∧ t < j) → cOf D ((s + r) % k) ((t + r) % k) = cOf C s t
section
variable {n : Nat} {J : List S67} {k r : Nat} {C : List (List Int)} {L : List Int} {res : Bool}
theorem rot_step (hk : k ≤ 4) (hr : r < k) (hc : CostsOk C) (hCl : C.length = k) {D : List (List Int)} {i j : Nat} (hi : i < k) (hj : j < k) (h : RotD k r C D i j) :
    RotD k r C (D.set ((i + r) % k) ((rd_L3 D ((((i + r) % k : Nat)) : Int)).set ((j + r) % k) (rd (rd_L3 C i) j))) i (j + 1) := by
  have ha : (i + r) % k < k := Nat.mod_lt _ (by omega)
  have hb : (j + r) % k < k := Nat.mod_lt _ (by omega)
  have hrow := h.rows _ (List.getElem_mem (show (i + r) % k < D.length by rw [h.len]; exact ha))
  have e3 := rd3_nat D _ (show (i + r) % k < D.length by rw [h.len]; exact ha)
  have hcc := costs_of hc i j (by omega) (by omega)
  refine ⟨by rw [List.length_set, h.len], fun row hm => ?_, fun s t hs ht hst => ?_⟩
  · rcases List.mem_or_eq_of_mem_set hm with hm | rfl
    · exact h.rows row hm
    · rw [e3]
      refine ⟨by rw [List.length_set]; exact hrow.1, fun c hcm => ?_⟩
      rcases List.mem_or_eq_of_mem_set hcm with hcm | rfl
      · exact hrow.2 c hcm
      · exact hcc
  · unfold cOf
    by_cases e : s = i
    · subst e
      rw [rd3_same _ _ _ (by rw [h.len]; exact ha)]
      by_cases e2 : t = j
      · subst e2
        rw [rd_set_same _ _ _ (by rw [e3, hrow.1]; exact hb)]
      · rw [rd_set_ne _ _ _ _ (fun h2 => e2 (TT.rot_inj hk hr ht hj h2.symm))]
        exact h.done s t hs ht (by omega)
    · rw [rd3_ne _ _ _ _ (fun h2 => e (TT.rot_inj hk hr hs hi h2.symm))]
      exact h.done s t hs ht (by omega)
theorem rot_l1 (hk : k ≤ 4) (hr : r < k) (hc : CostsOk C) (hCl : C.length = k) {i : Nat} (hi : i < k)
    (cont : ∀ D, RotD k r C D (i + 1) 0 → Ev (fun q => wogglelaw02_TrackRenamed_t.l0 q n J k C L r D [] ((i + 1 : Nat) : Int)) res) :
    ∀ D, RotD k r C D i 0 → Ev (fun q => wogglelaw02_TrackRenamed_t.l1 q n J k C L r D [] (i : Int) 0) res := by
  refine up_ind (fun j => ∀ D, RotD k r C D i j → Ev (fun q => wogglelaw02_TrackRenamed_t.l1 q n J k C L r D [] (i : Int) (j : Int)) res) k ?_ ?_
  · intro D h
    refine Ev.step (fun q => ?_) (cont D ⟨h.len, h.rows, fun s t hs ht hst => h.done s t hs ht (by omega)⟩)
    simp only [wogglelaw02_TrackRenamed_t.l1]
    rw [if_neg (Int.lt_irrefl _), succ_w i (by omega)]
  · intro j hj ih D h
    have ha : (i + r) % k < k := Nat.mod_lt _ (by omega)
    have hb : (j + r) % k < k := Nat.mod_lt _ (by omega)
    have e3 := rd3_nat D _ (show (i + r) % k < D.length by rw [h.len]; exact ha)
    have hrow := h.rows _ (List.getElem_mem (show (i + r) % k < D.length by rw [h.len]; exact ha))
    have eC := rd3_nat C i (by omega)
    have hCr := (hc.1 _ (List.getElem_mem (show i < C.length by omega))).1
    refine Ev.step (fun q => ?_) (ih _ (rot_step hk hr hc hCl hi hj h))
    simp only [wogglelaw02_TrackRenamed_t.l1]
    rw [if_pos (show (j : Int) < k by omega), if_neg (show ¬ (k : Int) = 0 by omega), tm_rot (by omega) (by omega), tm_rot (by omega) (by omega), if_pos (by omega), if_pos (by rw [h.len]; omega), if_pos (by omega), if_pos (by omega), if_pos (by omega), if_pos (by rw [eC, hCr]; omega), if_pos (by omega), if_pos (by rw [e3, hrow.1]; omega), Int.toNat_natCast, Int.toNat_natCast, succ_w j (by omega)]
theorem rot_l0 (hk : k ≤ 4) (hr : r < k) (hc : CostsOk C) (hCl : C.length = k)
    (cont : ∀ D, RotD k r C D k 0 → Ev (fun q => wogglelaw02_TrackRenamed_t.l2 q n J k C L r D [] 0) res) :
    ∀ D, RotD k r C D 0 0 → Ev (fun q => wogglelaw02_TrackRenamed_t.l0 q n J k C L r D [] 0) res := by
  refine up_ind (fun i => ∀ D, RotD k r C D i 0 → Ev (fun q => wogglelaw02_TrackRenamed_t.l0 q n J k C L r D [] (i : Int)) res) k ?_ ?_
  · intro D h
    refine Ev.step (fun q => ?_) (cont D h)
    simp only [wogglelaw02_TrackRenamed_t.l0]
    rw [if_neg (Int.lt_irrefl _)]
  · intro i hi ih D h
    refine Ev.step (fun q => ?_) (rot_l1 hk hr hc hCl hi ih D h)
    simp only [wogglelaw02_TrackRenamed_t.l0]
    rw [if_pos (by omega)]
/-- The rotated states. -/
def rotL (k r : Nat) (L : List Int) (i : Nat) : List Int := (List.range i).map fun v => (((lOf L v + r) % k : Nat) : Int)
theorem rotL_succ (i : Nat) : rotL k r L (i + 1) = rotL k r L i ++ [(((lOf L i + r) % k : Nat) : Int)] := by unfold rotL; rw [List.range_succ, List.map_append]; rfl
theorem rotL_at {i v : Nat} (h : v < i) : lOf (rotL k r L i) v = (lOf L v + r) % k := by
  unfold lOf
  rw [rd_nat _ v (by simpa [rotL] using h)]
  simp only [rotL, List.getElem_map, List.getElem_range, Int.toNat_natCast]
  rfl
theorem rot_l2 (hk : k ≤ 4) (hr : r < k) (hn : n ≤ 8) (hs : StatesOk n k L) {D : List (List Int)}
    (cont : Ev (fun q => (track_Least.f q n J C L).bind fun b0 => ((track_Least.f q n J D (rotL k r L n)).bind fun b1 => ((track_Ways.f q n J C L).bind fun b2 => ((track_Ways.f q n J D (rotL k r L n)).bind fun b3 => (if b0.2 = 0 then (if b1.2 = 0 then (if b2.2 = 0 then (if b3.2 = 0 then (if b0.1 = b1.1 then (if b2.1 = b3.1 then ((wogglelaw02_lives.f q).bind fun t => (some t)) else (some false)) else (some false)) else (some false)) else (some false)) else (some false)) else (some false)))))) res) :
    Ev (fun q => wogglelaw02_TrackRenamed_t.l2 q n J k C L r D [] 0) res := by
  refine up_ind (fun i => Ev (fun q => wogglelaw02_TrackRenamed_t.l2 q n J k C L r D (rotL k r L i) (i : Int)) res) n ?_ ?_
  · refine Ev.step (fun q => ?_) cont
    simp only [wogglelaw02_TrackRenamed_t.l2]
    rw [if_neg (Int.lt_irrefl _)]
  · intro i hi ih
    have hl : L.length = n := by have := hs.2; omega
    have hv := hs.1 _ (List.getElem_mem (show i < L.length by omega))
    have e : rd L (i : Int) = ((lOf L i : Nat) : Int) := by unfold lOf; rw [rd_nat L i (by omega)]; omega
    have hlv : lOf L i < k := by have := e; rw [rd_nat L i (by omega)] at this; omega
    rw [rotL_succ] at ih
    refine Ev.step (fun q => ?_) ih
    simp only [wogglelaw02_TrackRenamed_t.l2]
    rw [if_pos (show (i : Int) < n by omega), if_pos (show (0 : Int) ≤ i by omega), if_pos (show (i : Int) < L.length by omega), if_neg (show ¬ (k : Int) = 0 by omega), if_pos (show (rotL k r L i).length < 17592186044416 by simp [rotL]; omega), e, tm_rot (by omega) (by omega), succ_w i (by omega)]
end
theorem TrackRenamed : wogglelaw02_TrackRenamed.Pure := by
  intro a0 a1 x0 x1 x2 y h0 h1 g0 g1 g2 g3
  apply Ev.rounds
  obtain ⟨n, J, hm, ht⟩ := made_ev a0 h0 x0 g0
  obtain ⟨k, hk, k1, k4⟩ := k_of a1 h1
  have hn8 : n ≤ 8 := by have := ht.2.1; omega
  have hn2 : 2 ≤ n := by have := ht.1; omega
  obtain ⟨C, hCe, hCl, hc⟩ := costs_ev k k1 k4 x1 g1
  obtain ⟨L, hl, hs⟩ := states_ev n k x2 g2 (by omega) k1 (by omega)
  obtain ⟨D0, hDe, hDl, hd⟩ := costs_ev k k1 k4 [] ⟨by simp [show maxLen = 9223372036854775807 from rfl], fun v hv => by cases hv⟩
  have hy := u8_le g3
  obtain ⟨Y, rfl⟩ : ∃ Y : Nat, y = Y := ⟨y.toNat, by omega⟩
  have hr : Int.tmod (wrap64 (Y : Int)) (k : Int) = ((Y % k : Nat) : Int) := by
    rw [w64 _ (by omega) (by omega), Int.tmod_eq_emod_of_nonneg (by omega), ← Int.natCast_emod]
  have hrk : Y % k < k := Nat.mod_lt _ (by omega)
  unfold wogglelaw02_TrackRenamed.f
  rw [hk, hr]
  refine Ev.bind hm (Ev.bind hCe (Ev.bind hl (ev_neg (by omega) ?_)))
  unfold wogglelaw02_TrackRenamed_t.f
  refine Ev.bind hDe (rot_l0 k4 hrk hc hCl (fun D hD => ?_) D0 ⟨hDl, fun row hm => ?_, fun s t hs ht hst => by omega⟩)
  · have hcD : CostsOk D := ⟨fun row hm => by rw [hD.len]; exact hD.rows row hm, by rw [hD.len]; omega, by rw [hD.len]; omega⟩
    refine rot_l2 k4 hrk hn8 hs ?_
    have hsM : StatesOk n k (rotL k (Y % k) L n) := by
      refine ⟨fun v hv => ?_, by simp [rotL]⟩
      obtain ⟨u, _, rfl⟩ := List.mem_map.1 hv
      have := Nat.mod_lt (lOf L u + Y % k) (show 0 < k by omega)
      omega
    have hsC : StatesOk n C.length L := by rw [hCl]; exact hs
    have hsD : StatesOk n D.length (rotL k (Y % k) L n) := by rw [hD.len]; exact hsM
    have key : P.leastOf D.length D (none_ J) J (rotL k (Y % k) L n) = P.leastOf C.length C (none_ J) J L := by
      rw [leastOf_is ht hcD hsD, leastOf_is ht hc hsC, hD.len, hCl]
      have hJ := ht.2.2.1
      have hJn : J.length = n - 1 := by omega
      have hV : TT.Valid n (aOf J) (bOf J) (n - 1) := by rw [← hJn]; exact valid_of ht
      have hidx := TT.whole_idx n (aOf J) (bOf J) (by omega) hV
      have hlv := TT.whole_leaves n (aOf J) (bOf J) (by omega) hV
      have hlen : (TT.whole n (aOf J) (bOf J)).idx.length ≤ 7 := by rw [hidx.length_eq, List.length_range]; omega
      have hcc := costs_of hc
      rw [hCl] at hcc
      have B := TT.tab_bounds (cOf C) k (lOf L) (fOf (none_ J)) k4 hcc (TT.whole n (aOf J) (bOf J)) (by omega)
      refine TT.least_rot k4 hrk (fun u hu => TT.tab_rot k4 hrk (fun s t hs ht => hD.done s t hs ht (Or.inl hs)) _ (fun v hv => ?_) (fun i hi => ?_) u hu) (fun u hu h0 => ((B u hu).2 h0).1)
      · have hvn : v < n := List.mem_range.1 (hlv.mem_iff.1 hv)
        have hvL : v < L.length := by have := hs.2; omega
        have := hs.1 _ (List.getElem_mem hvL)
        exact ⟨by unfold lOf; rw [rd_nat L v hvL]; omega, rotL_at hvn⟩
      · have hin : i < n - 1 := List.mem_range.1 (hidx.mem_iff.1 hi)
        rw [none_free J i (by omega)]; omega
    have l1 := leastQ_ev ht hc hsC
    have l2 := leastQ_ev ht hcD hsD
    have w1 := waysQ_ev ht hc hsC
    have w2 := waysQ_ev ht hcD hsD
    rw [key] at w2
    have eb : bestOf J D (rotL k (Y % k) L n) = bestOf J C L := by
      unfold bestOf
      rw [key]
    rw [eb] at l2
    exact Ev.bind l1 (Ev.bind l2 (Ev.bind w1 (Ev.bind w2 (ev_pos rfl (ev_pos rfl (ev_pos rfl (ev_pos rfl (ev_pos rfl (ev_pos rfl (Ev.bind livesR_ev (Ev.now _)))))))))))
  · obtain ⟨a, b⟩ := hd.1 row hm
    exact ⟨by omega, b⟩
end Go.Proofs.Ytcphmeeighhdjaa.Pure
