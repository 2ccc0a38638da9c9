/- For two columns with states 0 and 1, Best is the sum of the numbers of different states minus 2 if not all four combinations of states occur, and greater otherwise: in plain numbers and lists. -/
import Derived.Test.YtcphmeeighhdjaaPF14
import Derived.Test.YtcphmeeighhdjaaGJ
import Derived.Test.YtcphmeeighhdjaaGA
import Derived.Test.YtcphmeeighhdjaaPF63
import Derived.Test.YtcphmeeighhdjaaGQ
import Derived.Test.YtcphmeeighhdjaaRT
import Derived.Test.YtcphmeeighhdjaaRA
-- out of RF
namespace Go.Proofs.Ytcphmeeighhdjaa.Pure
open Go Go.Proofs Go.RowKit Go.Proofs.Ytcphmeeighhdjaa.P Go.Proofs.YtcphmeeighhdjaaW.PrintWords Go.Proofs.YtcphmeeighhdjaaW.PrintLast
set_option linter.unusedVariables false

/-- Fitch's sets of all leaves and of the first joins, and the number of changes. -/
def fitTo (J : List S67) (L : List Int) : Nat → List Int × Int
  | 0 => (L.map (fun s => shl .i64 1 s), 0)
  | m + 1 => if Go.bits .and .i64 (rd (fitTo J L m).1 (rd_T67 J m).f0) (rd (fitTo J L m).1 (rd_T67 J m).f1) = 0
      then ((fitTo J L m).1 ++ [Go.bits .or .i64 (rd (fitTo J L m).1 (rd_T67 J m).f0) (rd (fitTo J L m).1 (rd_T67 J m).f1)], wrap64 ((fitTo J L m).2 + 1))
      else ((fitTo J L m).1 ++ [Go.bits .and .i64 (rd (fitTo J L m).1 (rd_T67 J m).f0) (rd (fitTo J L m).1 (rd_T67 J m).f1)], (fitTo J L m).2)
theorem fitTo_length (J : List S67) (L : List Int) (m : Nat) : (fitTo J L m).1.length = L.length + m := by
  induction m with
  | zero => simp [fitTo]
  | succ m ih => simp only [fitTo]; split <;> simp only [List.length_append, List.length_singleton, ih] <;> omega
section
variable {n : Int} {J : List S67} {k : Int} {L : List Int}
theorem fitch_ev (ht : TreeOk n J) (hs : StatesOk n k L) : Ev (fun q => track_fitch.f q J L) (fitTo J L J.length) := by
  have hn := ht.1; have hn8 := ht.2.1; have hJ := ht.2.2.1; have hL := hs.2
  unfold track_fitch.f
  have joins := up_ind (fun m => Ev (fun q => track_fitch.l1 q (fitTo J L m).1 (fitTo J L m).2 J (J.length : Int) (m : Int)) (fitTo J L J.length)) J.length ?_ ?_
  · have leaves := up_ind (fun i => Ev (fun q => track_fitch.l0 q J ((L.take i).map (fun s => shl .i64 1 s)) L (L.length : Int) (i : Int)) (fitTo J L J.length)) L.length ?_ ?_
    · exact leaves
    · refine Ev.step (f := fun q => track_fitch.l1 q (fitTo J L 0).1 (fitTo J L 0).2 J (J.length : Int) ((0 : Nat) : Int)) (fun q => ?_) joins
      simp only [track_fitch.l0]
      rw [if_neg (Int.lt_irrefl _), List.take_length]; rfl
    · intro i hi ih
      have p1 : (i : Int) < L.length := by omega
      have p2 : (0 : Int) ≤ i := by omega
      have hb := hs.1 _ (List.getElem_mem hi)
      refine Ev.step (fun q => ?_) ih
      simp only [track_fitch.l0]
      rw [if_pos p1, if_pos p2, if_pos p1, rd_nat L i hi, if_pos hb.1, if_pos (show ((L.take i).map (fun s => shl .i64 1 s)).length < 17592186044416 by rw [List.length_map, List.length_take]; omega), succ_w i (by omega), take_up L i hi, List.map_append]
      rfl
  · exact Ev.step (f := fun _ => some (fitTo J L J.length)) (fun q => by simp only [track_fitch.l1]; rw [if_neg (Int.lt_irrefl _)]) (Ev.now _)
  · intro m hm ih
    have p1 : (m : Int) < J.length := by omega
    have p2 : (0 : Int) ≤ m := by omega
    obtain ⟨⟨a0, a1, _⟩, b0, b1, _⟩ := ht.2.2.2 m hm
    have hl := fitTo_length J L m
    have p3 : (rd_T67 J m).f0 < (fitTo J L m).1.length := by omega
    have p4 : (rd_T67 J m).f1 < (fitTo J L m).1.length := by omega
    have p5 : (fitTo J L m).1.length < 17592186044416 := by omega
    refine Ev.step (fun q => ?_) ih
    simp only [track_fitch.l1]
    rw [if_pos p1, if_pos p2, if_pos p1, if_pos a0, if_pos p3, if_pos b0, if_pos p4, if_pos p5, if_pos p5, succ_w m (by omega)]
    simp only [fitTo]
    split <;> rfl
end
end Go.Proofs.Ytcphmeeighhdjaa.Pure

-- out of RK
namespace Go.Proofs.Ytcphmeeighhdjaa.Pure
open Go Go.Proofs Go.RowKit Go.Proofs.Ytcphmeeighhdjaa.P Go.Proofs.YtcphmeeighhdjaaW.PrintWords Go.Proofs.YtcphmeeighhdjaaW.PrintLast
set_option linter.unusedVariables false

def TableOk (t : List (List Int)) : Prop := (2 ≤ t.length ∧ t.length ≤ 5) ∧ (1 ≤ (rd_L3 t 0).length ∧ (rd_L3 t 0).length ≤ 6) ∧ ∀ row ∈ t, StatesOk (rd_L3 t 0).length 4 row
open Classical in
theorem stB_is (row : List Int) (m : Int) : stB row m = decide (StatesOk m 4 row) := Option.some.inj ((stB_f row m).symm.trans (states_f row m 4))
open Classical in
theorem rows_f (t : List (List Int)) : track_rows.f t = some (decide (TableOk t)) := by
  unfold track_rows.f
  by_cases k1 : (t.length : Int) < 2
  · rw [if_pos k1, decide_eq_false (fun h => by have := h.1.1; omega)]
  rw [if_neg k1]
  by_cases k2 : (t.length : Int) > 5
  · rw [if_pos k2, decide_eq_false (fun h => by have := h.1.2; omega)]
  rw [if_neg k2]
  by_cases k3 : ((rd_L3 t 0).length : Int) < 1
  · rw [if_pos k3, decide_eq_false (fun h => by have := h.2.1.1; omega)]
  rw [if_neg k3]
  by_cases k4 : ((rd_L3 t 0).length : Int) > 6
  · rw [if_pos k4, decide_eq_false (fun h => by have := h.2.1.2; omega)]
  rw [if_neg k4]
  congr 1
  rw [Bool.eq_iff_iff, decide_eq_true_iff, Bool.not_eq_true', List.any_eq_false]
  constructor
  · intro h
    refine ⟨⟨by omega, by omega⟩, ⟨by omega, by omega⟩, fun row hr => ?_⟩
    have := h row hr
    unfold badR at this
    rw [stB_is] at this
    simpa using this
  · intro h row hr
    unfold badR
    rw [stB_is, decide_eq_true (h.2.2 row hr)]
    decide
/-- A column. -/
def col (t : List (List Int)) (c : Nat) : List Int := t.map (fun row => rd row c)
theorem col_ok {t : List (List Int)} (ht : TableOk t) (c : Nat) (hc : c < (rd_L3 t 0).length) : StatesOk t.length 4 (col t c) := by
  refine ⟨fun s hs => ?_, by simp [col]⟩
  obtain ⟨row, hr, rfl⟩ := List.mem_map.1 hs
  obtain ⟨h1, h2⟩ := ht.2.2 row hr
  have hl : c < row.length := by omega
  rw [rd_nat row c hl]
  exact h1 _ (List.getElem_mem hl)
/-- The length of the first columns. -/
def lenTo (J : List S67) (t : List (List Int)) : Nat → Int
  | 0 => 0
  | c + 1 => wrap64 (lenTo J t c + (fitTo J (col t c) J.length).2)
theorem col_take (t : List (List Int)) (c i : Nat) (hi : i < t.length) : (col t c).take (i + 1) = (col t c).take i ++ [rd (rd_L3 t i) c] := by
  rw [take_up _ i (by simp [col]; exact hi), rd_L3_nat t i hi]
  simp [col]
section
variable {n : Nat} {J : List S67} {t : List (List Int)}
theorem length_ev (hJ : TreeOk n J) (ht : TableOk t) (hn : t.length = n) : Ev (fun k => track_length.f k J t) (lenTo J t (rd_L3 t 0).length) := by
  unfold track_length.f
  have hw := ht.2.1.2
  have h5 := ht.1.2
  have h2 := ht.1.1
  refine Ev.congr (f := fun k => track_length.l0 k J t 0 ((rd_L3 t 0).length : Int) 0) (fun k => if_pos (by omega)) ?_
  have key := up_ind (fun c => Ev (fun k => track_length.l0 k J t (lenTo J t c) ((rd_L3 t 0).length : Int) (c : Int)) (lenTo J t (rd_L3 t 0).length)) (rd_L3 t 0).length ?_ ?_
  · exact key
  · exact Ev.step (f := fun _ => some (lenTo J t (rd_L3 t 0).length)) (fun k => by simp only [track_length.l0]; rw [if_neg (Int.lt_irrefl _)]) (Ev.now _)
  · intro c hc ih
    have p1 : (c : Int) < (rd_L3 t 0).length := by omega
    have p2 : (0 : Int) ≤ c := by omega
    have inner := up_ind (fun i => Ev (fun k => track_length.l1 k J t (lenTo J t c) (c : Int) ((col t c).take i) ((rd_L3 t 0).length : Int) (c : Int) t (t.length : Int) (i : Int)) (lenTo J t (rd_L3 t 0).length)) t.length ?_ ?_
    · exact Ev.step (f := fun k => track_length.l1 k J t (lenTo J t c) (c : Int) [] ((rd_L3 t 0).length : Int) (c : Int) t (t.length : Int) ((0 : Nat) : Int)) (fun k => by simp only [track_length.l0]; rw [if_pos p1]; rfl) inner
    · have hcl : (col t c).length = t.length := by simp [col]
      refine Ev.step (f := fun k => (track_fitch.f k J (col t c)).bind fun b => track_length.l0 k J t (wrap64 (lenTo J t c + b.2)) ((rd_L3 t 0).length : Int) ((c + 1 : Nat) : Int)) (fun k => ?_) ?_
      · simp only [track_length.l1]
        rw [if_neg (Int.lt_irrefl _), List.take_of_length_le (Nat.le_of_eq hcl), succ_w c (by omega)]
      · exact Ev.bind (fitch_ev hJ (hn ▸ col_ok ht c hc)) ih
    · intro i hi ihi
      have q1 : (i : Int) < t.length := by omega
      have q2 : (0 : Int) ≤ i := by omega
      have hrow := (ht.2.2 _ (List.getElem_mem hi)).2
      have q3 : (c : Int) < ((rd_L3 t i).length : Int) := by rw [rd_L3_nat t i hi]; omega
      have q4 : ((col t c).take i).length < 17592186044416 := by rw [List.length_take]; omega
      refine Ev.step (fun k => ?_) ihi
      simp only [track_length.l1]
      rw [if_pos q1, if_pos q2, if_pos q1, if_pos p2, if_pos q3, if_pos q4, succ_w i (by omega), col_take t c i hi]
end

end Go.Proofs.Ytcphmeeighhdjaa.Pure

-- out of RB
namespace Go.Proofs.Ytcphmeeighhdjaa.Pure
open Go Go.Proofs Go.RowKit Go.Proofs.Ytcphmeeighhdjaa.P Go.Proofs.YtcphmeeighhdjaaW.PrintWords Go.Proofs.YtcphmeeighhdjaaW.PrintLast
set_option linter.unusedVariables false

theorem u8_le {x : Int} (h : (Lit.int .u8 x).wf = true) : 0 ≤ x ∧ x ≤ 255 := by
  unfold Lit.wf at h
  rw [Bool.and_eq_true, decide_eq_true_eq, decide_eq_true_eq] at h
  have e1 : IntKind.min .u8 = 0 := rfl
  have e2 : IntKind.max .u8 = 255 := rfl
  rw [e1, e2] at h
  exact h

/-! ## Trees out of arbitrary numbers -/
theorem rd_T67_old (l : List S67) (x : S67) (v : Nat) (h : v < l.length) : rd_T67 (l ++ [x]) v = rd_T67 l v := by
  unfold rd_T67
  rw [Int.toNat_natCast, List.getD_eq_getElem?_getD, List.getD_eq_getElem?_getD, List.getElem?_append_left h]
theorem rd_T67_new (l : List S67) (x : S67) (v : Nat) (h : v = l.length) : rd_T67 (l ++ [x]) v = x := by
  unfold rd_T67
  rw [Int.toNat_natCast, List.getD_eq_getElem?_getD, h]
  simp
theorem usedTo_old (J : List S67) (x : S67) (i : Nat) (h : i ≤ J.length) : usedTo (J ++ [x]) i = usedTo J i := by
  induction i with
  | zero => rfl
  | succ i ih => simp only [usedTo]; rw [ih (by omega), rd_T67_old J x i (by omega)]
theorem joinOk_old {n : Int} {J : List S67} {x : S67} {i : Nat} (hi : i < J.length) (h : JoinOk n J i) : JoinOk n (J ++ [x]) i := by
  unfold JoinOk at h ⊢
  rw [rd_T67_old J x i hi, usedTo_old J x i (by omega)]
  exact h
/-- Roots that are left. -/
structure RootsOk (n : Nat) (J : List S67) (R : List Int) : Prop where
  len : R.length + J.length = n
  nd : R.Nodup
  free : ∀ v ∈ R, 0 ≤ v ∧ v < n + J.length ∧ v ∉ usedTo J J.length
  joins : ∀ i, i < J.length → JoinOk n J i
/-- The roots without two of them. -/
def restTo (R : List Int) (a c : Nat) : Nat → List Int
  | 0 => []
  | i + 1 => if i = a ∨ i = c then restTo R a c i else restTo R a c i ++ [rd R i]
theorem restTo_mem (R : List Int) (a c i : Nat) (v : Int) (h : v ∈ restTo R a c i) : ∃ j, j < i ∧ j ≠ a ∧ j ≠ c ∧ v = rd R j := by
  induction i with
  | zero => simp [restTo] at h
  | succ i ih =>
    unfold restTo at h
    by_cases e : i = a ∨ i = c
    · rw [if_pos e] at h
      obtain ⟨j, h1, h2⟩ := ih h
      exact ⟨j, by omega, h2⟩
    · rw [if_neg e] at h
      rcases List.mem_append.1 h with h | h
      · obtain ⟨j, h1, h2⟩ := ih h
        exact ⟨j, by omega, h2⟩
      · exact ⟨i, by omega, by omega, by omega, List.mem_singleton.1 h⟩
theorem restTo_length (R : List Int) (a c : Nat) (h : a < R.length) (h2 : c < R.length) (hne : a ≠ c) : (restTo R a c R.length).length + 2 = R.length := by
  have key : ∀ i, (restTo R a c i).length + (if a < i then 1 else 0) + (if c < i then 1 else 0) = i := by
    intro i
    induction i with
    | zero => simp [restTo]
    | succ i ih =>
      unfold restTo
      by_cases e1 : i = a
      · subst e1
        rw [if_pos (.inl rfl)]
        rw [if_neg (by omega)] at ih
        rw [if_pos (by omega)]
        by_cases e2 : c < i
        · rw [if_pos e2] at ih; rw [if_pos (by omega)]; omega
        · rw [if_neg e2] at ih; rw [if_neg (by omega)]; omega
      · by_cases e2 : i = c
        · subst e2
          rw [if_pos (.inr rfl)]
          rw [if_neg (show ¬ i < i by omega)] at ih
          rw [if_pos (show i < i + 1 by omega)]
          by_cases e3 : a < i
          · rw [if_pos e3] at ih; rw [if_pos (by omega)]; omega
          · rw [if_neg e3] at ih; rw [if_neg (by omega)]; omega
        · rw [if_neg (by omega)]
          simp only [List.length_append, List.length_singleton]
          by_cases e3 : a < i <;> by_cases e4 : c < i
          · rw [if_pos e3, if_pos e4] at ih; rw [if_pos (by omega), if_pos (by omega)]; omega
          · rw [if_pos e3, if_neg e4] at ih; rw [if_pos (by omega), if_neg (by omega)]; omega
          · rw [if_neg e3, if_pos e4] at ih; rw [if_neg (by omega), if_pos (by omega)]; omega
          · rw [if_neg e3, if_neg e4] at ih; rw [if_neg (by omega), if_neg (by omega)]; omega
  have := key R.length
  rw [if_pos h, if_pos h2] at this
  omega
theorem rd_inj (R : List Int) (hR : R.Nodup) (i j : Nat) (hi : i < R.length) (hj : j < R.length) (h : rd R i = rd R j) : i = j := by
  rw [rd_nat R i hi, rd_nat R j hj] at h
  exact (List.getElem_inj hR).1 h
theorem restTo_nodup (R : List Int) (hR : R.Nodup) (a c i : Nat) (hi : i ≤ R.length) : (restTo R a c i).Nodup := by
  induction i with
  | zero => simp [restTo]
  | succ i ih =>
    unfold restTo
    split
    · exact ih (by omega)
    · rw [List.nodup_append]
      refine ⟨ih (by omega), by simp, fun x hx y hy => ?_⟩
      rw [List.mem_singleton] at hy
      obtain ⟨j, h1, _, _, rfl⟩ := restTo_mem R a c i x hx
      rw [hy]
      exact fun e => by have := rd_inj R hR j i (by omega) (by omega) e; omega
theorem roots_step (n : Nat) (J : List S67) (R : List Int) (h : RootsOk n J R) (a c : Nat) (ha : a < R.length) (hc : c < R.length) (hne : a ≠ c) :
    RootsOk n (J ++ [(⟨rd R a, rd R c⟩ : S67)]) (restTo R a c R.length ++ [((n + J.length : Nat) : Int)]) := by
  have hfa := h.free (rd R a) (by rw [rd_nat R a ha]; exact List.getElem_mem ha)
  have hfc := h.free (rd R c) (by rw [rd_nat R c hc]; exact List.getElem_mem hc)
  have hac : rd R c ≠ rd R a := fun e => hne (rd_inj R h.nd c a hc ha e).symm
  have hu : usedTo (J ++ [(⟨rd R a, rd R c⟩ : S67)]) (J ++ [(⟨rd R a, rd R c⟩ : S67)]).length = usedTo J J.length ++ [rd R a] ++ [rd R c] := by
    rw [List.length_append, List.length_singleton]
    simp only [usedTo]
    rw [usedTo_old J _ _ (Nat.le_refl _), rd_T67_new J _ _ rfl]
  have used_lt : ∀ m, m ≤ J.length → ∀ x ∈ usedTo J m, x < n + m := by
    intro m
    induction m with
    | zero => intro _ x hx; simp [usedTo] at hx
    | succ m ihm =>
      intro hm' x hx
      obtain ⟨⟨p0, p1, p2⟩, q0, q1, q2⟩ := h.joins m (by omega)
      simp only [usedTo, List.mem_append, List.mem_singleton] at hx
      rcases hx with (hx | hx) | hx
      · have := ihm (by omega) x hx; omega
      · omega
      · omega
  refine ⟨?_, ?_, ?_, ?_⟩
  · have := restTo_length R a c ha hc hne
    have := h.len
    simp only [List.length_append, List.length_singleton]
    omega
  · rw [List.nodup_append]
    refine ⟨restTo_nodup R h.nd a c _ (Nat.le_refl _), by simp, fun x hx y hy => ?_⟩
    rw [List.mem_singleton] at hy
    obtain ⟨j, h1, _, _, rfl⟩ := restTo_mem R a c _ x hx
    have := (h.free (rd R j) (by rw [rd_nat R j h1]; exact List.getElem_mem h1)).2.1
    omega
  · intro v hv
    rw [hu]
    simp only [List.length_append, List.length_singleton, List.mem_append, List.mem_singleton, not_or]
    rcases List.mem_append.1 hv with hv | hv
    · obtain ⟨j, h1, h2, h3, rfl⟩ := restTo_mem R a c _ v hv
      obtain ⟨f1, f2, f3⟩ := h.free (rd R j) (by rw [rd_nat R j h1]; exact List.getElem_mem h1)
      exact ⟨f1, by omega, ⟨f3, fun e => h2 (rd_inj R h.nd j a h1 ha e)⟩, fun e => h3 (rd_inj R h.nd j c h1 hc e)⟩
    · rw [List.mem_singleton] at hv
      refine ⟨by omega, by omega, ⟨fun hx => ?_, by omega⟩, by omega⟩
      have := used_lt _ (Nat.le_refl _) _ hx
      omega
  · intro i hi
    simp only [List.length_append, List.length_singleton] at hi
    by_cases e : i < J.length
    · exact joinOk_old e (h.joins i e)
    · obtain rfl : i = J.length := by omega
      unfold JoinOk
      rw [rd_T67_new J _ _ rfl, usedTo_old J _ _ (Nat.le_refl _)]
      refine ⟨⟨hfa.1, hfa.2.1, hfa.2.2⟩, hfc.1, hfc.2.1, ?_⟩
      simp only [List.mem_append, List.mem_singleton, not_or]
      exact ⟨hfc.2.2, hac⟩
end Go.Proofs.Ytcphmeeighhdjaa.Pure

-- out of RN
namespace Go.Proofs.Ytcphmeeighhdjaa.Pure
open Go Go.Proofs Go.RowKit Go.Proofs.Ytcphmeeighhdjaa.P Go.Proofs.YtcphmeeighhdjaaW.PrintWords Go.Proofs.YtcphmeeighhdjaaW.PrintLast
set_option linter.unusedVariables false

section
variable {n : Nat} {J : List S67} {C : List (List Int)} {L : List Int}
end
end Go.Proofs.Ytcphmeeighhdjaa.Pure

-- out of RS
namespace Go.Proofs.Ytcphmeeighhdjaa.Pure
open Go Go.Proofs Go.RowKit Go.Proofs.Ytcphmeeighhdjaa.P Go.Proofs.YtcphmeeighhdjaaW.PrintWords Go.Proofs.YtcphmeeighhdjaaW.PrintLast
set_option linter.unusedVariables false
/-- The length of a tree for a table. -/
def LV (t : List (List Int)) (J : List S67) : Int := lenTo J t (rd_L3 t 0).length
theorem fit_few (J : List S67) (L : List Int) (m : Nat) (hm : m ≤ 1000) : 0 ≤ (fitTo J L m).2 ∧ (fitTo J L m).2 ≤ m := by
  induction m with
  | zero => exact ⟨Int.le_refl _, Int.le_refl _⟩
  | succ m ih =>
    have i := ih (by omega)
    simp only [fitTo]
    split
    · show 0 ≤ wrap64 ((fitTo J L m).2 + 1) ∧ wrap64 ((fitTo J L m).2 + 1) ≤ _
      rw [w64 _ (by omega) (by omega)]; omega
    · show 0 ≤ (fitTo J L m).2 ∧ (fitTo J L m).2 ≤ _
      omega
theorem len_few (J : List S67) (t : List (List Int)) (hJ : J.length ≤ 1000) (c : Nat) (hc : c ≤ 1000) : 0 ≤ lenTo J t c ∧ lenTo J t c ≤ c * 1000 := by
  induction c with
  | zero => exact ⟨Int.le_refl _, Int.le_refl _⟩
  | succ c ih =>
    have i := ih (by omega)
    have f := fit_few J (col t c) J.length hJ
    simp only [lenTo]
    rw [w64 _ (by omega) (by omega)]; omega
/-- J' goes on from J with the roots O, m joins being left. -/
def Ends (n : Nat) : Nat → List S67 → List Int → List S67 → Prop
  | 0, J, _, J' => J' = J
  | m + 1, J, O, J' => ∃ i c, i < c ∧ c < O.length ∧ Ends n m (J ++ [(⟨rd O i, rd O c⟩ : S67)]) (restTo O i c O.length ++ [((n + J.length : Nat) : Int)]) J'
theorem ends_ok (n : Nat) (h2 : 2 ≤ n) (h8 : n ≤ 8) : ∀ m J O J', RootsOk n J O → O.length = m + 1 → Ends n m J O J' → TreeOk n J'
  | 0, J, O, J', h, hl, e => by
    have e' : J' = J := e
    subst e'
    exact ⟨by omega, by omega, by have := h.len; omega, h.joins⟩
  | m + 1, J, O, J', h, hl, ⟨i, c, h1, h3, e⟩ => ends_ok n h2 h8 m _ _ J' (roots_step n J O h i c (by omega) h3 (by omega)) (by rw [List.length_append, List.length_singleton]; have := restTo_length O i c (by omega) h3 (by omega); omega) e
theorem rest_len (O : List Int) (i c m : Nat) (x : Int) (h1 : i < c) (h3 : c < O.length) (hl : O.length = m + 1 + 1) : (restTo O i c O.length ++ [x]).length = m + 1 := by
  rw [List.length_append, List.length_singleton]
  have := restTo_length O i c (by omega) h3 (by omega)
  omega
theorem rest_is (O : List Int) (hO : O.Nodup) (i c : Nat) (hi : i < O.length) (hc : c < O.length) : restOf O (rd O i) (rd O c) = restTo O i c O.length := by
  have key : ∀ m, m ≤ O.length → (O.take m).filter (fun x => !(x == rd O i || x == rd O c)) = restTo O i c m := by
    intro m
    induction m with
    | zero => intro _; rfl
    | succ m ih =>
      intro hm
      have hm' : m < O.length := by omega
      rw [take_up O m hm', List.filter_append, ih (by omega)]
      have e0 : O[m] = rd O m := (rd_nat O m hm').symm
      show _ = (if m = i ∨ m = c then restTo O i c m else restTo O i c m ++ [rd O m])
      by_cases c0 : m = i ∨ m = c
      · rw [if_pos c0]
        have hb : (O[m] == rd O i || O[m] == rd O c) = true := by
          rw [e0]
          rcases c0 with rfl | rfl
          · simp
          · simp
        simp only [List.filter_cons, hb, List.filter_nil, Bool.not_true]
        rw [if_neg (by simp), List.append_nil]
      · rw [if_neg c0]
        have hb : (O[m] == rd O i || O[m] == rd O c) = false := by
          rw [e0, Bool.or_eq_false_iff, beq_eq_false_iff_ne, beq_eq_false_iff_ne]
          exact ⟨fun e => c0 (.inl (rd_inj O hO m i hm' hi e)), fun e => c0 (.inr (rd_inj O hO m c hm' hc e))⟩
        simp only [List.filter_cons, hb, List.filter_nil, Bool.not_false, if_true]
        rw [e0]
  have := key O.length (Nat.le_refl _)
  rw [List.take_length] at this
  exact this
theorem dropR (l : List Int) (i : Nat) (h : i < l.length) : l.drop i = rd l i :: l.drop (i + 1) := by
  rw [List.drop_eq_getElem_cons h, rd_nat l i h]
section
variable {n : Nat} {t : List (List Int)} (h2 : 2 ≤ n) (h8 : n ≤ 8) (ht : TableOk t) (hn : t.length = n)
include h2 h8 ht hn
/-- What is known of the search in the midst: of all pairs so far. -/
theorem best_ev : ∀ m J O, RootsOk n J O → O.length = m + 1 → ∃ J', Ev (fun k => bestM k t m J O) (LV t J', J') ∧ Ends n m J O J' ∧ ∀ J'', Ends n m J O J'' → LV t J' ≤ LV t J''
  | 0, J, O, h, hl => by
    have hT := ends_ok n h2 h8 0 J O J h hl rfl
    refine ⟨J, ?_, rfl, fun J'' e => by rw [show J'' = J from e]; exact Int.le_refl _⟩
    show Ev (fun k => (track_length.f k J t).bind fun r => some (r, J)) _
    exact Ev.bind (length_ev hT ht hn) (Ev.now _)
  | m + 1, J, O, h, hl => by
    have hT : ∀ J', Ends n (m + 1) J O J' → 0 ≤ LV t J' := fun J' e => by
      have := ends_ok n h2 h8 (m + 1) J O J' h hl e
      exact (len_few J' t (by have := this.2.2.1; omega) _ (by have := ht.2.1.2; omega)).1
    obtain ⟨F, hF⟩ : ∃ F : Nat → Int → Int → Option (Int × List S67), (fun k a b => bestM k t m (J ++ [⟨a, b⟩]) (restOf O a b ++ [((t.length + J.length : Nat) : Int)])) = F := ⟨_, rfl⟩
    have hsub : ∀ i c, i < c → c < O.length → ∃ J', Ev (fun k => F k (rd O i) (rd O c)) (LV t J', J') ∧ Ends n (m + 1) J O J' ∧ ∀ J'', Ends n m (J ++ [(⟨rd O i, rd O c⟩ : S67)]) (restTo O i c O.length ++ [((n + J.length : Nat) : Int)]) J'' → LV t J' ≤ LV t J'' := by
      intro i c h1 h3
      obtain ⟨J', e1, e2, e3⟩ := best_ev m _ _ (roots_step n J O h i c (by omega) h3 (by omega)) (rest_len O i c m _ h1 h3 hl)
      refine ⟨J', ?_, ⟨i, c, h1, h3, e2⟩, e3⟩
      rw [← hF]
      show Ev (fun k => bestM k t m (J ++ [⟨rd O i, rd O c⟩]) (restOf O (rd O i) (rd O c) ++ [((t.length + J.length : Nat) : Int)])) _
      rw [rest_is O h.nd i c (by omega) h3, hn]
      exact e1
    have e0 : (fun k => bestM k t (m + 1) J O) = fun k => bOut (F k) O (-1, []) := by rw [← hF]; rfl
    rw [e0]
    -- the invariant: of the pairs ahead of (i, c)
    let Ahead := fun (i c : Nat) (acc : Int × List S67) => (∀ i' c', i' < c' → c' < O.length → (i' < i ∨ i' = i ∧ c' < c) → ∀ J'', Ends n m (J ++ [(⟨rd O i', rd O c'⟩ : S67)]) (restTo O i' c' O.length ++ [((n + J.length : Nat) : Int)]) J'' → acc.1 ≤ LV t J'') ∧ ((acc.1 = -1 ∧ i = 0 ∧ c ≤ 1) ∨ (acc.1 = LV t acc.2 ∧ Ends n (m + 1) J O acc.2))
    have step : ∀ i c acc, i < c → c < O.length → Ahead i c acc → ∀ J', Ends n (m + 1) J O J' → (∀ J'', Ends n m (J ++ [(⟨rd O i, rd O c⟩ : S67)]) (restTo O i c O.length ++ [((n + J.length : Nat) : Int)]) J'' → LV t J' ≤ LV t J'') → Ahead i (c + 1) (btr acc (LV t J', J')) := by
      intro i c acc h1 h3 ha J' e1 e2
      have hp := hT J' e1
      unfold btr
      split
      · rename_i hc
        refine ⟨fun i' c' q1 q2 q3 J'' e => ?_, .inr ⟨rfl, e1⟩⟩
        by_cases hx : i' = i ∧ c' = c
        · obtain ⟨rfl, rfl⟩ := hx; exact e2 J'' e
        · have hle := ha.1 i' c' q1 q2 (by omega) J'' e
          rcases hc with hc | hc
          · rcases ha.2 with ⟨_, hi0, hc1⟩ | ⟨e3, e4⟩
            · omega
            · have := hT _ e4; omega
          · have hc' : LV t J' < acc.1 := hc
            show LV t J' ≤ _
            omega
      · rename_i hc
        have hc1 : ¬ acc.1 < 0 := fun x => hc (.inl x)
        have hc2 : ¬ LV t J' < acc.1 := fun x => hc (.inr x)
        refine ⟨fun i' c' q1 q2 q3 J'' e => ?_, ?_⟩
        · by_cases hx : i' = i ∧ c' = c
          · obtain ⟨rfl, rfl⟩ := hx
            have := e2 J'' e
            omega
          · exact ha.1 i' c' q1 q2 (by omega) J'' e
        · rcases ha.2 with ⟨e3, _⟩ | e3
          · omega
          · exact .inr e3
    have inner : ∀ i, i < O.length → ∀ d c acc, c + d = O.length → i < c → Ahead i c acc → ∃ acc', Ev (fun k => bIn (F k) (rd O i) (O.drop c) acc) acc' ∧ Ahead (i + 1) 0 acc' := by
      intro i hi d
      induction d with
      | zero =>
        intro c acc hc hic ha
        refine ⟨acc, ?_, fun i' c' q1 q2 q3 J'' e => ha.1 i' c' q1 q2 (by omega) J'' e, ?_⟩
        · rw [List.drop_of_length_le (by omega)]
          exact Ev.now _
        · rcases ha.2 with ⟨_, e1, e2⟩ | e
          · omega
          · exact .inr e
      | succ d ih =>
        intro c acc hc hic ha
        obtain ⟨J', e1, e2, e3⟩ := hsub i c hic (by omega)
        obtain ⟨acc', e4, e5⟩ := ih (c + 1) _ (by omega) (by omega) (step i c acc hic (by omega) ha J' e2 e3)
        refine ⟨acc', ?_, e5⟩
        rw [dropR O c (by omega)]
        exact Ev.bind e1 e4
    have outer : ∀ d i acc, i + d = O.length → Ahead i 0 acc → ∃ acc', Ev (fun k => bOut (F k) (O.drop i) acc) acc' ∧ Ahead O.length 0 acc' := by
      intro d
      induction d with
      | zero =>
        intro i acc hi ha
        obtain rfl : i = O.length := by omega
        refine ⟨acc, ?_, ha⟩
        rw [List.drop_of_length_le (Nat.le_refl _)]
        exact Ev.now _
      | succ d ih =>
        intro i acc hi ha
        obtain ⟨acc1, e1, e2⟩ := inner i (by omega) (O.length - (i + 1)) (i + 1) acc (by omega) (by omega) ⟨fun i' c' q1 q2 q3 J'' e => ha.1 i' c' q1 q2 (by omega) J'' e, by
          rcases ha.2 with ⟨x, y, _⟩ | x
          · exact .inl ⟨x, y, by omega⟩
          · exact .inr x⟩
        obtain ⟨acc2, e3, e4⟩ := ih (i + 1) acc1 (by omega) e2
        refine ⟨acc2, ?_, e4⟩
        rw [dropR O i (by omega)]
        exact Ev.bind e1 e3
    obtain ⟨acc', e1, e2⟩ := outer O.length 0 (-1, []) (by omega) ⟨fun i' c' q1 q2 q3 => by omega, .inl ⟨rfl, rfl, by omega⟩⟩
    rw [List.drop_zero] at e1
    rcases e2.2 with ⟨_, x, _⟩ | ⟨x, y⟩
    · omega
    · refine ⟨acc'.2, by rw [← x]; exact e1, y, ?_⟩
      rintro J'' ⟨i, c, q1, q2, q3⟩
      rw [← x]
      exact e2.1 i c q1 q2 (by omega) J'' q3
-- the rest, as the reference lays it
end
end Go.Proofs.Ytcphmeeighhdjaa.Pure

-- out of PureTrackBests
namespace Go.Proofs.Ytcphmeeighhdjaa.Pure
open Go Go.Proofs Go.RowKit Go.Proofs.Ytcphmeeighhdjaa.P Go.Proofs.YtcphmeeighhdjaaW.PrintWords Go.Proofs.YtcphmeeighhdjaaW.PrintLast
set_option linter.unusedVariables false
theorem all_ev (t : List (List Int)) (ht : t.length ≤ 1000) : Ev (fun k => track_all.f k t) ((List.range t.length).map (fun v : Nat => (v : Int))) := by
  unfold track_all.f
  have key := up_ind (fun i => Ev (fun k => track_all.l0 k ((List.range i).map (fun v : Nat => (v : Int))) (t.length : Int) (i : Int)) ((List.range t.length).map (fun v : Nat => (v : Int)))) t.length ?_ ?_
  · exact key
  · exact Ev.step (f := fun _ => some ((List.range t.length).map (fun v : Nat => (v : Int)))) (fun k => by simp only [track_all.l0]; rw [if_neg (by omega)]) (Ev.now _)
  · intro i hi ih
    refine Ev.step (f := fun k => track_all.l0 k ((List.range (i + 1)).map (fun v : Nat => (v : Int))) (t.length : Int) ((i + 1 : Nat) : Int)) (fun k => ?_) ih
    simp only [track_all.l0]
    rw [if_pos (by omega), if_pos (by simp; omega), succ_w i (by omega), range_succ_map]
theorem roots_all (q : Nat) : RootsOk q [] ((List.range q).map (fun v : Nat => (v : Int))) := by
  refine ⟨by simp, ?_, ?_, fun i hi => absurd hi (by simp)⟩
  · refine List.pairwise_map.2 (List.Pairwise.imp (fun h => ?_) (List.nodup_range (n := q)))
    omega
  · intro v hv
    obtain ⟨u, hu, rfl⟩ := List.mem_map.1 hv
    have := List.mem_range.1 hu
    exact ⟨by omega, by simp; omega, by simp [usedTo]⟩
end Go.Proofs.Ytcphmeeighhdjaa.Pure

-- out of RG
namespace Go.Proofs.Ytcphmeeighhdjaa.Pure
open Go Go.Proofs Go.RowKit Go.Proofs.Ytcphmeeighhdjaa.P Go.Proofs.YtcphmeeighhdjaaW.PrintWords Go.Proofs.YtcphmeeighhdjaaW.PrintLast
set_option linter.unusedVariables false
/-- All that Ends tells, as a list. -/
def endsL (n : Nat) : Nat → List S67 → List Int → List (List S67)
  | 0, J, _ => [J]
  | m + 1, J, O => (List.range O.length).flatMap fun (c : Nat) => (List.range c).flatMap fun (i : Nat) => endsL n m (J ++ [(⟨rd O i, rd O c⟩ : S67)]) (restTo O i c O.length ++ [((n + J.length : Nat) : Int)])
theorem ends_mem (n : Nat) : ∀ m J O J', J' ∈ endsL n m J O ↔ Ends n m J O J'
  | 0, J, O, J' => by unfold endsL Ends; exact List.mem_singleton
  | m + 1, J, O, J' => by
    unfold endsL Ends
    constructor
    · intro h
      obtain ⟨c, hc, h⟩ := List.mem_flatMap.1 h
      obtain ⟨i, hi, h⟩ := List.mem_flatMap.1 h
      exact ⟨i, c, List.mem_range.1 hi, List.mem_range.1 hc, (ends_mem n m _ _ J').1 h⟩
    · rintro ⟨i, c, h1, h3, h⟩
      exact List.mem_flatMap.2 ⟨c, List.mem_range.2 h3, List.mem_flatMap.2 ⟨i, List.mem_range.2 h1, (ends_mem n m _ _ J').2 h⟩⟩
def treesOf (n : Nat) : List (List S67) := endsL n (n - 1) [] ((List.range n).map (fun v : Nat => (v : Int)))
/-- All columns of n states 0 and 1. -/
def colsOf : Nat → List (List Int)
  | 0 => [[]]
  | n + 1 => (colsOf n).flatMap fun l => [0 :: l, 1 :: l]
theorem cols_mem : ∀ n l, l.length = n → (∀ x ∈ l, 0 ≤ x ∧ x < 2) → l ∈ colsOf n
  | 0, [], _, _ => List.mem_singleton.2 rfl
  | n + 1, x :: l, hl, hx => by
    unfold colsOf
    refine List.mem_flatMap.2 ⟨l, cols_mem n l (by simpa using hl) (fun y hy => hx y (List.mem_cons_of_mem _ hy)), ?_⟩
    have := hx x List.mem_cons_self
    have : x = 0 ∨ x = 1 := by omega
    rcases this with rfl | rfl <;> simp
/-- A column as a number. -/
def numOf : List Int → Nat
  | [] => 0
  | x :: l => x.toNat + 2 * numOf l
/-- The number of different states, less one. -/
def dist (l : List Int) : Int := if l.any (fun x => x == 0) && l.any (fun x => x == 1) then 1 else 0
def fitN (J : List S67) (c : List Int) : Int := (fitTo J c J.length).2
def lit2 : List Nat :=
  [15]
def lit3 : List Nat :=
  [255, 255, 255]
def lit4 : List Nat :=
  [63903, 63903, 63903, 60855, 60855, 60855, 60375, 60375, 60375, 60375, 60375, 60375, 60855, 60855, 60855, 63903, 63903, 63903]
def lit5 : List Nat :=
  [4169765151, 4169765151, 4169765151, 4170287391, 4170287391, 4170287391, 4186014111, 4186014111, 4186014111, 4186014111, 4186014111, 4186014111, 4170287391
   , 4170287391, 4170287391, 4169765151, 4169765151, 4169765151, 3970008375, 3970008375, 3970008375, 3968180535, 3968180535, 3968180535, 3984687543, 3984687543
   , 3984687543, 3984687543, 3984687543, 3984687543, 3968180535, 3968180535, 3968180535, 3970008375, 3970008375, 3970008375, 3938550615, 3938550615, 3938550615
   , 3934503255, 3934503255, 3934503255, 3951133143, 3951133143, 3951133143, 3951133143, 3951133143, 3951133143, 3934503255, 3934503255, 3934503255, 3938550615
   , 3938550615, 3938550615, 3938550615, 3938550615, 3938550615, 3905266455, 3905266455, 3905266455, 3906046743, 3906046743, 3906046743, 3906046743, 3906046743
   , 3906046743, 3905266455, 3905266455, 3905266455, 3938550615, 3938550615, 3938550615, 3970008375, 3970008375, 3970008375, 3903046935, 3903046935, 3903046935
   , 3903950103, 3903950103, 3903950103, 3903950103, 3903950103, 3903950103, 3903046935, 3903046935, 3903046935, 3970008375, 3970008375, 3970008375, 4169765151
   , 4169765151, 4169765151, 3901477143, 3901477143, 3901477143, 3901600023, 3901600023, 3901600023, 3901600023, 3901600023, 3901600023, 3901477143, 3901477143
   , 3901477143, 4169765151, 4169765151, 4169765151, 3934503255, 3934503255, 3934503255, 3903046935, 3903046935, 3903046935, 3901477143, 3901477143, 3901477143
   , 3901477143, 3901477143, 3901477143, 3903046935, 3903046935, 3903046935, 3934503255, 3934503255, 3934503255, 3968180535, 3968180535, 3968180535, 3905266455
   , 3905266455, 3905266455, 3901600023, 3901600023, 3901600023, 3901600023, 3901600023, 3901600023, 3905266455, 3905266455, 3905266455, 3968180535, 3968180535
   , 3968180535, 4170287391, 4170287391, 4170287391, 3906046743, 3906046743, 3906046743, 3903950103, 3903950103, 3903950103, 3903950103, 3903950103, 3903950103
   , 3906046743, 3906046743, 3906046743, 4170287391, 4170287391, 4170287391, 4186014111, 4186014111, 4186014111, 3984687543, 3984687543, 3984687543, 3951133143
   , 3951133143, 3951133143, 3951133143, 3951133143, 3951133143, 3984687543, 3984687543, 3984687543, 4186014111, 4186014111, 4186014111]
def litOf : Nat → List Nat
  | 2 => lit2 | 3 => lit3 | 4 => lit4 | 5 => lit5 | _ => []
def okA (n : Nat) : Bool := ((treesOf n).length == (litOf n).length) && ((treesOf n).zip (litOf n)).all fun p => (colsOf n).all fun c => decide (dist c ≤ fitN p.1 c) && (p.2.testBit (numOf c) == decide (fitN p.1 c = dist c))
theorem okA2 : okA 2 = true := by decide +kernel
theorem okA3 : okA 3 = true := by decide +kernel
theorem okA4 : okA 4 = true := by decide +kernel
theorem okA5 : okA 5 = true := by decide +kernel
/-- The pairs of states that occur in two columns, as bits. -/
def prTo (a b : List Int) : Nat → Int
  | 0 => 0
  | i + 1 => Go.bits .or .i64 (prTo a b i) (shl .i64 1 (wrap64 (wrap64 (2 * rd a i) + rd b i)))
/-- The states that occur in a column, as bits. -/
def fsTo (a : List Int) : Nat → Int
  | 0 => 0
  | i + 1 => Go.bits .or .i64 (fsTo a i) (shl .i64 1 (rd a i))
def okB (n : Nat) : Bool := (colsOf n).all fun a => (((woggleref01_Members.f 40 (fsTo a n)).map fun l => (l.length : Int)) == some (dist a + 1)) && (colsOf n).all fun b =>
  decide (prTo a b n ≤ 15) && (((litOf n).any fun g => g.testBit (numOf a) && g.testBit (numOf b)) == decide (prTo a b n ≠ 15))
theorem okB2 : okB 2 = true := by decide +kernel
theorem okB3 : okB 3 = true := by decide +kernel
theorem okB4 : okB 4 = true := by decide +kernel
theorem okB5 : okB 5 = true := by decide +kernel
theorem okAB (n : Nat) (h2 : 2 ≤ n) (h5 : n ≤ 5) : okA n = true ∧ okB n = true := by
  have : n = 2 ∨ n = 3 ∨ n = 4 ∨ n = 5 := by omega
  rcases this with rfl | rfl | rfl | rfl
  · exact ⟨okA2, okB2⟩
  · exact ⟨okA3, okB3⟩
  · exact ⟨okA4, okB4⟩
  · exact ⟨okA5, okB5⟩
end Go.Proofs.Ytcphmeeighhdjaa.Pure

-- out of PureTrackGametes
namespace Go.Proofs.Ytcphmeeighhdjaa.Pure
open Go Go.Proofs Go.RowKit Go.Proofs.Ytcphmeeighhdjaa.P Go.Proofs.YtcphmeeighhdjaaW.PrintWords Go.Proofs.YtcphmeeighhdjaaW.PrintLast
set_option linter.unusedVariables false
/-- A table of n rows and m columns, its states below q. -/
def TabOf (n m q : Nat) (t : List (List Int)) : Prop := t.length = n ∧ ∀ row ∈ t, row.length = m ∧ ∀ s ∈ row, 0 ≤ s ∧ s < q
theorem tab_rows (n m q : Nat) (x : List Int) (hx : x.length ≤ maxLen ∧ ∀ v ∈ x, (Lit.int .u8 v).wf = true) (hn : n ≤ 10) (hm : m ≤ 10) (h1 : 1 ≤ q) (h4 : q ≤ 10) :
    ∃ t, Ev (fun k => wogglelaw02_table.f k n m q x) t ∧ TabOf n m q t := by
  unfold wogglelaw02_table.f
  have hml : maxLen = 9223372036854775807 := rfl
  have hxl := hx.1
  rw [hml] at hxl
  have key := up_ind (fun i => ∀ t : List (List Int), TabOf i m q t → ∃ R, Ev (fun k => wogglelaw02_table.l0 k n m q x t (i : Int)) R ∧ TabOf n m q R) n ?_ ?_
  · exact key [] ⟨rfl, fun row hr => by simp at hr⟩
  · intro t ht
    refine ⟨t, Ev.step (f := fun _ => some t) (fun k => ?_) (Ev.now _), ht⟩
    simp only [wogglelaw02_table.l0]
    rw [if_neg (Int.lt_irrefl _)]
  · intro i hi ih t ht
    have p1 : (i : Int) < n := by omega
    have inner := up_ind (fun j => ∀ row : List Int, (∀ c ∈ row, 0 ≤ c ∧ c < q) → row.length = j → ∃ R, Ev (fun k => wogglelaw02_table.l1 k n m q x t (i : Int) row (j : Int)) R ∧ TabOf n m q R) m ?_ ?_
    · obtain ⟨R, hE, hP⟩ := inner [] (fun c hc => by simp at hc) rfl
      exact ⟨R, Ev.step (f := fun k => wogglelaw02_table.l1 k n m q x t (i : Int) [] ((0 : Nat) : Int)) (fun k => by simp only [wogglelaw02_table.l0]; rw [if_pos p1]; rfl) hE, hP⟩
    · intro row hrow hrl
      obtain ⟨R, hE, hP⟩ := ih (t ++ [row]) ⟨by rw [List.length_append, List.length_singleton, ht.1], fun r hr => by
        rcases List.mem_append.1 hr with h | h
        · exact ht.2 r h
        · rw [List.mem_singleton.1 h]; exact ⟨hrl, hrow⟩⟩
      refine ⟨R, Ev.step (fun k => ?_) hE, hP⟩
      simp only [wogglelaw02_table.l1]
      rw [if_neg (Int.lt_irrefl _), if_pos (show t.length < 5864062014805 by have := ht.1; omega), succ_w i (by omega)]
    · intro j hj ihj row hrow hrl
      have q1 : (j : Int) < m := by omega
      have hij : i * m ≤ 100 := Nat.le_trans (Nat.mul_le_mul (by omega : i ≤ 10) hm) (Nat.le_refl _)
      have W := Aside0.mk (show wrap64 (wrap64 ((i : Int) * (m : Int)) + (j : Int)) = ((i * m + j : Nat) : Int) by
        have e : (i : Int) * (m : Int) = ((i * m : Nat) : Int) := (Int.natCast_mul i m).symm
        rw [e, w64 ((i * m : Nat) : Int) (by omega) (by omega), w64 _ (by omega) (by omega)]
        omega)
      have q2 : (0 : Int) ≤ ((i * m + j : Nat) : Int) := by omega
      have q3 : row.length < 17592186044416 := by omega
      have q0 : ¬ ((q : Int) = 0) := by omega
      have app : ∀ v : Int, 0 ≤ v → v < q → ∀ c ∈ row ++ [v], 0 ≤ c ∧ c < q := by
        intro v v0 v1 c hc
        rcases List.mem_append.1 hc with h | h
        · exact hrow c h
        · rw [List.mem_singleton.1 h]; exact ⟨v0, v1⟩
      generalize i * m + j = ix at *
      by_cases c : ix < x.length
      · have hv := u8_le (hx.2 _ (List.getElem_mem c))
        have e1 : Int.tmod (wrap64 x[ix]) q = x[ix] % q := by rw [w64 x[ix] (by omega) (by omega), Int.tmod_eq_emod_of_nonneg hv.1]
        have E1 := Aside0.mk e1
        clear e1
        have e2 := Int.emod_nonneg x[ix] q0
        have e3 := Int.emod_lt_of_pos x[ix] (show (0 : Int) < q by omega)
        obtain ⟨R, hE, hP⟩ := ihj (row ++ [x[ix] % q]) (app _ e2 e3) (by rw [List.length_append, List.length_singleton]; omega)
        refine ⟨R, Ev.step (fun k => ?_) hE, hP⟩
        have q4 : ((ix : Nat) : Int) < x.length := by omega
        simp only [wogglelaw02_table.l1]
        rw [if_pos q1, W.out, if_pos q4, if_pos q2, if_neg q0, if_pos q3, rd_nat x ix c, E1.out, succ_w j (by omega)]
      · obtain ⟨R, hE, hP⟩ := ihj (row ++ [0]) (app 0 (by omega) (by omega)) (by rw [List.length_append, List.length_singleton]; omega)
        refine ⟨R, Ev.step (fun k => ?_) hE, hP⟩
        have q4 : ¬ ((ix : Nat) : Int) < x.length := by omega
        simp only [wogglelaw02_table.l1]
        rw [if_pos q1, W.out, if_neg q4, if_pos q3, succ_w j (by omega)]
theorem tab_ok {n m q : Nat} {t : List (List Int)} (h : TabOf n m q t) (h2 : 2 ≤ n) (h5 : n ≤ 5) (m1 : 1 ≤ m) (m6 : m ≤ 6) (q4 : q ≤ 4) : TableOk t ∧ (rd_L3 t 0).length = m := by
  have hl := h.1
  have h0 : (rd_L3 t 0).length = m := by
    have := rd_L3_nat t 0 (by omega)
    rw [show ((0 : Nat) : Int) = 0 from rfl] at this
    rw [this]
    exact (h.2 _ (List.getElem_mem _)).1
  refine ⟨⟨by omega, by omega, fun row hr => ⟨fun s hs => ?_, ?_⟩⟩, h0⟩
  · have := (h.2 row hr).2 s hs; omega
  · have := (h.2 row hr).1; omega
theorem livesG_ev : Ev (fun k => wogglelaw02_lives.f k) true := Ev.of wogglelaw02_lives.mono track_lives_at
/-- What Best answers, and that it is the least of all. -/
theorem Best_least (t : List (List Int)) (ht : TableOk t) : ∃ J', Ends t.length (t.length - 1) [] ((List.range t.length).map (fun v : Nat => (v : Int))) J' ∧ Ev (fun k => track_Best.f k t) (LV t J', 0) ∧
    ∀ J'', Ends t.length (t.length - 1) [] ((List.range t.length).map (fun v : Nat => (v : Int))) J'' → LV t J' ≤ LV t J'' := by
  have h2 := ht.1.1
  have h5 := ht.1.2
  have hr := roots_all t.length
  obtain ⟨J', e1, e2, e3⟩ := best_ev (n := t.length) h2 (by omega) ht rfl (t.length - 1) [] _ hr (by simp; omega)
  have rf := rows_f t
  rw [@decide_eq_true _ (_) ht] at rf
  have hok : OpenOk t [] ((List.range t.length).map (fun v : Nat => (v : Int))) := ⟨hr.nd, fun x hx => by have := hr.free x hx; exact ⟨this.1, this.2.1⟩, by omega, by simp; omega⟩
  have e4 : Ev (fun k => track_best.f k t [] ((List.range t.length).map (fun v : Nat => (v : Int)))) (LV t J', J') := by
    refine Ev.congr (fun k => ?_) e1
    unfold track_best.f
    rw [if_pos ⟨hok, by simp; omega⟩]
    simp
  refine ⟨J', e2, ?_, e3⟩
  unfold track_Best.f
  rw [rf]
  exact Ev.bind (ev_val rfl) (ev_pos rfl (Ev.bind (all_ev t (by omega)) (Ev.bind e4 (Ev.now _))))
/-- All two columns: the four gametes. -/
theorem four (n : Nat) (h2 : 2 ≤ n) (h5 : n ≤ 5) (a b : List Int) (ha : a ∈ colsOf n) (hb : b ∈ colsOf n) :
    (∀ J ∈ treesOf n, dist a ≤ fitN J a ∧ dist b ≤ fitN J b) ∧ ((∃ J ∈ treesOf n, fitN J a = dist a ∧ fitN J b = dist b) ↔ prTo a b n ≠ 15) ∧ prTo a b n ≤ 15 := by
  obtain ⟨hA, hB⟩ := okAB n h2 h5
  unfold okA at hA
  rw [Bool.and_eq_true, beq_iff_eq, List.all_eq_true] at hA
  obtain ⟨hlen, hA⟩ := hA
  have hA' : ∀ p ∈ (treesOf n).zip (litOf n), ∀ c ∈ colsOf n, dist c ≤ fitN p.1 c ∧ (p.2.testBit (numOf c) = decide (fitN p.1 c = dist c)) := by
    intro p hp c hc
    have := hA p hp
    rw [List.all_eq_true] at this
    have := this c hc
    rw [Bool.and_eq_true, decide_eq_true_eq, beq_iff_eq] at this
    exact this
  unfold okB at hB
  rw [List.all_eq_true] at hB
  have hB1 := hB a ha
  rw [Bool.and_eq_true, List.all_eq_true] at hB1
  have hB2 := hB1.2 b hb
  rw [Bool.and_eq_true, decide_eq_true_eq, beq_iff_eq] at hB2
  refine ⟨fun J hJ => ?_, ?_, hB2.1⟩
  · obtain ⟨i, hi, rfl⟩ := List.getElem_of_mem hJ
    have hp : ((treesOf n)[i], (litOf n)[i]'(by omega)) ∈ (treesOf n).zip (litOf n) := by
      have := List.getElem_mem (l := (treesOf n).zip (litOf n)) (n := i) (by rw [List.length_zip]; omega)
      rwa [List.getElem_zip] at this
    exact ⟨(hA' _ hp a ha).1, (hA' _ hp b hb).1⟩
  · have key : (∃ J ∈ treesOf n, fitN J a = dist a ∧ fitN J b = dist b) ↔ ((litOf n).any fun g => g.testBit (numOf a) && g.testBit (numOf b)) = true := by
      rw [List.any_eq_true]
      constructor
      · rintro ⟨J, hJ, e1, e2⟩
        obtain ⟨i, hi, rfl⟩ := List.getElem_of_mem hJ
        have hp : ((treesOf n)[i], (litOf n)[i]'(by omega)) ∈ (treesOf n).zip (litOf n) := by
          have := List.getElem_mem (l := (treesOf n).zip (litOf n)) (n := i) (by rw [List.length_zip]; omega)
          rwa [List.getElem_zip] at this
        refine ⟨(litOf n)[i]'(by omega), List.getElem_mem _, ?_⟩
        rw [(hA' _ hp a ha).2, (hA' _ hp b hb).2, decide_eq_true e1, decide_eq_true e2]; rfl
      · rintro ⟨g, hg, e⟩
        obtain ⟨i, hi, rfl⟩ := List.getElem_of_mem hg
        have hp : ((treesOf n)[i]'(by omega), (litOf n)[i]) ∈ (treesOf n).zip (litOf n) := by
          have := List.getElem_mem (l := (treesOf n).zip (litOf n)) (n := i) (by rw [List.length_zip]; omega)
          rwa [List.getElem_zip] at this
        rw [(hA' _ hp a ha).2, (hA' _ hp b hb).2, Bool.and_eq_true, decide_eq_true_eq, decide_eq_true_eq] at e
        exact ⟨_, List.getElem_mem _, e⟩
    rw [key, hB2.2, decide_eq_true_eq]
theorem firsts (n : Nat) (h2 : 2 ≤ n) (h5 : n ≤ 5) (a : List Int) (ha : a ∈ colsOf n) : ∃ l, Ev (fun k => woggleref01_Members.f k (fsTo a n)) l ∧ (l.length : Int) = dist a + 1 := by
  obtain ⟨_, hB⟩ := okAB n h2 h5
  unfold okB at hB
  rw [List.all_eq_true] at hB
  have hB1 := hB a ha
  rw [Bool.and_eq_true, beq_iff_eq] at hB1
  have h := hB1.1
  cases e : woggleref01_Members.f 40 (fsTo a n) with
  | none => rw [e] at h; cases h
  | some l =>
    rw [e] at h
    exact ⟨l, Ev.of (woggleref01_Members.mono _) e, Option.some.inj h⟩
theorem dist_few (l : List Int) : 0 ≤ dist l ∧ dist l ≤ 1 := by unfold dist; split <;> omega
theorem gametes_all (a0 : Int) (x : List Int) (h0 : (Lit.int .u8 a0).wf = true) (g0 : x.length ≤ maxLen) (g1 : ∀ v ∈ x, (Lit.int .u8 v).wf = true) : ∃ k, wogglelaw02_TrackGametes.f k a0 x = some true := by
  apply Ev.rounds
  have hv := u8_le h0
  have e0 : wrap64 (Int.tmod (wrap64 a0) 4 + 2) = (((a0 % 4 + 2).toNat : Nat) : Int) := by
    rw [w64 a0 (by omega) (by omega), Int.tmod_eq_emod_of_nonneg hv.1, w64 _ (by omega) (by omega)]; omega
  unfold wogglelaw02_TrackGametes.f
  rw [e0]
  obtain ⟨n, hn⟩ : ∃ n, (a0 % 4 + 2).toNat = n := ⟨_, rfl⟩
  rw [hn]
  have h2 : 2 ≤ n := by omega
  have h5 : n ≤ 5 := by omega
  clear hn e0
  obtain ⟨t, e1, hT⟩ := tab_rows n 2 2 x ⟨g0, g1⟩ (by omega) (by omega) (by omega) (by omega)
  obtain ⟨hOk, hw⟩ := tab_ok hT h2 h5 (by omega) (by omega) (by omega)
  obtain ⟨J', e2, e3, e4⟩ := Best_least t hOk
  have hl := hT.1
  rw [hl] at e2 e4
  refine Ev.bind e1 (Ev.bind e3 ?_)
  have ca : ∀ c : Nat, c < 2 → col t c ∈ colsOf n := by
    intro c hc
    refine cols_mem n _ (by simp [col, hl]) (fun s hs => ?_)
    obtain ⟨row, hr, rfl⟩ := List.mem_map.1 hs
    have := hT.2 row hr
    rw [rd_nat row c (by omega)]
    exact this.2 _ (List.getElem_mem _)
  have c0 := ca 0 (by omega)
  have c1 := ca 1 (by omega)
  have lv : ∀ J'' ∈ treesOf n, LV t J'' = fitN J'' (col t 0) + fitN J'' (col t 1) := by
    intro J'' hJ
    have hr := roots_all n
    have hT := ends_ok n h2 (by omega) (n - 1) [] _ J'' hr (by simp; omega) ((ends_mem n _ _ _ _).1 hJ)
    have f0 := fit_few J'' (col t 0) J''.length (by have := hT.2.2.1; omega)
    have f1 := fit_few J'' (col t 1) J''.length (by have := hT.2.2.1; omega)
    have hJl := hT.2.2.1
    unfold LV
    rw [hw]
    simp only [lenTo]
    unfold fitN
    rw [w64 (0 + _) (by omega) (by omega), w64 _ (by omega) (by omega)]
    omega
  obtain ⟨F1, F2, F3⟩ := four n h2 h5 _ _ c0 c1
  have hJ' := (ends_mem n _ _ _ _).2 e2
  have hlo := F1 J' hJ'
  have hvJ := lv J' hJ'
  have hmain : (prTo (col t 0) (col t 1) n = 15 → LV t J' > dist (col t 0) + dist (col t 1)) ∧ (prTo (col t 0) (col t 1) n < 15 → LV t J' = dist (col t 0) + dist (col t 1)) := by
    constructor
    · intro h
      by_cases hc : fitN J' (col t 0) = dist (col t 0) ∧ fitN J' (col t 1) = dist (col t 1)
      · exact absurd h (F2.1 ⟨J', hJ', hc⟩)
      · omega
    · intro h
      obtain ⟨J2, hJ2, a1, a2⟩ := F2.2 (by omega)
      have := e4 J2 ((ends_mem n _ _ _ _).1 hJ2)
      rw [lv J2 hJ2] at this
      omega
  obtain ⟨l0, m0, n0⟩ := firsts n h2 h5 _ c0
  obtain ⟨l1, m1, n1⟩ := firsts n h2 h5 _ c1
  have d0 := dist_few (col t 0)
  have d1 := dist_few (col t 1)
  have hws : wrap64 (wrap64 ((l0.length : Int) + (l1.length : Int)) - 2) = dist (col t 0) + dist (col t 1) := by
    rw [w64 ((l0.length : Int) + (l1.length : Int)) (by omega) (by omega), w64 _ (by omega) (by omega)]; omega
  have key := up_ind (fun i => Ev (fun k => wogglelaw02_TrackGametes.l0 k t (LV t J') 0 (prTo (col t 0) (col t 1) i) (fsTo (col t 0) i) (fsTo (col t 1) i) (i : Int)) true) n ?_ ?_
  · exact key
  · have WS := Aside0.mk hws
    clear hws
    refine Ev.step (f := fun k => (woggleref01_Members.f k (fsTo (col t 0) n)).bind fun t786 => ((woggleref01_Members.f k (fsTo (col t 1) n)).bind fun t789 => (if (0 : Int) = 0 then (if (prTo (col t 0) (col t 1) n) = 15 then (if (LV t J') > (wrap64 ((wrap64 ((t786.length : Int) + (t789.length : Int))) - 2)) then ((wogglelaw02_lives.f k).bind fun t792 => (some t792)) else (if (prTo (col t 0) (col t 1) n) < 15 then (if (LV t J') = (wrap64 ((wrap64 ((t786.length : Int) + (t789.length : Int))) - 2)) then ((wogglelaw02_lives.f k).bind fun t793 => (some t793)) else (some false)) else (some false))) else (if (prTo (col t 0) (col t 1) n) < 15 then (if (LV t J') = (wrap64 ((wrap64 ((t786.length : Int) + (t789.length : Int))) - 2)) then ((wogglelaw02_lives.f k).bind fun t794 => (some t794)) else (some false)) else (some false))) else (some false)))) (fun k => ?_) ?_
    · simp only [wogglelaw02_TrackGametes.l0]
      rw [if_neg (by omega)]
    · refine Ev.bind m0 (Ev.bind m1 (ev_pos rfl ?_))
      by_cases h15 : prTo (col t 0) (col t 1) n = 15
      · exact ev_pos h15 (ev_pos (by rw [WS.out]; exact hmain.1 h15) (Ev.bind livesG_ev (Ev.now _)))
      · exact ev_neg h15 (ev_pos (by omega) (ev_pos (by rw [WS.out]; exact hmain.2 (by omega)) (Ev.bind livesG_ev (Ev.now _))))
  · intro i hi ih
    have p1 : (i : Int) < (t.length : Int) := by omega
    have hrow : rd_L3 t i = t[i]'(by omega) := rd_L3_nat t i (by omega)
    have hr := hT.2 (t[i]'(by omega)) (List.getElem_mem _)
    have r0 : rd (rd_L3 t i) 0 = rd (col t 0) i := by
      rw [rd_nat (col t 0) i (by simp [col]; omega)]
      simp [col, hrow]
    have r1 : rd (rd_L3 t i) 1 = rd (col t 1) i := by
      rw [rd_nat (col t 1) i (by simp [col]; omega)]
      simp [col, hrow]
    have b0 : 0 ≤ rd (col t 0) i ∧ rd (col t 0) i < 2 := by
      rw [← r0, hrow]
      have := rd_nat (t[i]'(by omega)) 0 (by omega)
      rw [show ((0 : Nat) : Int) = 0 from rfl] at this
      rw [this]
      exact hr.2 _ (List.getElem_mem _)
    have b1 : 0 ≤ rd (col t 1) i ∧ rd (col t 1) i < 2 := by
      rw [← r1, hrow]
      have := rd_nat (t[i]'(by omega)) 1 (by omega)
      rw [show ((1 : Nat) : Int) = 1 from rfl] at this
      rw [this]
      exact hr.2 _ (List.getElem_mem _)
    have q1 : (0 : Int) < ((rd_L3 t i).length : Int) := by rw [hrow]; omega
    have q2 : (1 : Int) < ((rd_L3 t i).length : Int) := by rw [hrow]; omega
    have q3 : 0 ≤ wrap64 (wrap64 (2 * rd (col t 0) i) + rd (col t 1) i) := by
      rw [w64 (2 * rd (col t 0) i) (by omega) (by omega), w64 _ (by omega) (by omega)]; omega
    have Q3 := Aside0.mk q3
    clear q3
    refine Ev.step (fun k => ?_) ih
    simp only [wogglelaw02_TrackGametes.l0]
    rw [if_pos p1, if_pos (show 0 ≤ (i : Int) by omega), if_pos q1, if_pos q2, r0, r1, if_pos Q3.out, if_pos b0.1, if_pos b1.1, succ_w i (by omega)]
    rfl
theorem Gametes_row (W : World) (a0 : Int) (h0 : (Lit.int .u8 a0).wf = true) (A : Option Addr) (c : Nat) (x : List Int) (hx : Kd.C (Kd.int .u8) W A x.length x) (hc : x.length ≤ c) (hg : x.length ≤ maxLen ∧ ∀ y ∈ x, (Lit.int .u8 y).wf = true) :
    Calls Try.prog 14 #[.int .u8 a0, .slice A x.length c] W fun e w' => e = .returned (.bool true) ∧ Below W.heap.size W w' := by
  obtain ⟨k, h⟩ := gametes_all a0 x h0 hg.1 hg.2
  exact wogglelaw02_TrackGametes.calls k a0 A c x true W hx hc h rfl
end Go.Proofs.Ytcphmeeighhdjaa.Pure
