/- Best of a table is at least the sum of Best of its columns, and at most that of the table with a further row; Length of its Tree is Best: in plain numbers and lists. -/
import Derived.Test.YtcphmeeighhdjaaPF16
import Derived.Test.YtcphmeeighhdjaaGJ
import Derived.Test.YtcphmeeighhdjaaGA
import Derived.Test.YtcphmeeighhdjaaPF63
import Derived.Test.YtcphmeeighhdjaaGQ
import Derived.Test.YtcphmeeighhdjaaRT
import Derived.Test.YtcphmeeighhdjaaRA
-- out of RF
namespace Go.Proofs.Ytcphmeeighhdjaa.Pure
open Go Go.Proofs Go.RowKit Go.Proofs.Ytcphmeeighhdjaa.P Go.Proofs.YtcphmeeighhdjaaW.PrintWords Go.Proofs.YtcphmeeighhdjaaW.PrintLast
set_option linter.unusedVariables false

/-- Fitch's sets of all leaves and of the first joins, and the number of changes. -/
def fitTo (J : List S67) (L : List Int) : Nat → List Int × Int
  | 0 => (L.map (fun s => shl .i64 1 s), 0)
  | m + 1 => if Go.bits .and .i64 (rd (fitTo J L m).1 (rd_T67 J m).f0) (rd (fitTo J L m).1 (rd_T67 J m).f1) = 0
      then ((fitTo J L m).1 ++ [Go.bits .or .i64 (rd (fitTo J L m).1 (rd_T67 J m).f0) (rd (fitTo J L m).1 (rd_T67 J m).f1)], wrap64 ((fitTo J L m).2 + 1))
      else ((fitTo J L m).1 ++ [Go.bits .and .i64 (rd (fitTo J L m).1 (rd_T67 J m).f0) (rd (fitTo J L m).1 (rd_T67 J m).f1)], (fitTo J L m).2)
theorem fitTo_length (J : List S67) (L : List Int) (m : Nat) : (fitTo J L m).1.length = L.length + m := by
  induction m with
  | zero => simp [fitTo]
  | succ m ih => simp only [fitTo]; split <;> simp only [List.length_append, List.length_singleton, ih] <;> omega
section
variable {n : Int} {J : List S67} {k : Int} {L : List Int}
theorem fitch_ev (ht : TreeOk n J) (hs : StatesOk n k L) : Ev (fun q => track_fitch.f q J L) (fitTo J L J.length) := by
  have hn := ht.1; have hn8 := ht.2.1; have hJ := ht.2.2.1; have hL := hs.2
  unfold track_fitch.f
  have joins := up_ind (fun m => Ev (fun q => track_fitch.l1 q (fitTo J L m).1 (fitTo J L m).2 J (J.length : Int) (m : Int)) (fitTo J L J.length)) J.length ?_ ?_
  · have leaves := up_ind (fun i => Ev (fun q => track_fitch.l0 q J ((L.take i).map (fun s => shl .i64 1 s)) L (L.length : Int) (i : Int)) (fitTo J L J.length)) L.length ?_ ?_
    · exact leaves
    · refine Ev.step (f := fun q => track_fitch.l1 q (fitTo J L 0).1 (fitTo J L 0).2 J (J.length : Int) ((0 : Nat) : Int)) (fun q => ?_) joins
      simp only [track_fitch.l0]
      rw [if_neg (Int.lt_irrefl _), List.take_length]; rfl
    · intro i hi ih
      have p1 : (i : Int) < L.length := by omega
      have p2 : (0 : Int) ≤ i := by omega
      have hb := hs.1 _ (List.getElem_mem hi)
      refine Ev.step (fun q => ?_) ih
      simp only [track_fitch.l0]
      rw [if_pos p1, if_pos p2, if_pos p1, rd_nat L i hi, if_pos hb.1, if_pos (show ((L.take i).map (fun s => shl .i64 1 s)).length < 17592186044416 by rw [List.length_map, List.length_take]; omega), succ_w i (by omega), take_up L i hi, List.map_append]
      rfl
  · exact Ev.step (f := fun _ => some (fitTo J L J.length)) (fun q => by simp only [track_fitch.l1]; rw [if_neg (Int.lt_irrefl _)]) (Ev.now _)
  · intro m hm ih
    have p1 : (m : Int) < J.length := by omega
    have p2 : (0 : Int) ≤ m := by omega
    obtain ⟨⟨a0, a1, _⟩, b0, b1, _⟩ := ht.2.2.2 m hm
    have hl := fitTo_length J L m
    have p3 : (rd_T67 J m).f0 < (fitTo J L m).1.length := by omega
    have p4 : (rd_T67 J m).f1 < (fitTo J L m).1.length := by omega
    have p5 : (fitTo J L m).1.length < 17592186044416 := by omega
    refine Ev.step (fun q => ?_) ih
    simp only [track_fitch.l1]
    rw [if_pos p1, if_pos p2, if_pos p1, if_pos a0, if_pos p3, if_pos b0, if_pos p4, if_pos p5, if_pos p5, succ_w m (by omega)]
    simp only [fitTo]
    split <;> rfl
end
end Go.Proofs.Ytcphmeeighhdjaa.Pure

-- out of RK
namespace Go.Proofs.Ytcphmeeighhdjaa.Pure
open Go Go.Proofs Go.RowKit Go.Proofs.Ytcphmeeighhdjaa.P Go.Proofs.YtcphmeeighhdjaaW.PrintWords Go.Proofs.YtcphmeeighhdjaaW.PrintLast
set_option linter.unusedVariables false

def TableOk (t : List (List Int)) : Prop := (2 ≤ t.length ∧ t.length ≤ 5) ∧ (1 ≤ (rd_L3 t 0).length ∧ (rd_L3 t 0).length ≤ 6) ∧ ∀ row ∈ t, StatesOk (rd_L3 t 0).length 4 row
open Classical in
theorem stB_is (row : List Int) (m : Int) : stB row m = decide (StatesOk m 4 row) := Option.some.inj ((stB_f row m).symm.trans (states_f row m 4))
open Classical in
theorem rows_f (t : List (List Int)) : track_rows.f t = some (decide (TableOk t)) := by
  unfold track_rows.f
  by_cases k1 : (t.length : Int) < 2
  · rw [if_pos k1, decide_eq_false (fun h => by have := h.1.1; omega)]
  rw [if_neg k1]
  by_cases k2 : (t.length : Int) > 5
  · rw [if_pos k2, decide_eq_false (fun h => by have := h.1.2; omega)]
  rw [if_neg k2]
  by_cases k3 : ((rd_L3 t 0).length : Int) < 1
  · rw [if_pos k3, decide_eq_false (fun h => by have := h.2.1.1; omega)]
  rw [if_neg k3]
  by_cases k4 : ((rd_L3 t 0).length : Int) > 6
  · rw [if_pos k4, decide_eq_false (fun h => by have := h.2.1.2; omega)]
  rw [if_neg k4]
  congr 1
  rw [Bool.eq_iff_iff, decide_eq_true_iff, Bool.not_eq_true', List.any_eq_false]
  constructor
  · intro h
    refine ⟨⟨by omega, by omega⟩, ⟨by omega, by omega⟩, fun row hr => ?_⟩
    have := h row hr
    unfold badR at this
    rw [stB_is] at this
    simpa using this
  · intro h row hr
    unfold badR
    rw [stB_is, decide_eq_true (h.2.2 row hr)]
    decide
/-- A column. -/
def col (t : List (List Int)) (c : Nat) : List Int := t.map (fun row => rd row c)
theorem col_ok {t : List (List Int)} (ht : TableOk t) (c : Nat) (hc : c < (rd_L3 t 0).length) : StatesOk t.length 4 (col t c) := by
  refine ⟨fun s hs => ?_, by simp [col]⟩
  obtain ⟨row, hr, rfl⟩ := List.mem_map.1 hs
  obtain ⟨h1, h2⟩ := ht.2.2 row hr
  have hl : c < row.length := by omega
  rw [rd_nat row c hl]
  exact h1 _ (List.getElem_mem hl)
/-- The length of the first columns. -/
def lenTo (J : List S67) (t : List (List Int)) : Nat → Int
  | 0 => 0
  | c + 1 => wrap64 (lenTo J t c + (fitTo J (col t c) J.length).2)
theorem col_take (t : List (List Int)) (c i : Nat) (hi : i < t.length) : (col t c).take (i + 1) = (col t c).take i ++ [rd (rd_L3 t i) c] := by
  rw [take_up _ i (by simp [col]; exact hi), rd_L3_nat t i hi]
  simp [col]
section
variable {n : Nat} {J : List S67} {t : List (List Int)}
theorem length_ev (hJ : TreeOk n J) (ht : TableOk t) (hn : t.length = n) : Ev (fun k => track_length.f k J t) (lenTo J t (rd_L3 t 0).length) := by
  unfold track_length.f
  have hw := ht.2.1.2
  have h5 := ht.1.2
  have h2 := ht.1.1
  refine Ev.congr (f := fun k => track_length.l0 k J t 0 ((rd_L3 t 0).length : Int) 0) (fun k => if_pos (by omega)) ?_
  have key := up_ind (fun c => Ev (fun k => track_length.l0 k J t (lenTo J t c) ((rd_L3 t 0).length : Int) (c : Int)) (lenTo J t (rd_L3 t 0).length)) (rd_L3 t 0).length ?_ ?_
  · exact key
  · exact Ev.step (f := fun _ => some (lenTo J t (rd_L3 t 0).length)) (fun k => by simp only [track_length.l0]; rw [if_neg (Int.lt_irrefl _)]) (Ev.now _)
  · intro c hc ih
    have p1 : (c : Int) < (rd_L3 t 0).length := by omega
    have p2 : (0 : Int) ≤ c := by omega
    have inner := up_ind (fun i => Ev (fun k => track_length.l1 k J t (lenTo J t c) (c : Int) ((col t c).take i) ((rd_L3 t 0).length : Int) (c : Int) t (t.length : Int) (i : Int)) (lenTo J t (rd_L3 t 0).length)) t.length ?_ ?_
    · exact Ev.step (f := fun k => track_length.l1 k J t (lenTo J t c) (c : Int) [] ((rd_L3 t 0).length : Int) (c : Int) t (t.length : Int) ((0 : Nat) : Int)) (fun k => by simp only [track_length.l0]; rw [if_pos p1]; rfl) inner
    · have hcl : (col t c).length = t.length := by simp [col]
      refine Ev.step (f := fun k => (track_fitch.f k J (col t c)).bind fun b => track_length.l0 k J t (wrap64 (lenTo J t c + b.2)) ((rd_L3 t 0).length : Int) ((c + 1 : Nat) : Int)) (fun k => ?_) ?_
      · simp only [track_length.l1]
        rw [if_neg (Int.lt_irrefl _), List.take_of_length_le (Nat.le_of_eq hcl), succ_w c (by omega)]
      · exact Ev.bind (fitch_ev hJ (hn ▸ col_ok ht c hc)) ih
    · intro i hi ihi
      have q1 : (i : Int) < t.length := by omega
      have q2 : (0 : Int) ≤ i := by omega
      have hrow := (ht.2.2 _ (List.getElem_mem hi)).2
      have q3 : (c : Int) < ((rd_L3 t i).length : Int) := by rw [rd_L3_nat t i hi]; omega
      have q4 : ((col t c).take i).length < 17592186044416 := by rw [List.length_take]; omega
      refine Ev.step (fun k => ?_) ihi
      simp only [track_length.l1]
      rw [if_pos q1, if_pos q2, if_pos q1, if_pos p2, if_pos q3, if_pos q4, succ_w i (by omega), col_take t c i hi]
end

end Go.Proofs.Ytcphmeeighhdjaa.Pure

-- out of RB
namespace Go.Proofs.Ytcphmeeighhdjaa.Pure
open Go Go.Proofs Go.RowKit Go.Proofs.Ytcphmeeighhdjaa.P Go.Proofs.YtcphmeeighhdjaaW.PrintWords Go.Proofs.YtcphmeeighhdjaaW.PrintLast
set_option linter.unusedVariables false

theorem u8_le {x : Int} (h : (Lit.int .u8 x).wf = true) : 0 ≤ x ∧ x ≤ 255 := by
  unfold Lit.wf at h
  rw [Bool.and_eq_true, decide_eq_true_eq, decide_eq_true_eq] at h
  have e1 : IntKind.min .u8 = 0 := rfl
  have e2 : IntKind.max .u8 = 255 := rfl
  rw [e1, e2] at h
  exact h

/-! ## Trees out of arbitrary numbers -/
theorem rd_T67_old (l : List S67) (x : S67) (v : Nat) (h : v < l.length) : rd_T67 (l ++ [x]) v = rd_T67 l v := by
  unfold rd_T67
  rw [Int.toNat_natCast, List.getD_eq_getElem?_getD, List.getD_eq_getElem?_getD, List.getElem?_append_left h]
theorem rd_T67_new (l : List S67) (x : S67) (v : Nat) (h : v = l.length) : rd_T67 (l ++ [x]) v = x := by
  unfold rd_T67
  rw [Int.toNat_natCast, List.getD_eq_getElem?_getD, h]
  simp
theorem usedTo_old (J : List S67) (x : S67) (i : Nat) (h : i ≤ J.length) : usedTo (J ++ [x]) i = usedTo J i := by
  induction i with
  | zero => rfl
  | succ i ih => simp only [usedTo]; rw [ih (by omega), rd_T67_old J x i (by omega)]
theorem joinOk_old {n : Int} {J : List S67} {x : S67} {i : Nat} (hi : i < J.length) (h : JoinOk n J i) : JoinOk n (J ++ [x]) i := by
  unfold JoinOk at h ⊢
  rw [rd_T67_old J x i hi, usedTo_old J x i (by omega)]
  exact h
/-- Roots that are left. -/
structure RootsOk (n : Nat) (J : List S67) (R : List Int) : Prop where
  len : R.length + J.length = n
  nd : R.Nodup
  free : ∀ v ∈ R, 0 ≤ v ∧ v < n + J.length ∧ v ∉ usedTo J J.length
  joins : ∀ i, i < J.length → JoinOk n J i
/-- The roots without two of them. -/
def restTo (R : List Int) (a c : Nat) : Nat → List Int
  | 0 => []
  | i + 1 => if i = a ∨ i = c then restTo R a c i else restTo R a c i ++ [rd R i]
theorem restTo_mem (R : List Int) (a c i : Nat) (v : Int) (h : v ∈ restTo R a c i) : ∃ j, j < i ∧ j ≠ a ∧ j ≠ c ∧ v = rd R j := by
  induction i with
  | zero => simp [restTo] at h
  | succ i ih =>
    unfold restTo at h
    by_cases e : i = a ∨ i = c
    · rw [if_pos e] at h
      obtain ⟨j, h1, h2⟩ := ih h
      exact ⟨j, by omega, h2⟩
    · rw [if_neg e] at h
      rcases List.mem_append.1 h with h | h
      · obtain ⟨j, h1, h2⟩ := ih h
        exact ⟨j, by omega, h2⟩
      · exact ⟨i, by omega, by omega, by omega, List.mem_singleton.1 h⟩
theorem restTo_length (R : List Int) (a c : Nat) (h : a < R.length) (h2 : c < R.length) (hne : a ≠ c) : (restTo R a c R.length).length + 2 = R.length := by
  have key : ∀ i, (restTo R a c i).length + (if a < i then 1 else 0) + (if c < i then 1 else 0) = i := by
    intro i
    induction i with
    | zero => simp [restTo]
    | succ i ih =>
      unfold restTo
      by_cases e1 : i = a
      · subst e1
        rw [if_pos (.inl rfl)]
        rw [if_neg (by omega)] at ih
        rw [if_pos (by omega)]
        by_cases e2 : c < i
        · rw [if_pos e2] at ih; rw [if_pos (by omega)]; omega
        · rw [if_neg e2] at ih; rw [if_neg (by omega)]; omega
      · by_cases e2 : i = c
        · subst e2
          rw [if_pos (.inr rfl)]
          rw [if_neg (show ¬ i < i by omega)] at ih
          rw [if_pos (show i < i + 1 by omega)]
          by_cases e3 : a < i
          · rw [if_pos e3] at ih; rw [if_pos (by omega)]; omega
          · rw [if_neg e3] at ih; rw [if_neg (by omega)]; omega
        · rw [if_neg (by omega)]
          simp only [List.length_append, List.length_singleton]
          by_cases e3 : a < i <;> by_cases e4 : c < i
          · rw [if_pos e3, if_pos e4] at ih; rw [if_pos (by omega), if_pos (by omega)]; omega
          · rw [if_pos e3, if_neg e4] at ih; rw [if_pos (by omega), if_neg (by omega)]; omega
          · rw [if_neg e3, if_pos e4] at ih; rw [if_neg (by omega), if_pos (by omega)]; omega
          · rw [if_neg e3, if_neg e4] at ih; rw [if_neg (by omega), if_neg (by omega)]; omega
  have := key R.length
  rw [if_pos h, if_pos h2] at this
  omega
theorem rd_inj (R : List Int) (hR : R.Nodup) (i j : Nat) (hi : i < R.length) (hj : j < R.length) (h : rd R i = rd R j) : i = j := by
  rw [rd_nat R i hi, rd_nat R j hj] at h
  exact (List.getElem_inj hR).1 h
theorem restTo_nodup (R : List Int) (hR : R.Nodup) (a c i : Nat) (hi : i ≤ R.length) : (restTo R a c i).Nodup := by
  induction i with
  | zero => simp [restTo]
  | succ i ih =>
    unfold restTo
    split
    · exact ih (by omega)
    · rw [List.nodup_append]
      refine ⟨ih (by omega), by simp, fun x hx y hy => ?_⟩
      rw [List.mem_singleton] at hy
      obtain ⟨j, h1, _, _, rfl⟩ := restTo_mem R a c i x hx
      rw [hy]
      exact fun e => by have := rd_inj R hR j i (by omega) (by omega) e; omega
theorem roots_step (n : Nat) (J : List S67) (R : List Int) (h : RootsOk n J R) (a c : Nat) (ha : a < R.length) (hc : c < R.length) (hne : a ≠ c) :
    RootsOk n (J ++ [(⟨rd R a, rd R c⟩ : S67)]) (restTo R a c R.length ++ [((n + J.length : Nat) : Int)]) := by
  have hfa := h.free (rd R a) (by rw [rd_nat R a ha]; exact List.getElem_mem ha)
  have hfc := h.free (rd R c) (by rw [rd_nat R c hc]; exact List.getElem_mem hc)
  have hac : rd R c ≠ rd R a := fun e => hne (rd_inj R h.nd c a hc ha e).symm
  have hu : usedTo (J ++ [(⟨rd R a, rd R c⟩ : S67)]) (J ++ [(⟨rd R a, rd R c⟩ : S67)]).length = usedTo J J.length ++ [rd R a] ++ [rd R c] := by
    rw [List.length_append, List.length_singleton]
    simp only [usedTo]
    rw [usedTo_old J _ _ (Nat.le_refl _), rd_T67_new J _ _ rfl]
  have used_lt : ∀ m, m ≤ J.length → ∀ x ∈ usedTo J m, x < n + m := by
    intro m
    induction m with
    | zero => intro _ x hx; simp [usedTo] at hx
    | succ m ihm =>
      intro hm' x hx
      obtain ⟨⟨p0, p1, p2⟩, q0, q1, q2⟩ := h.joins m (by omega)
      simp only [usedTo, List.mem_append, List.mem_singleton] at hx
      rcases hx with (hx | hx) | hx
      · have := ihm (by omega) x hx; omega
      · omega
      · omega
  refine ⟨?_, ?_, ?_, ?_⟩
  · have := restTo_length R a c ha hc hne
    have := h.len
    simp only [List.length_append, List.length_singleton]
    omega
  · rw [List.nodup_append]
    refine ⟨restTo_nodup R h.nd a c _ (Nat.le_refl _), by simp, fun x hx y hy => ?_⟩
    rw [List.mem_singleton] at hy
    obtain ⟨j, h1, _, _, rfl⟩ := restTo_mem R a c _ x hx
    have := (h.free (rd R j) (by rw [rd_nat R j h1]; exact List.getElem_mem h1)).2.1
    omega
  · intro v hv
    rw [hu]
    simp only [List.length_append, List.length_singleton, List.mem_append, List.mem_singleton, not_or]
    rcases List.mem_append.1 hv with hv | hv
    · obtain ⟨j, h1, h2, h3, rfl⟩ := restTo_mem R a c _ v hv
      obtain ⟨f1, f2, f3⟩ := h.free (rd R j) (by rw [rd_nat R j h1]; exact List.getElem_mem h1)
      exact ⟨f1, by omega, ⟨f3, fun e => h2 (rd_inj R h.nd j a h1 ha e)⟩, fun e => h3 (rd_inj R h.nd j c h1 hc e)⟩
    · rw [List.mem_singleton] at hv
      refine ⟨by omega, by omega, ⟨fun hx => ?_, by omega⟩, by omega⟩
      have := used_lt _ (Nat.le_refl _) _ hx
      omega
  · intro i hi
    simp only [List.length_append, List.length_singleton] at hi
    by_cases e : i < J.length
    · exact joinOk_old e (h.joins i e)
    · obtain rfl : i = J.length := by omega
      unfold JoinOk
      rw [rd_T67_new J _ _ rfl, usedTo_old J _ _ (Nat.le_refl _)]
      refine ⟨⟨hfa.1, hfa.2.1, hfa.2.2⟩, hfc.1, hfc.2.1, ?_⟩
      simp only [List.mem_append, List.mem_singleton, not_or]
      exact ⟨hfc.2.2, hac⟩
end Go.Proofs.Ytcphmeeighhdjaa.Pure

-- out of RN
namespace Go.Proofs.Ytcphmeeighhdjaa.Pure
open Go Go.Proofs Go.RowKit Go.Proofs.Ytcphmeeighhdjaa.P Go.Proofs.YtcphmeeighhdjaaW.PrintWords Go.Proofs.YtcphmeeighhdjaaW.PrintLast
set_option linter.unusedVariables false

section
variable {n : Nat} {J : List S67} {C : List (List Int)} {L : List Int}
end
end Go.Proofs.Ytcphmeeighhdjaa.Pure

-- out of RS
namespace Go.Proofs.Ytcphmeeighhdjaa.Pure
open Go Go.Proofs Go.RowKit Go.Proofs.Ytcphmeeighhdjaa.P Go.Proofs.YtcphmeeighhdjaaW.PrintWords Go.Proofs.YtcphmeeighhdjaaW.PrintLast
set_option linter.unusedVariables false
/-- The length of a tree for a table. -/
def LV (t : List (List Int)) (J : List S67) : Int := lenTo J t (rd_L3 t 0).length
theorem fit_few (J : List S67) (L : List Int) (m : Nat) (hm : m ≤ 1000) : 0 ≤ (fitTo J L m).2 ∧ (fitTo J L m).2 ≤ m := by
  induction m with
  | zero => exact ⟨Int.le_refl _, Int.le_refl _⟩
  | succ m ih =>
    have i := ih (by omega)
    simp only [fitTo]
    split
    · show 0 ≤ wrap64 ((fitTo J L m).2 + 1) ∧ wrap64 ((fitTo J L m).2 + 1) ≤ _
      rw [w64 _ (by omega) (by omega)]; omega
    · show 0 ≤ (fitTo J L m).2 ∧ (fitTo J L m).2 ≤ _
      omega
theorem len_few (J : List S67) (t : List (List Int)) (hJ : J.length ≤ 1000) (c : Nat) (hc : c ≤ 1000) : 0 ≤ lenTo J t c ∧ lenTo J t c ≤ c * 1000 := by
  induction c with
  | zero => exact ⟨Int.le_refl _, Int.le_refl _⟩
  | succ c ih =>
    have i := ih (by omega)
    have f := fit_few J (col t c) J.length hJ
    simp only [lenTo]
    rw [w64 _ (by omega) (by omega)]; omega
/-- J' goes on from J with the roots O, m joins being left. -/
def Ends (n : Nat) : Nat → List S67 → List Int → List S67 → Prop
  | 0, J, _, J' => J' = J
  | m + 1, J, O, J' => ∃ i c, i < c ∧ c < O.length ∧ Ends n m (J ++ [(⟨rd O i, rd O c⟩ : S67)]) (restTo O i c O.length ++ [((n + J.length : Nat) : Int)]) J'
theorem ends_ok (n : Nat) (h2 : 2 ≤ n) (h8 : n ≤ 8) : ∀ m J O J', RootsOk n J O → O.length = m + 1 → Ends n m J O J' → TreeOk n J'
  | 0, J, O, J', h, hl, e => by
    have e' : J' = J := e
    subst e'
    exact ⟨by omega, by omega, by have := h.len; omega, h.joins⟩
  | m + 1, J, O, J', h, hl, ⟨i, c, h1, h3, e⟩ => ends_ok n h2 h8 m _ _ J' (roots_step n J O h i c (by omega) h3 (by omega)) (by rw [List.length_append, List.length_singleton]; have := restTo_length O i c (by omega) h3 (by omega); omega) e
theorem rest_len (O : List Int) (i c m : Nat) (x : Int) (h1 : i < c) (h3 : c < O.length) (hl : O.length = m + 1 + 1) : (restTo O i c O.length ++ [x]).length = m + 1 := by
  rw [List.length_append, List.length_singleton]
  have := restTo_length O i c (by omega) h3 (by omega)
  omega
theorem rest_is (O : List Int) (hO : O.Nodup) (i c : Nat) (hi : i < O.length) (hc : c < O.length) : restOf O (rd O i) (rd O c) = restTo O i c O.length := by
  have key : ∀ m, m ≤ O.length → (O.take m).filter (fun x => !(x == rd O i || x == rd O c)) = restTo O i c m := by
    intro m
    induction m with
    | zero => intro _; rfl
    | succ m ih =>
      intro hm
      have hm' : m < O.length := by omega
      rw [take_up O m hm', List.filter_append, ih (by omega)]
      have e0 : O[m] = rd O m := (rd_nat O m hm').symm
      show _ = (if m = i ∨ m = c then restTo O i c m else restTo O i c m ++ [rd O m])
      by_cases c0 : m = i ∨ m = c
      · rw [if_pos c0]
        have hb : (O[m] == rd O i || O[m] == rd O c) = true := by
          rw [e0]
          rcases c0 with rfl | rfl
          · simp
          · simp
        simp only [List.filter_cons, hb, List.filter_nil, Bool.not_true]
        rw [if_neg (by simp), List.append_nil]
      · rw [if_neg c0]
        have hb : (O[m] == rd O i || O[m] == rd O c) = false := by
          rw [e0, Bool.or_eq_false_iff, beq_eq_false_iff_ne, beq_eq_false_iff_ne]
          exact ⟨fun e => c0 (.inl (rd_inj O hO m i hm' hi e)), fun e => c0 (.inr (rd_inj O hO m c hm' hc e))⟩
        simp only [List.filter_cons, hb, List.filter_nil, Bool.not_false, if_true]
        rw [e0]
  have := key O.length (Nat.le_refl _)
  rw [List.take_length] at this
  exact this
theorem dropR (l : List Int) (i : Nat) (h : i < l.length) : l.drop i = rd l i :: l.drop (i + 1) := by
  rw [List.drop_eq_getElem_cons h, rd_nat l i h]
section
variable {n : Nat} {t : List (List Int)} (h2 : 2 ≤ n) (h8 : n ≤ 8) (ht : TableOk t) (hn : t.length = n)
include h2 h8 ht hn
/-- What is known of the search in the midst: of all pairs so far. -/
theorem best_ev : ∀ m J O, RootsOk n J O → O.length = m + 1 → ∃ J', Ev (fun k => bestM k t m J O) (LV t J', J') ∧ Ends n m J O J' ∧ ∀ J'', Ends n m J O J'' → LV t J' ≤ LV t J''
  | 0, J, O, h, hl => by
    have hT := ends_ok n h2 h8 0 J O J h hl rfl
    refine ⟨J, ?_, rfl, fun J'' e => by rw [show J'' = J from e]; exact Int.le_refl _⟩
    show Ev (fun k => (track_length.f k J t).bind fun r => some (r, J)) _
    exact Ev.bind (length_ev hT ht hn) (Ev.now _)
  | m + 1, J, O, h, hl => by
    have hT : ∀ J', Ends n (m + 1) J O J' → 0 ≤ LV t J' := fun J' e => by
      have := ends_ok n h2 h8 (m + 1) J O J' h hl e
      exact (len_few J' t (by have := this.2.2.1; omega) _ (by have := ht.2.1.2; omega)).1
    obtain ⟨F, hF⟩ : ∃ F : Nat → Int → Int → Option (Int × List S67), (fun k a b => bestM k t m (J ++ [⟨a, b⟩]) (restOf O a b ++ [((t.length + J.length : Nat) : Int)])) = F := ⟨_, rfl⟩
    have hsub : ∀ i c, i < c → c < O.length → ∃ J', Ev (fun k => F k (rd O i) (rd O c)) (LV t J', J') ∧ Ends n (m + 1) J O J' ∧ ∀ J'', Ends n m (J ++ [(⟨rd O i, rd O c⟩ : S67)]) (restTo O i c O.length ++ [((n + J.length : Nat) : Int)]) J'' → LV t J' ≤ LV t J'' := by
      intro i c h1 h3
      obtain ⟨J', e1, e2, e3⟩ := best_ev m _ _ (roots_step n J O h i c (by omega) h3 (by omega)) (rest_len O i c m _ h1 h3 hl)
      refine ⟨J', ?_, ⟨i, c, h1, h3, e2⟩, e3⟩
      rw [← hF]
      show Ev (fun k => bestM k t m (J ++ [⟨rd O i, rd O c⟩]) (restOf O (rd O i) (rd O c) ++ [((t.length + J.length : Nat) : Int)])) _
      rw [rest_is O h.nd i c (by omega) h3, hn]
      exact e1
    have e0 : (fun k => bestM k t (m + 1) J O) = fun k => bOut (F k) O (-1, []) := by rw [← hF]; rfl
    rw [e0]
    -- the invariant: of the pairs ahead of (i, c)
    let Ahead := fun (i c : Nat) (acc : Int × List S67) => (∀ i' c', i' < c' → c' < O.length → (i' < i ∨ i' = i ∧ c' < c) → ∀ J'', Ends n m (J ++ [(⟨rd O i', rd O c'⟩ : S67)]) (restTo O i' c' O.length ++ [((n + J.length : Nat) : Int)]) J'' → acc.1 ≤ LV t J'') ∧ ((acc.1 = -1 ∧ i = 0 ∧ c ≤ 1) ∨ (acc.1 = LV t acc.2 ∧ Ends n (m + 1) J O acc.2))
    have step : ∀ i c acc, i < c → c < O.length → Ahead i c acc → ∀ J', Ends n (m + 1) J O J' → (∀ J'', Ends n m (J ++ [(⟨rd O i, rd O c⟩ : S67)]) (restTo O i c O.length ++ [((n + J.length : Nat) : Int)]) J'' → LV t J' ≤ LV t J'') → Ahead i (c + 1) (btr acc (LV t J', J')) := by
      intro i c acc h1 h3 ha J' e1 e2
      have hp := hT J' e1
      unfold btr
      split
      · rename_i hc
        refine ⟨fun i' c' q1 q2 q3 J'' e => ?_, .inr ⟨rfl, e1⟩⟩
        by_cases hx : i' = i ∧ c' = c
        · obtain ⟨rfl, rfl⟩ := hx; exact e2 J'' e
        · have hle := ha.1 i' c' q1 q2 (by omega) J'' e
          rcases hc with hc | hc
          · rcases ha.2 with ⟨_, hi0, hc1⟩ | ⟨e3, e4⟩
            · omega
            · have := hT _ e4; omega
          · have hc' : LV t J' < acc.1 := hc
            show LV t J' ≤ _
            omega
      · rename_i hc
        have hc1 : ¬ acc.1 < 0 := fun x => hc (.inl x)
        have hc2 : ¬ LV t J' < acc.1 := fun x => hc (.inr x)
        refine ⟨fun i' c' q1 q2 q3 J'' e => ?_, ?_⟩
        · by_cases hx : i' = i ∧ c' = c
          · obtain ⟨rfl, rfl⟩ := hx
            have := e2 J'' e
            omega
          · exact ha.1 i' c' q1 q2 (by omega) J'' e
        · rcases ha.2 with ⟨e3, _⟩ | e3
          · omega
          · exact .inr e3
    have inner : ∀ i, i < O.length → ∀ d c acc, c + d = O.length → i < c → Ahead i c acc → ∃ acc', Ev (fun k => bIn (F k) (rd O i) (O.drop c) acc) acc' ∧ Ahead (i + 1) 0 acc' := by
      intro i hi d
      induction d with
      | zero =>
        intro c acc hc hic ha
        refine ⟨acc, ?_, fun i' c' q1 q2 q3 J'' e => ha.1 i' c' q1 q2 (by omega) J'' e, ?_⟩
        · rw [List.drop_of_length_le (by omega)]
          exact Ev.now _
        · rcases ha.2 with ⟨_, e1, e2⟩ | e
          · omega
          · exact .inr e
      | succ d ih =>
        intro c acc hc hic ha
        obtain ⟨J', e1, e2, e3⟩ := hsub i c hic (by omega)
        obtain ⟨acc', e4, e5⟩ := ih (c + 1) _ (by omega) (by omega) (step i c acc hic (by omega) ha J' e2 e3)
        refine ⟨acc', ?_, e5⟩
        rw [dropR O c (by omega)]
        exact Ev.bind e1 e4
    have outer : ∀ d i acc, i + d = O.length → Ahead i 0 acc → ∃ acc', Ev (fun k => bOut (F k) (O.drop i) acc) acc' ∧ Ahead O.length 0 acc' := by
      intro d
      induction d with
      | zero =>
        intro i acc hi ha
        obtain rfl : i = O.length := by omega
        refine ⟨acc, ?_, ha⟩
        rw [List.drop_of_length_le (Nat.le_refl _)]
        exact Ev.now _
      | succ d ih =>
        intro i acc hi ha
        obtain ⟨acc1, e1, e2⟩ := inner i (by omega) (O.length - (i + 1)) (i + 1) acc (by omega) (by omega) ⟨fun i' c' q1 q2 q3 J'' e => ha.1 i' c' q1 q2 (by omega) J'' e, by
          rcases ha.2 with ⟨x, y, _⟩ | x
          · exact .inl ⟨x, y, by omega⟩
          · exact .inr x⟩
        obtain ⟨acc2, e3, e4⟩ := ih (i + 1) acc1 (by omega) e2
        refine ⟨acc2, ?_, e4⟩
        rw [dropR O i (by omega)]
        exact Ev.bind e1 e3
    obtain ⟨acc', e1, e2⟩ := outer O.length 0 (-1, []) (by omega) ⟨fun i' c' q1 q2 q3 => by omega, .inl ⟨rfl, rfl, by omega⟩⟩
    rw [List.drop_zero] at e1
    rcases e2.2 with ⟨_, x, _⟩ | ⟨x, y⟩
    · omega
    · refine ⟨acc'.2, by rw [← x]; exact e1, y, ?_⟩
      rintro J'' ⟨i, c, q1, q2, q3⟩
      rw [← x]
      exact e2.1 i c q1 q2 (by omega) J'' q3
-- the rest, as the reference lays it
end
end Go.Proofs.Ytcphmeeighhdjaa.Pure

-- out of PureTrackBests
namespace Go.Proofs.Ytcphmeeighhdjaa.Pure
open Go Go.Proofs Go.RowKit Go.Proofs.Ytcphmeeighhdjaa.P Go.Proofs.YtcphmeeighhdjaaW.PrintWords Go.Proofs.YtcphmeeighhdjaaW.PrintLast
set_option linter.unusedVariables false
theorem all_ev (t : List (List Int)) (ht : t.length ≤ 1000) : Ev (fun k => track_all.f k t) ((List.range t.length).map (fun v : Nat => (v : Int))) := by
  unfold track_all.f
  have key := up_ind (fun i => Ev (fun k => track_all.l0 k ((List.range i).map (fun v : Nat => (v : Int))) (t.length : Int) (i : Int)) ((List.range t.length).map (fun v : Nat => (v : Int)))) t.length ?_ ?_
  · exact key
  · exact Ev.step (f := fun _ => some ((List.range t.length).map (fun v : Nat => (v : Int)))) (fun k => by simp only [track_all.l0]; rw [if_neg (by omega)]) (Ev.now _)
  · intro i hi ih
    refine Ev.step (f := fun k => track_all.l0 k ((List.range (i + 1)).map (fun v : Nat => (v : Int))) (t.length : Int) ((i + 1 : Nat) : Int)) (fun k => ?_) ih
    simp only [track_all.l0]
    rw [if_pos (by omega), if_pos (by simp; omega), succ_w i (by omega), range_succ_map]
theorem roots_all (q : Nat) : RootsOk q [] ((List.range q).map (fun v : Nat => (v : Int))) := by
  refine ⟨by simp, ?_, ?_, fun i hi => absurd hi (by simp)⟩
  · refine List.pairwise_map.2 (List.Pairwise.imp (fun h => ?_) (List.nodup_range (n := q)))
    omega
  · intro v hv
    obtain ⟨u, hu, rfl⟩ := List.mem_map.1 hv
    have := List.mem_range.1 hu
    exact ⟨by omega, by simp; omega, by simp [usedTo]⟩
end Go.Proofs.Ytcphmeeighhdjaa.Pure

-- out of RG
namespace Go.Proofs.Ytcphmeeighhdjaa.Pure
open Go Go.Proofs Go.RowKit Go.Proofs.Ytcphmeeighhdjaa.P Go.Proofs.YtcphmeeighhdjaaW.PrintWords Go.Proofs.YtcphmeeighhdjaaW.PrintLast
set_option linter.unusedVariables false
def fitN (J : List S67) (c : List Int) : Int := (fitTo J c J.length).2
end Go.Proofs.Ytcphmeeighhdjaa.Pure

-- out of PureTrackGametes
namespace Go.Proofs.Ytcphmeeighhdjaa.Pure
open Go Go.Proofs Go.RowKit Go.Proofs.Ytcphmeeighhdjaa.P Go.Proofs.YtcphmeeighhdjaaW.PrintWords Go.Proofs.YtcphmeeighhdjaaW.PrintLast
set_option linter.unusedVariables false
/-- A table of n rows and m columns, its states below q. -/
def TabOf (n m q : Nat) (t : List (List Int)) : Prop := t.length = n ∧ ∀ row ∈ t, row.length = m ∧ ∀ s ∈ row, 0 ≤ s ∧ s < q
theorem tab_rows (n m q : Nat) (x : List Int) (hx : x.length ≤ maxLen ∧ ∀ v ∈ x, (Lit.int .u8 v).wf = true) (hn : n ≤ 10) (hm : m ≤ 10) (h1 : 1 ≤ q) (h4 : q ≤ 10) :
    ∃ t, Ev (fun k => wogglelaw02_table.f k n m q x) t ∧ TabOf n m q t := by
  unfold wogglelaw02_table.f
  have hml : maxLen = 9223372036854775807 := rfl
  have hxl := hx.1
  rw [hml] at hxl
  have key := up_ind (fun i => ∀ t : List (List Int), TabOf i m q t → ∃ R, Ev (fun k => wogglelaw02_table.l0 k n m q x t (i : Int)) R ∧ TabOf n m q R) n ?_ ?_
  · exact key [] ⟨rfl, fun row hr => by simp at hr⟩
  · intro t ht
    refine ⟨t, Ev.step (f := fun _ => some t) (fun k => ?_) (Ev.now _), ht⟩
    simp only [wogglelaw02_table.l0]
    rw [if_neg (Int.lt_irrefl _)]
  · intro i hi ih t ht
    have p1 : (i : Int) < n := by omega
    have inner := up_ind (fun j => ∀ row : List Int, (∀ c ∈ row, 0 ≤ c ∧ c < q) → row.length = j → ∃ R, Ev (fun k => wogglelaw02_table.l1 k n m q x t (i : Int) row (j : Int)) R ∧ TabOf n m q R) m ?_ ?_
    · obtain ⟨R, hE, hP⟩ := inner [] (fun c hc => by simp at hc) rfl
      exact ⟨R, Ev.step (f := fun k => wogglelaw02_table.l1 k n m q x t (i : Int) [] ((0 : Nat) : Int)) (fun k => by simp only [wogglelaw02_table.l0]; rw [if_pos p1]; rfl) hE, hP⟩
    · intro row hrow hrl
      obtain ⟨R, hE, hP⟩ := ih (t ++ [row]) ⟨by rw [List.length_append, List.length_singleton, ht.1], fun r hr => by
        rcases List.mem_append.1 hr with h | h
        · exact ht.2 r h
        · rw [List.mem_singleton.1 h]; exact ⟨hrl, hrow⟩⟩
      refine ⟨R, Ev.step (fun k => ?_) hE, hP⟩
      simp only [wogglelaw02_table.l1]
      rw [if_neg (Int.lt_irrefl _), if_pos (show t.length < 5864062014805 by have := ht.1; omega), succ_w i (by omega)]
    · intro j hj ihj row hrow hrl
      have q1 : (j : Int) < m := by omega
      have hij : i * m ≤ 100 := Nat.le_trans (Nat.mul_le_mul (by omega : i ≤ 10) hm) (Nat.le_refl _)
      have W := Aside0.mk (show wrap64 (wrap64 ((i : Int) * (m : Int)) + (j : Int)) = ((i * m + j : Nat) : Int) by
        have e : (i : Int) * (m : Int) = ((i * m : Nat) : Int) := (Int.natCast_mul i m).symm
        rw [e, w64 ((i * m : Nat) : Int) (by omega) (by omega), w64 _ (by omega) (by omega)]
        omega)
      have q2 : (0 : Int) ≤ ((i * m + j : Nat) : Int) := by omega
      have q3 : row.length < 17592186044416 := by omega
      have q0 : ¬ ((q : Int) = 0) := by omega
      have app : ∀ v : Int, 0 ≤ v → v < q → ∀ c ∈ row ++ [v], 0 ≤ c ∧ c < q := by
        intro v v0 v1 c hc
        rcases List.mem_append.1 hc with h | h
        · exact hrow c h
        · rw [List.mem_singleton.1 h]; exact ⟨v0, v1⟩
      generalize i * m + j = ix at *
      by_cases c : ix < x.length
      · have hv := u8_le (hx.2 _ (List.getElem_mem c))
        have e1 : Int.tmod (wrap64 x[ix]) q = x[ix] % q := by rw [w64 x[ix] (by omega) (by omega), Int.tmod_eq_emod_of_nonneg hv.1]
        have E1 := Aside0.mk e1
        clear e1
        have e2 := Int.emod_nonneg x[ix] q0
        have e3 := Int.emod_lt_of_pos x[ix] (show (0 : Int) < q by omega)
        obtain ⟨R, hE, hP⟩ := ihj (row ++ [x[ix] % q]) (app _ e2 e3) (by rw [List.length_append, List.length_singleton]; omega)
        refine ⟨R, Ev.step (fun k => ?_) hE, hP⟩
        have q4 : ((ix : Nat) : Int) < x.length := by omega
        simp only [wogglelaw02_table.l1]
        rw [if_pos q1, W.out, if_pos q4, if_pos q2, if_neg q0, if_pos q3, rd_nat x ix c, E1.out, succ_w j (by omega)]
      · obtain ⟨R, hE, hP⟩ := ihj (row ++ [0]) (app 0 (by omega) (by omega)) (by rw [List.length_append, List.length_singleton]; omega)
        refine ⟨R, Ev.step (fun k => ?_) hE, hP⟩
        have q4 : ¬ ((ix : Nat) : Int) < x.length := by omega
        simp only [wogglelaw02_table.l1]
        rw [if_pos q1, W.out, if_neg q4, if_pos q3, succ_w j (by omega)]
theorem tab_ok {n m q : Nat} {t : List (List Int)} (h : TabOf n m q t) (h2 : 2 ≤ n) (h5 : n ≤ 5) (m1 : 1 ≤ m) (m6 : m ≤ 6) (q4 : q ≤ 4) : TableOk t ∧ (rd_L3 t 0).length = m := by
  have hl := h.1
  have h0 : (rd_L3 t 0).length = m := by
    have := rd_L3_nat t 0 (by omega)
    rw [show ((0 : Nat) : Int) = 0 from rfl] at this
    rw [this]
    exact (h.2 _ (List.getElem_mem _)).1
  refine ⟨⟨by omega, by omega, fun row hr => ⟨fun s hs => ?_, ?_⟩⟩, h0⟩
  · have := (h.2 row hr).2 s hs; omega
  · have := (h.2 row hr).1; omega
theorem livesG_ev : Ev (fun k => wogglelaw02_lives.f k) true := Ev.of wogglelaw02_lives.mono track_lives_at
/-- What Best answers, and that it is the least of all. -/
theorem Best_least (t : List (List Int)) (ht : TableOk t) : ∃ J', Ends t.length (t.length - 1) [] ((List.range t.length).map (fun v : Nat => (v : Int))) J' ∧ Ev (fun k => track_Best.f k t) (LV t J', 0) ∧
    ∀ J'', Ends t.length (t.length - 1) [] ((List.range t.length).map (fun v : Nat => (v : Int))) J'' → LV t J' ≤ LV t J'' := by
  have h2 := ht.1.1
  have h5 := ht.1.2
  have hr := roots_all t.length
  obtain ⟨J', e1, e2, e3⟩ := best_ev (n := t.length) h2 (by omega) ht rfl (t.length - 1) [] _ hr (by simp; omega)
  have rf := rows_f t
  rw [@decide_eq_true _ (_) ht] at rf
  have hok : OpenOk t [] ((List.range t.length).map (fun v : Nat => (v : Int))) := ⟨hr.nd, fun x hx => by have := hr.free x hx; exact ⟨this.1, this.2.1⟩, by omega, by simp; omega⟩
  have e4 : Ev (fun k => track_best.f k t [] ((List.range t.length).map (fun v : Nat => (v : Int)))) (LV t J', J') := by
    refine Ev.congr (fun k => ?_) e1
    unfold track_best.f
    rw [if_pos ⟨hok, by simp; omega⟩]
    simp
  refine ⟨J', e2, ?_, e3⟩
  unfold track_Best.f
  rw [rf]
  exact Ev.bind (ev_val rfl) (ev_pos rfl (Ev.bind (all_ev t (by omega)) (Ev.bind e4 (Ev.now _))))
end Go.Proofs.Ytcphmeeighhdjaa.Pure

-- out of RX
namespace Go.Proofs.Ytcphmeeighhdjaa.Pure
open Go Go.Proofs Go.RowKit Go.Proofs.Ytcphmeeighhdjaa.P Go.Proofs.YtcphmeeighhdjaaW.PrintWords Go.Proofs.YtcphmeeighhdjaaW.PrintLast
set_option linter.unusedVariables false
theorem b16 : ∀ s ∈ List.range 16, ∀ u ∈ List.range 16, (0 ≤ Go.bits .and .i64 ((s : Nat) : Int) ((u : Nat) : Int) ∧ Go.bits .and .i64 ((s : Nat) : Int) ((u : Nat) : Int) < 16) ∧ (0 ≤ Go.bits .or .i64 ((s : Nat) : Int) ((u : Nat) : Int) ∧ Go.bits .or .i64 ((s : Nat) : Int) ((u : Nat) : Int) < 16) ∧
    Go.bits .and .i64 ((s : Nat) : Int) ((u : Nat) : Int) = Go.bits .and .i64 ((u : Nat) : Int) ((s : Nat) : Int) ∧ Go.bits .or .i64 ((s : Nat) : Int) ((u : Nat) : Int) = Go.bits .or .i64 ((u : Nat) : Int) ((s : Nat) : Int) ∧
    Go.bits .and .i64 (Go.bits .and .i64 ((s : Nat) : Int) ((u : Nat) : Int)) ((u : Nat) : Int) = Go.bits .and .i64 ((s : Nat) : Int) ((u : Nat) : Int) := by decide +kernel
theorem b16c : ∀ s ∈ List.range 16, ∀ s' ∈ List.range 16, ∀ u ∈ List.range 16, (Go.bits .and .i64 (Go.bits .and .i64 ((s : Nat) : Int) ((u : Nat) : Int)) (Go.bits .or .i64 ((s' : Nat) : Int) ((u : Nat) : Int)) = Go.bits .and .i64 ((s : Nat) : Int) ((u : Nat) : Int)) ∧ (Go.bits .and .i64 ((s : Nat) : Int) ((s' : Nat) : Int) = ((s : Nat) : Int) →
    (Go.bits .and .i64 ((s : Nat) : Int) ((u : Nat) : Int) ≠ 0 → Go.bits .and .i64 ((s' : Nat) : Int) ((u : Nat) : Int) ≠ 0 ∧ Go.bits .and .i64 (Go.bits .and .i64 ((s : Nat) : Int) ((u : Nat) : Int)) (Go.bits .and .i64 ((s' : Nat) : Int) ((u : Nat) : Int)) = Go.bits .and .i64 ((s : Nat) : Int) ((u : Nat) : Int)) ∧
    (Go.bits .and .i64 (Go.bits .or .i64 ((s : Nat) : Int) ((u : Nat) : Int)) (Go.bits .or .i64 ((s' : Nat) : Int) ((u : Nat) : Int)) = Go.bits .or .i64 ((s : Nat) : Int) ((u : Nat) : Int))) := by decide +kernel
def In16 (x : Int) : Prop := 0 ≤ x ∧ x < 16
theorem In16.nat {x : Int} (h : In16 x) : ∃ n : Nat, x = n ∧ n ∈ List.range 16 := ⟨x.toNat, by have := h.1; omega, List.mem_range.2 (by have := h.2; have := h.1; omega)⟩
/-- The set of a join, and whether it is a change. -/
def st (p q : Int) : Int × Int := if Go.bits .and .i64 p q = 0 then (Go.bits .or .i64 p q, 1) else (Go.bits .and .i64 p q, 0)
theorem st_comm {p q : Int} (hp : In16 p) (hq : In16 q) : st p q = st q p := by
  obtain ⟨s, rfl, hs⟩ := hp.nat
  obtain ⟨u, rfl, hu⟩ := hq.nat
  obtain ⟨_, _, h1, h2, _⟩ := b16 s hs u hu
  unfold st
  rw [h1, h2]
theorem st_16 {p q : Int} (hp : In16 p) (hq : In16 q) : In16 (st p q).1 := by
  obtain ⟨s, rfl, hs⟩ := hp.nat
  obtain ⟨u, rfl, hu⟩ := hq.nat
  obtain ⟨h1, h2, _⟩ := b16 s hs u hu
  unfold st
  split
  · exact h2
  · exact h1
/-- A change less, or as many and a set that is no smaller. -/
def Rl (c c' s s' : Int) : Prop := c' + 1 ≤ c ∨ (c' = c ∧ Go.bits .and .i64 s s' = s)
theorem rl_leaf {s u : Int} (hs : In16 s) (hu : In16 u) (c : Int) : Rl (c + (st s u).2) c (st s u).1 u := by
  obtain ⟨s, rfl, gs⟩ := hs.nat
  obtain ⟨u, rfl, gu⟩ := hu.nat
  obtain ⟨_, _, _, _, h⟩ := b16 s gs u gu
  unfold st
  split
  · exact .inl (Int.le_refl _)
  · exact .inr ⟨(Int.add_zero c).symm, h⟩
theorem rl_step {s s' u c c' : Int} (hs : In16 s) (hs' : In16 s') (hu : In16 u) (h : Rl c c' s s') : Rl (c + (st s u).2) (c' + (st s' u).2) (st s u).1 (st s' u).1 := by
  obtain ⟨s, rfl, gs⟩ := hs.nat
  obtain ⟨s', rfl, gs'⟩ := hs'.nat
  obtain ⟨u, rfl, gu⟩ := hu.nat
  obtain ⟨h3, h12⟩ := b16c s gs s' gs' u gu
  unfold st
  by_cases a : Go.bits .and .i64 ((s : Nat) : Int) ((u : Nat) : Int) = 0
  · rw [if_pos a]
    by_cases b : Go.bits .and .i64 ((s' : Nat) : Int) ((u : Nat) : Int) = 0
    · rw [if_pos b]
      rcases h with h | ⟨h, hh⟩
      · exact .inl (by show c' + 1 + 1 ≤ c + 1; omega)
      · exact .inr ⟨by show c' + 1 = c + 1; omega, (h12 hh).2⟩
    · rw [if_neg b]
      rcases h with h | ⟨h, hh⟩
      · exact .inl (by show c' + 0 + 1 ≤ c + 1; omega)
      · exact .inl (by show c' + 0 + 1 ≤ c + 1; omega)
  · rw [if_neg a]
    by_cases b : Go.bits .and .i64 ((s' : Nat) : Int) ((u : Nat) : Int) = 0
    · rw [if_pos b]
      rcases h with h | ⟨h, hh⟩
      · by_cases e : c' + 2 ≤ c
        · exact .inl (by show c' + 1 + 1 ≤ c + 0; omega)
        · exact .inr ⟨by show c' + 1 = c + 0; omega, h3⟩
      · exact absurd b ((h12 hh).1 a).1
    · rw [if_neg b]
      rcases h with h | ⟨h, hh⟩
      · exact .inl (by show c' + 0 + 1 ≤ c + 0; omega)
      · exact .inr ⟨by show c' + 0 = c + 0; omega, ((h12 hh).1 a).2⟩
/-! ### Fitch's sets, step by step -/
theorem rd_old (l : List Int) (x : Int) (v : Nat) (h : v < l.length) : rd (l ++ [x]) v = rd l v := by
  rw [rd_nat _ v (by rw [List.length_append]; omega), rd_nat l v h, List.getElem_append_left h]
theorem rd_new (l : List Int) (x : Int) (v : Nat) (h : v = l.length) : rd (l ++ [x]) v = x := by
  subst h
  rw [rd_nat _ _ (by rw [List.length_append, List.length_singleton]; omega), List.getElem_append_right (Nat.le_refl _)]
  simp
section
variable (J : List S67) (L : List Int)
/-- The set of a node, once m joins are made. -/
def fs (m : Nat) (v : Int) : Int := rd (fitTo J L m).1 v
theorem fit_step (m : Nat) (hm : m ≤ 1000) : (fitTo J L (m + 1)).1 = (fitTo J L m).1 ++ [(st (fs J L m (rd_T67 J m).f0) (fs J L m (rd_T67 J m).f1)).1] ∧ (fitTo J L (m + 1)).2 = (fitTo J L m).2 + (st (fs J L m (rd_T67 J m).f0) (fs J L m (rd_T67 J m).f1)).2 := by
  have f := fit_few J L m hm
  unfold st fs
  simp only [fitTo]
  split
  · refine ⟨rfl, ?_⟩
    show wrap64 ((fitTo J L m).2 + 1) = (fitTo J L m).2 + 1
    rw [w64 _ (by omega) (by omega)]
  · exact ⟨rfl, (Int.add_zero _).symm⟩
theorem fs_old (m : Nat) (hm : m ≤ 1000) (v : Nat) (h : v < L.length + m) : fs J L (m + 1) v = fs J L m v := by
  unfold fs
  rw [(fit_step J L m hm).1, rd_old _ _ v (by rw [fitTo_length]; exact h)]
theorem fs_new (m : Nat) (hm : m ≤ 1000) : fs J L (m + 1) ((L.length + m : Nat) : Int) = (st (fs J L m (rd_T67 J m).f0) (fs J L m (rd_T67 J m).f1)).1 := by
  unfold fs
  rw [(fit_step J L m hm).1, rd_new _ _ _ (by rw [fitTo_length])]
  rfl
theorem fit_16 (hL : ∀ s ∈ L, 0 ≤ s ∧ s < 4) (m : Nat) (hm : m ≤ 1000) : ∀ v : Int, In16 (fs J L m v) := by
  have key : ∀ x ∈ (fitTo J L m).1, In16 x := by
    induction m with
    | zero =>
      intro x hx
      obtain ⟨s, hs, rfl⟩ := List.mem_map.1 hx
      have := hL s hs
      have : s = 0 ∨ s = 1 ∨ s = 2 ∨ s = 3 := by omega
      rcases this with rfl | rfl | rfl | rfl <;> exact ⟨by decide +kernel, by decide +kernel⟩
    | succ m ih =>
      intro x hx
      have h16 : ∀ v : Int, In16 (fs J L m v) := fun v => by
        unfold fs rd
        rw [List.getD_eq_getElem?_getD]
        cases e : (fitTo J L m).1[v.toNat]? with
        | none => exact ⟨by decide, by decide⟩
        | some y => exact ih (by omega) y (List.mem_of_getElem? e)
      rw [(fit_step J L m (by omega)).1] at hx
      rcases List.mem_append.1 hx with h | h
      · exact ih (by omega) x h
      · rw [List.mem_singleton.1 h]; exact st_16 (h16 _) (h16 _)
  intro v
  unfold fs rd
  rw [List.getD_eq_getElem?_getD]
  cases e : (fitTo J L m).1[v.toNat]? with
  | none => exact ⟨by decide, by decide⟩
  | some y => exact key y (List.mem_of_getElem? e)
end
theorem fit_app (J : List S67) (x : S67) (L : List Int) (m : Nat) (h : m ≤ J.length) : fitTo (J ++ [x]) L m = fitTo J L m := by
  induction m with
  | zero => rfl
  | succ m ih => simp only [fitTo]; rw [ih (by omega), rd_T67_old J x m (by omega)]
/-! ### the last leaf goes -/
def Reach (n : Nat) (K : List S67) (O : List Int) : Prop := ∀ m J', Ends n m K O J' → Ends n (m + K.length) [] ((List.range n).map (fun v : Nat => (v : Int))) J'
/-- What is left of the first m joins once leaf n is gone: joins K, names r of the nodes, roots O. -/
structure Dl (n : Nat) (J : List S67) (m : Nat) (K : List S67) (r : List Int) (O : List Int) : Prop where
  len : r.length = n + 1 + m
  roots : RootsOk n K O
  reach : Reach n K O
  name : ∀ v : Nat, v < n + 1 + m → (v : Int) ∉ usedTo J m → v ≠ n → rd r v ∈ O
  inj : ∀ v w : Nat, v < n + 1 + m → (v : Int) ∉ usedTo J m → v ≠ n → w < n + 1 + m → (w : Int) ∉ usedTo J m → w ≠ n → v ≠ w → rd r v ≠ rd r w
  some_ : (n : Int) ∈ usedTo J m → K.length + 1 = m
  none_ : (n : Int) ∉ usedTo J m → K.length = m
/-- How the sets and the changes stand to each other. -/
def Fr (n : Nat) (J : List S67) (m : Nat) (K : List S67) (r : List Int) (L : List Int) : Prop :=
  ((n : Int) ∉ usedTo J m → (∀ v : Nat, v < n + 1 + m → (v : Int) ∉ usedTo J m → v ≠ n → fs K (L.take n) K.length (rd r v) = fs J L m v) ∧ (fitTo K (L.take n) K.length).2 = (fitTo J L m).2) ∧
  ((n : Int) ∈ usedTo J m → ∃ x : Nat, x < n + 1 + m ∧ (x : Int) ∉ usedTo J m ∧ (∀ v : Nat, v < n + 1 + m → (v : Int) ∉ usedTo J m → v ≠ x → fs K (L.take n) K.length (rd r v) = fs J L m v) ∧ Rl (fitTo J L m).2 (fitTo K (L.take n) K.length).2 (fs J L m x) (fs K (L.take n) K.length (rd r x)))
theorem used_lt (n : Int) (J : List S67) (m : Nat) (h : ∀ i, i < m → JoinOk n J i) : ∀ x ∈ usedTo J m, 0 ≤ x ∧ x < n + m := by
  induction m with
  | zero => intro x hx; simp [usedTo] at hx
  | succ m ih =>
    intro x hx
    simp only [usedTo, List.mem_append, List.mem_singleton] at hx
    obtain ⟨⟨a1, a2, _⟩, ⟨b1, b2, _⟩⟩ := h m (by omega)
    rcases hx with (hx | rfl) | rfl
    · have := ih (fun i hi => h i (by omega)) x hx; omega
    · omega
    · omega
theorem rest_in (O : List Int) (hO : O.Nodup) (i c : Nat) (hi : i < O.length) (hc : c < O.length) (x : Int) (hx : x ∈ O) (h1 : x ≠ rd O i) (h2 : x ≠ rd O c) : x ∈ restTo O i c O.length := by
  rw [← rest_is O hO i c hi hc]
  unfold restOf
  rw [List.mem_filter]
  refine ⟨hx, ?_⟩
  rw [beq_eq_false_iff_ne.2 h1, beq_eq_false_iff_ne.2 h2]
  rfl
theorem two_of (O : List Int) (p q : Int) (hp : p ∈ O) (hq : q ∈ O) (h : p ≠ q) : ∃ i c : Nat, i < c ∧ c < O.length ∧ ((rd O i = p ∧ rd O c = q) ∨ (rd O i = q ∧ rd O c = p)) := by
  obtain ⟨i, hi, ei⟩ := List.getElem_of_mem hp
  obtain ⟨c, hc, ec⟩ := List.getElem_of_mem hq
  rw [← rd_nat O i hi] at ei
  rw [← rd_nat O c hc] at ec
  rcases Nat.lt_trichotomy i c with g | g | g
  · exact ⟨i, c, g, hc, .inl ⟨ei, ec⟩⟩
  · subst g; exact absurd (ei.symm.trans ec) h
  · exact ⟨c, i, g, hi, .inr ⟨ec, ei⟩⟩
theorem reach_step {n : Nat} {K : List S67} {O : List Int} (h : Reach n K O) (i c : Nat) (h1 : i < c) (h2 : c < O.length) : Reach n (K ++ [(⟨rd O i, rd O c⟩ : S67)]) (restTo O i c O.length ++ [((n + K.length : Nat) : Int)]) := by
  intro m J' e
  have := h (m + 1) J' ⟨i, c, h1, h2, e⟩
  rw [List.length_append, List.length_singleton, show m + (K.length + 1) = m + 1 + K.length by omega]
  exact this
section
variable {n : Nat} {J : List S67} {m : Nat} (hn : 1 ≤ n) (hn8 : n ≤ 8) (hm : m < J.length) (hJ : J.length ≤ 8) (hj : ∀ i, i < J.length → JoinOk ((n + 1 : Nat) : Int) J i)
include hn hn8 hm hJ hj
theorem del_step {K : List S67} {r O : List Int} (D : Dl n J m K r O) (F : ∀ L : List Int, L.length = n + 1 → (∀ s ∈ L, 0 ≤ s ∧ s < 4) → Fr n J m K r L) :
    ∃ K' r' O', Dl n J (m + 1) K' r' O' ∧ ∀ L : List Int, L.length = n + 1 → (∀ s ∈ L, 0 ≤ s ∧ s < 4) → Fr n J (m + 1) K' r' L := by
  obtain ⟨⟨a1, a2, a3⟩, ⟨b1, b2, b3⟩⟩ := hj m hm
  obtain ⟨a, ea⟩ : ∃ a : Nat, (rd_T67 J m).f0 = a := ⟨(rd_T67 J m).f0.toNat, by omega⟩
  obtain ⟨b, eb⟩ : ∃ b : Nat, (rd_T67 J m).f1 = b := ⟨(rd_T67 J m).f1.toNat, by omega⟩
  have hu : usedTo J (m + 1) = usedTo J m ++ [(a : Int)] ++ [(b : Int)] := by simp only [usedTo, ea, eb]
  rw [ea] at a1 a2 a3 b3
  rw [eb] at b1 b2 b3
  have b4 : (b : Int) ∉ usedTo J m := fun h => b3 (List.mem_append_left _ h)
  have hab : a ≠ b := fun e => b3 (by rw [e]; exact List.mem_append_right _ (List.mem_singleton.2 rfl))
  have ha : a < n + 1 + m := by omega
  have hb : b < n + 1 + m := by omega
  have hlt := used_lt ((n + 1 : Nat) : Int) J m (fun i hi => hj i (by omega))
  have hz : ((n + 1 + m : Nat) : Int) ∉ usedTo J m := fun h => by have := (hlt _ h).2; omega
  -- who is unused behind the join
  have un : ∀ v : Nat, (v : Int) ∉ usedTo J (m + 1) ↔ (v : Int) ∉ usedTo J m ∧ v ≠ a ∧ v ≠ b := by
    intro v
    rw [hu]
    simp only [List.mem_append, List.mem_singleton, not_or]
    constructor
    · rintro ⟨⟨h1, h2⟩, h3⟩; exact ⟨h1, fun e => h2 (by rw [e]), fun e => h3 (by rw [e])⟩
    · rintro ⟨h1, h2, h3⟩; exact ⟨⟨h1, fun e => h2 (by omega)⟩, fun e => h3 (by omega)⟩
  have old : ∀ (y : Int) (v : Nat), v < n + 1 + m → rd (r ++ [y]) v = rd r v := fun y v hv => rd_old r y v (by rw [D.len]; exact hv)
  have new : ∀ y : Int, rd (r ++ [y]) ((n + 1 + m : Nat) : Int) = y := fun y => rd_new r y _ D.len.symm
  -- the leaf joins o
  have leafCase : ∀ o : Nat, o < n + 1 + m → (o : Int) ∉ usedTo J m → o ≠ n → ((a = n ∧ b = o) ∨ (a = o ∧ b = n)) → (n : Int) ∉ usedTo J m →
      ∃ K' r' O', Dl n J (m + 1) K' r' O' ∧ ∀ L : List Int, L.length = n + 1 → (∀ s ∈ L, 0 ≤ s ∧ s < 4) → Fr n J (m + 1) K' r' L := by
    intro o ho ho2 hon hcase hn0
    have hin : (n : Int) ∈ usedTo J (m + 1) := by
      rw [hu]
      simp only [List.mem_append, List.mem_singleton]
      rcases hcase with ⟨e, _⟩ | ⟨_, e⟩
      · exact .inl (.inr (by rw [e]))
      · exact .inr (by rw [e])
    have hv : ∀ v : Nat, v < n + 1 + (m + 1) → (v : Int) ∉ usedTo J (m + 1) → v = n + 1 + m ∨ (v < n + 1 + m ∧ (v : Int) ∉ usedTo J m ∧ v ≠ n ∧ v ≠ o) := by
      intro v h1 h2
      have h3 := (un v).1 h2
      by_cases e : v = n + 1 + m
      · exact .inl e
      · refine .inr ⟨by omega, h3.1, ?_, ?_⟩ <;> rcases hcase with ⟨e1, e2⟩ | ⟨e1, e2⟩ <;> omega
    refine ⟨K, r ++ [rd r o], O, ⟨by rw [List.length_append, List.length_singleton, D.len]; omega, D.roots, D.reach, ?_, ?_, fun _ => by have := D.none_ hn0; omega, fun h => absurd hin h⟩, fun L hL hs => ⟨fun h => absurd hin h, fun _ => ?_⟩⟩
    · intro v h1 h2 h3
      rcases hv v h1 h2 with rfl | ⟨g1, g2, g3, g4⟩
      · rw [new]; exact D.name o ho ho2 hon
      · rw [old _ v g1]; exact D.name v g1 g2 g3
    · intro v w h1 h2 h3 k1 k2 k3 hne
      rcases hv v h1 h2 with rfl | ⟨g1, g2, g3, g4⟩ <;> rcases hv w k1 k2 with rfl | ⟨q1, q2, q3, q4⟩
      · exact absurd rfl hne
      · rw [new, old _ w q1]; exact D.inj o w ho ho2 hon q1 q2 q3 (Ne.symm q4)
      · rw [new, old _ v g1]; exact D.inj v o g1 g2 g3 ho ho2 hon g4
      · rw [old _ v g1, old _ w q1]; exact D.inj v w g1 g2 g3 q1 q2 q3 hne
    · obtain ⟨f1, f2⟩ := (F L hL hs).1 hn0
      have e16 := fit_16 J L hs m (by omega)
      refine ⟨n + 1 + m, by omega, (un _).2 ⟨hz, by omega, by omega⟩, fun v h1 h2 h3 => ?_, ?_⟩
      · rcases hv v h1 h2 with e | ⟨g1, g2, g3, g4⟩
        · exact absurd e h3
        · rw [old _ v g1, f1 v g1 g2 g3, fs_old J L m (by omega) v (by omega)]
      · have hst : st (fs J L m (rd_T67 J m).f0) (fs J L m (rd_T67 J m).f1) = st (fs J L m n) (fs J L m o) := by
          rw [ea, eb]
          rcases hcase with ⟨rfl, rfl⟩ | ⟨rfl, rfl⟩
          · rfl
          · exact st_comm (e16 _) (e16 _)
        have hnew := fs_new J L m (by omega)
        rw [hL] at hnew
        rw [new, hnew, (fit_step J L m (by omega)).2, hst, f2, f1 o ho ho2 hon]
        exact rl_leaf (e16 _) (e16 _) _
  by_cases han : a = n
  · exact leafCase b hb b4 (by omega) (.inl ⟨han, rfl⟩) (by rw [← han]; exact a3)
  by_cases hbn : b = n
  · exact leafCase a ha a3 han (.inr ⟨rfl, hbn⟩) (by rw [← hbn]; exact b4)
  -- the leaf is not joined here
  have hna := D.name a ha a3 han
  have hnb := D.name b hb b4 hbn
  obtain ⟨i, c, hic, hc, hpq⟩ := two_of O _ _ hna hnb (D.inj a b ha a3 han hb b4 hbn hab)
  have hR := roots_step n K O D.roots i c (by omega) hc (by omega)
  have hKl := D.roots.len
  have hsame : (n : Int) ∈ usedTo J (m + 1) ↔ (n : Int) ∈ usedTo J m := by
    have := un n
    constructor
    · intro h
      by_cases g : (n : Int) ∈ usedTo J m
      · exact g
      · exact absurd h (this.2 ⟨g, Ne.symm han, Ne.symm hbn⟩)
    · intro h
      rw [hu]
      exact List.mem_append_left _ (List.mem_append_left _ h)
  have hv : ∀ v : Nat, v < n + 1 + (m + 1) → (v : Int) ∉ usedTo J (m + 1) → v = n + 1 + m ∨ (v < n + 1 + m ∧ (v : Int) ∉ usedTo J m ∧ v ≠ a ∧ v ≠ b) := by
    intro v h1 h2
    have h3 := (un v).1 h2
    by_cases e : v = n + 1 + m
    · exact .inl e
    · exact .inr ⟨by omega, h3⟩
  have hpp : ∀ v : Nat, v < n + 1 + m → (v : Int) ∉ usedTo J m → v ≠ n → v ≠ a → v ≠ b → rd r v ≠ rd O i ∧ rd r v ≠ rd O c := by
    intro v g1 g2 g3 g4 g5
    have x1 := D.inj v a g1 g2 g3 ha a3 han g4
    have x2 := D.inj v b g1 g2 g3 hb b4 hbn g5
    rcases hpq with ⟨e1, e2⟩ | ⟨e1, e2⟩
    · rw [e1, e2]; exact ⟨x1, x2⟩
    · rw [e1, e2]; exact ⟨x2, x1⟩
  have hfree : ∀ x ∈ O, ∃ u : Nat, x = u ∧ u < n + K.length := fun x hx => by
    have := D.roots.free x hx
    exact ⟨x.toNat, by omega, by omega⟩
  refine ⟨K ++ [(⟨rd O i, rd O c⟩ : S67)], r ++ [((n + K.length : Nat) : Int)], restTo O i c O.length ++ [((n + K.length : Nat) : Int)], ⟨by rw [List.length_append, List.length_singleton, D.len]; omega, hR, reach_step D.reach i c hic hc, ?_, ?_, fun h => ?_, fun h => ?_⟩, fun L hL hs => ?_⟩
  · intro v h1 h2 h3
    rcases hv v h1 h2 with rfl | ⟨g1, g2, g4, g5⟩
    · rw [new]; exact List.mem_append_right _ (List.mem_singleton.2 rfl)
    · rw [old _ v g1]
      have := hpp v g1 g2 h3 g4 g5
      exact List.mem_append_left _ (rest_in O D.roots.nd i c (by omega) hc _ (D.name v g1 g2 h3) this.1 this.2)
  · intro v w h1 h2 h3 k1 k2 k3 hne
    rcases hv v h1 h2 with rfl | ⟨g1, g2, g4, g5⟩ <;> rcases hv w k1 k2 with rfl | ⟨q1, q2, q4, q5⟩
    · exact absurd rfl hne
    · rw [new, old _ w q1]
      obtain ⟨u, e1, e2⟩ := hfree _ (D.name w q1 q2 k3)
      rw [e1]; omega
    · rw [new, old _ v g1]
      obtain ⟨u, e1, e2⟩ := hfree _ (D.name v g1 g2 h3)
      rw [e1]; omega
    · rw [old _ v g1, old _ w q1]; exact D.inj v w g1 g2 h3 q1 q2 k3 hne
  · rw [List.length_append, List.length_singleton]; have := D.some_ (hsame.1 h); omega
  · rw [List.length_append, List.length_singleton]; have := D.none_ (fun g => h (hsame.2 g)); omega
  · have hKn : K.length ≤ 8 := by omega
    have hLt : (L.take n).length = n := by rw [List.length_take]; omega
    have hst4 : ∀ s ∈ L.take n, 0 ≤ s ∧ s < 4 := fun s h => hs s (List.mem_of_mem_take h)
    have e16 := fit_16 J L hs m (by omega)
    have k16 := fit_16 K (L.take n) hst4 K.length (by omega)
    -- the new tree's sets
    have ka : ∀ mm, mm ≤ K.length → fitTo (K ++ [(⟨rd O i, rd O c⟩ : S67)]) (L.take n) mm = fitTo K (L.take n) mm := fun mm h => fit_app K _ _ mm h
    have kst := fit_step (K ++ [(⟨rd O i, rd O c⟩ : S67)]) (L.take n) K.length (by omega)
    have kold : ∀ u : Nat, u < n + K.length → fs (K ++ [(⟨rd O i, rd O c⟩ : S67)]) (L.take n) (K.length + 1) u = fs K (L.take n) K.length u := fun u hu_ => by
      rw [fs_old _ _ K.length (by omega) u (by omega)]
      unfold fs
      rw [ka K.length (Nat.le_refl _)]
    have knew := fs_new (K ++ [(⟨rd O i, rd O c⟩ : S67)]) (L.take n) K.length (by omega)
    have kq : st (fs (K ++ [(⟨rd O i, rd O c⟩ : S67)]) (L.take n) K.length (rd_T67 (K ++ [(⟨rd O i, rd O c⟩ : S67)]) K.length).f0) (fs (K ++ [(⟨rd O i, rd O c⟩ : S67)]) (L.take n) K.length (rd_T67 (K ++ [(⟨rd O i, rd O c⟩ : S67)]) K.length).f1) = st (fs K (L.take n) K.length (rd r a)) (fs K (L.take n) K.length (rd r b)) := by
      rw [rd_T67_new K _ _ rfl]
      have e_ : ∀ v : Int, fs (K ++ [(⟨rd O i, rd O c⟩ : S67)]) (L.take n) K.length v = fs K (L.take n) K.length v := fun v => by unfold fs; rw [ka K.length (Nat.le_refl _)]
      rw [e_, e_]
      show st (fs K (L.take n) K.length (rd O i)) (fs K (L.take n) K.length (rd O c)) = _
      rcases hpq with ⟨e1, e2⟩ | ⟨e1, e2⟩
      · rw [e1, e2]
      · rw [e1, e2]; exact st_comm (k16 _) (k16 _)
    rw [kq] at kst knew
    rw [hLt] at knew
    rw [ka K.length (Nat.le_refl _)] at kst
    have hKl' : (K ++ [(⟨rd O i, rd O c⟩ : S67)]).length = K.length + 1 := by rw [List.length_append, List.length_singleton]
    have jst := fit_step J L m (by omega)
    have jnew := fs_new J L m (by omega)
    rw [ea, eb] at jst jnew
    rw [hL] at jnew
    have kname : ∀ v : Nat, v < n + 1 + m → (v : Int) ∉ usedTo J m → v ≠ n → fs (K ++ [(⟨rd O i, rd O c⟩ : S67)]) (L.take n) (K.length + 1) (rd r v) = fs K (L.take n) K.length (rd r v) := fun v g1 g2 g3 => by
      obtain ⟨u, e1, e2⟩ := hfree _ (D.name v g1 g2 g3)
      rw [e1]; exact kold u e2
    unfold Fr
    rw [hKl']
    refine ⟨fun h => ?_, fun h => ?_⟩
    · have hn0 : (n : Int) ∉ usedTo J m := fun g => h (hsame.2 g)
      obtain ⟨f1, f2⟩ := (F L hL hs).1 hn0
      refine ⟨fun v h1 h2 h3 => ?_, ?_⟩
      · rcases hv v h1 h2 with rfl | ⟨g1, g2, g4, g5⟩
        · rw [new, jnew, knew, f1 a ha a3 han, f1 b hb b4 hbn]
        · rw [old _ v g1, kname v g1 g2 h3, f1 v g1 g2 h3, fs_old J L m (by omega) v (by omega)]
      · rw [kst.2, jst.2, f2, f1 a ha a3 han, f1 b hb b4 hbn]
    · have hn1 := hsame.1 h
      obtain ⟨x, x1, x2, x3, x4⟩ := (F L hL hs).2 hn1
      have vn : ∀ v : Nat, (v : Int) ∉ usedTo J m → v ≠ n := fun v g e => g (by rw [e]; exact hn1)
      by_cases xa : x = a
      · subst xa
        have hb' := x3 b hb b4 (Ne.symm hab)
        refine ⟨n + 1 + m, by omega, (un _).2 ⟨hz, by omega, by omega⟩, fun v h1 h2 h3 => ?_, ?_⟩
        · rcases hv v h1 h2 with e | ⟨g1, g2, g4, g5⟩
          · exact absurd e h3
          · rw [old _ v g1, kname v g1 g2 (vn v g2), x3 v g1 g2 g4, fs_old J L m (by omega) v (by omega)]
        · rw [new, jnew, knew, kst.2, jst.2, hb']
          exact rl_step (e16 _) (k16 _) (e16 _) x4
      · by_cases xb : x = b
        · subst xb
          have ha' := x3 a ha a3 hab
          refine ⟨n + 1 + m, by omega, (un _).2 ⟨hz, by omega, by omega⟩, fun v h1 h2 h3 => ?_, ?_⟩
          · rcases hv v h1 h2 with e | ⟨g1, g2, g4, g5⟩
            · exact absurd e h3
            · rw [old _ v g1, kname v g1 g2 (vn v g2), x3 v g1 g2 g5, fs_old J L m (by omega) v (by omega)]
          · rw [new, jnew, knew, kst.2, jst.2, ha', st_comm (e16 a) (e16 x), st_comm (e16 a) (k16 (rd r x))]
            exact rl_step (e16 _) (k16 _) (e16 _) x4
        · have ha' := x3 a ha a3 (Ne.symm xa)
          have hb' := x3 b hb b4 (Ne.symm xb)
          refine ⟨x, by omega, (un x).2 ⟨x2, xa, xb⟩, fun v h1 h2 h3 => ?_, ?_⟩
          · rcases hv v h1 h2 with rfl | ⟨g1, g2, g4, g5⟩
            · rw [new, jnew, knew, ha', hb']
            · rw [old _ v g1, kname v g1 g2 (vn v g2), x3 v g1 g2 h3, fs_old J L m (by omega) v (by omega)]
          · rw [old _ x x1, kname x x1 x2 (vn x x2), fs_old J L m (by omega) x (by omega), kst.2, jst.2, ha', hb']
            rcases x4 with x4 | ⟨x4, x5⟩
            · exact .inl (by omega)
            · exact .inr ⟨by omega, x5⟩
end
end Go.Proofs.Ytcphmeeighhdjaa.Pure

-- out of PureTrackTables
namespace Go.Proofs.Ytcphmeeighhdjaa.Pure
open Go Go.Proofs Go.RowKit Go.Proofs.Ytcphmeeighhdjaa.P Go.Proofs.YtcphmeeighhdjaaW.PrintWords Go.Proofs.YtcphmeeighhdjaaW.PrintLast
set_option linter.unusedVariables false
theorem del_start (n : Nat) (J : List S67) : Dl n J 0 [] ((List.range n).map (fun v : Nat => (v : Int)) ++ [-1]) ((List.range n).map (fun v : Nat => (v : Int))) ∧ ∀ L : List Int, L.length = n + 1 → (∀ s ∈ L, 0 ≤ s ∧ s < 4) → Fr n J 0 [] ((List.range n).map (fun v : Nat => (v : Int)) ++ [-1]) L := by
  have hl : ((List.range n).map (fun v : Nat => (v : Int))).length = n := by simp
  have hr : ∀ v : Nat, v < n → rd ((List.range n).map (fun v : Nat => (v : Int)) ++ [-1]) v = v := fun v hv => by
    rw [rd_old _ _ v (by rw [hl]; exact hv), rd_nat _ v (by rw [hl]; exact hv)]
    simp
  refine ⟨⟨by simp, roots_all n, fun m J' e => e, fun v h1 h2 h3 => ?_, fun v w h1 h2 h3 k1 k2 k3 hne => ?_, fun h => by simp [usedTo] at h, fun _ => rfl⟩, fun L hL hs => ⟨fun _ => ⟨fun v h1 h2 h3 => ?_, rfl⟩, fun h => by simp [usedTo] at h⟩⟩
  · rw [hr v (by omega)]
    exact List.mem_map.2 ⟨v, List.mem_range.2 (by omega), rfl⟩
  · rw [hr v (by omega), hr w (by omega)]; omega
  · rw [hr v (by omega)]
    show rd ((L.take n).map (fun s => shl .i64 1 s)) v = rd (L.map (fun s => shl .i64 1 s)) v
    rw [rd_nat _ v (by rw [List.length_map, List.length_take]; omega), rd_nat _ v (by rw [List.length_map]; omega)]
    simp
theorem del_all {n : Nat} {J : List S67} (h2 : 2 ≤ n) (h7 : n ≤ 7) (h : TreeOk ((n + 1 : Nat) : Int) J) : ∃ K, Ends n (n - 1) [] ((List.range n).map (fun v : Nat => (v : Int))) K ∧ ∀ L : List Int, L.length = n + 1 → (∀ s ∈ L, 0 ≤ s ∧ s < 4) → fitN K (L.take n) ≤ fitN J L := by
  have hJ : J.length = n := by have := h.2.2.1; omega
  have key : ∀ m, m ≤ J.length → ∃ K r O, Dl n J m K r O ∧ ∀ L : List Int, L.length = n + 1 → (∀ s ∈ L, 0 ≤ s ∧ s < 4) → Fr n J m K r L := by
    intro m
    induction m with
    | zero => intro _; exact ⟨_, _, _, del_start n J⟩
    | succ m ih =>
      intro hm
      obtain ⟨K, r, O, D, F⟩ := ih (by omega)
      exact del_step (by omega) (by omega) (by omega) (by omega) h.2.2.2 D F
  obtain ⟨K, r, O, D, F⟩ := key J.length (Nat.le_refl _)
  have hlt := used_lt ((n + 1 : Nat) : Int) J J.length h.2.2.2
  have hKl := D.roots.len
  have hin : (n : Int) ∈ usedTo J J.length := by
    by_cases g : (n : Int) ∈ usedTo J J.length
    · exact g
    · have k1 := D.none_ g
      have hz : ((n + n : Nat) : Int) ∉ usedTo J J.length := by
        intro q
        have h3 : usedTo J J.length = usedTo J (n - 1) ++ [(rd_T67 J ((n - 1 : Nat) : Int)).f0] ++ [(rd_T67 J ((n - 1 : Nat) : Int)).f1] := by
          rw [hJ, show n = (n - 1) + 1 by omega]
          simp only [usedTo]
          rw [show n - 1 + 1 - 1 = n - 1 by omega]
        rw [h3] at q
        have h4 := used_lt ((n + 1 : Nat) : Int) J (n - 1) (fun i hi => h.2.2.2 i (by omega))
        obtain ⟨⟨c1, c2, _⟩, ⟨c3, c4, _⟩⟩ := h.2.2.2 (n - 1) (by omega)
        simp only [List.mem_append, List.mem_singleton] at q
        rcases q with (q | q) | q
        · have := h4 _ q; omega
        · omega
        · omega
      have := D.name (n + n) (by omega) hz (by omega)
      have : O = [] := List.eq_nil_of_length_eq_zero (by omega)
      subst this
      simp at this
  have hK := D.some_ hin
  refine ⟨K, ?_, fun L hL hs => ?_⟩
  · have := D.reach 0 K rfl
    rw [Nat.zero_add, show K.length = n - 1 by omega] at this
    exact this
  · obtain ⟨x, _, _, _, x4⟩ := (F L hL hs).2 hin
    unfold fitN
    rcases x4 with x4 | ⟨x4, _⟩
    · omega
    · omega
/-- What Best and Tree answer, and that it is the least of all. -/
theorem Tree_least (t : List (List Int)) (ht : TableOk t) : ∃ J', Ends t.length (t.length - 1) [] ((List.range t.length).map (fun v : Nat => (v : Int))) J' ∧ Ev (fun k => track_Best.f k t) (LV t J', 0) ∧ Ev (fun k => track_Tree.f k t) (J', 0) ∧
    ∀ J'', Ends t.length (t.length - 1) [] ((List.range t.length).map (fun v : Nat => (v : Int))) J'' → LV t J' ≤ LV t J'' := by
  have h2 := ht.1.1
  have h5 := ht.1.2
  have hr := roots_all t.length
  obtain ⟨J', e1, e2, e3⟩ := best_ev (n := t.length) h2 (by omega) ht rfl (t.length - 1) [] _ hr (by simp; omega)
  have rf := rows_f t
  rw [@decide_eq_true _ (_) ht] at rf
  have hok : OpenOk t [] ((List.range t.length).map (fun v : Nat => (v : Int))) := ⟨hr.nd, fun x hx => by have := hr.free x hx; exact ⟨this.1, this.2.1⟩, by omega, by simp; omega⟩
  have e4 : Ev (fun k => track_best.f k t [] ((List.range t.length).map (fun v : Nat => (v : Int)))) (LV t J', J') := by
    refine Ev.congr (fun k => ?_) e1
    unfold track_best.f
    rw [if_pos ⟨hok, by simp; omega⟩]
    simp
  refine ⟨J', e2, ?_, ?_, e3⟩
  · unfold track_Best.f
    rw [rf]
    exact Ev.bind (ev_val rfl) (ev_pos rfl (Ev.bind (all_ev t (by omega)) (Ev.bind e4 (Ev.now _))))
  · unfold track_Tree.f
    rw [rf]
    exact Ev.bind (ev_val rfl) (ev_pos rfl (Ev.bind (all_ev t (by omega)) (Ev.bind e4 (Ev.now _))))
/-- The sum of changes, column by column. -/
def fitSum (J : List S67) (t : List (List Int)) : Nat → Int
  | 0 => 0
  | c + 1 => fitSum J t c + fitN J (col t c)
theorem lv_sum (J : List S67) (t : List (List Int)) (hJ : J.length ≤ 1000) : ∀ c, c ≤ 1000 → lenTo J t c = fitSum J t c
  | 0, _ => rfl
  | c + 1, h => by
    have i := lv_sum J t hJ c (by omega)
    have l := len_few J t hJ c (by omega)
    have f := fit_few J (col t c) J.length hJ
    simp only [lenTo, fitSum]
    unfold fitN
    rw [w64 _ (by omega) (by omega), i]
/-- A column as a table. -/
def colT (t : List (List Int)) (c n : Nat) : List (List Int) := (List.range n).map (fun i : Nat => [rd (rd_L3 t i) c])
theorem colT_tab {n m : Nat} {t : List (List Int)} (h : TabOf n m 4 t) (c : Nat) (hc : c < m) : TabOf n 1 4 (colT t c n) ∧ col (colT t c n) 0 = col t c := by
  have hl := h.1
  refine ⟨⟨by simp [colT], fun row hr => ?_⟩, ?_⟩
  · obtain ⟨i, hi, rfl⟩ := List.mem_map.1 hr
    have hi' := List.mem_range.1 hi
    refine ⟨rfl, fun s hs => ?_⟩
    rw [List.mem_singleton.1 hs, rd_L3_nat t i (by omega)]
    have := h.2 (t[i]'(by omega)) (List.getElem_mem _)
    rw [rd_nat _ c (by omega)]
    exact this.2 _ (List.getElem_mem _)
  · unfold col colT
    rw [List.map_map]
    refine List.ext_getElem (by simp [hl]) (fun i h1 h2 => ?_)
    simp only [List.length_map, List.length_range] at h1
    simp only [List.getElem_map, List.getElem_range, Function.comp]
    rw [rd_L3_nat t i (by omega)]
    rfl
theorem TrackTables_all (a0 a1 : Int) (x : List Int) (h0 : (Lit.int .u8 a0).wf = true) (h1 : (Lit.int .u8 a1).wf = true) (g0 : x.length ≤ maxLen) (g1 : ∀ v ∈ x, (Lit.int .u8 v).wf = true) : ∃ k, wogglelaw02_TrackTables.f k a0 a1 x = some true := by
  apply Ev.rounds
  have hv := u8_le h0
  have hv1 := u8_le h1
  obtain ⟨n, hn⟩ : ∃ n, (a0 % 3 + 2).toNat = n := ⟨_, rfl⟩
  obtain ⟨m, hm⟩ : ∃ m, (a1 % 6 + 1).toNat = m := ⟨_, rfl⟩
  have e0 : wrap64 (Int.tmod (wrap64 a0) 3 + 2) = (n : Int) := by
    rw [w64 a0 (by omega) (by omega), Int.tmod_eq_emod_of_nonneg hv.1, w64 _ (by omega) (by omega)]; omega
  have e1 : wrap64 (Int.tmod (wrap64 a1) 6 + 1) = (m : Int) := by
    rw [w64 a1 (by omega) (by omega), Int.tmod_eq_emod_of_nonneg hv1.1, w64 _ (by omega) (by omega)]; omega
  have h2 : 2 ≤ n := by omega
  have h4 : n ≤ 4 := by omega
  have m1 : 1 ≤ m := by omega
  have m6 : m ≤ 6 := by omega
  unfold wogglelaw02_TrackTables.f
  rw [e0, e1, succ_w n (by omega)]
  clear hn hm e0 e1
  obtain ⟨more, e2, hT⟩ := tab_rows (n + 1) m 4 x ⟨g0, g1⟩ (by omega) (by omega) (by omega) (by omega)
  refine Ev.bind e2 (ev_pos (by have := hT.1; omega) ?_)
  rw [Int.toNat_natCast]
  obtain ⟨t, ht⟩ : ∃ t, more.take n = t := ⟨_, rfl⟩
  rw [ht]
  have hTt : TabOf n m 4 t := by
    rw [← ht]
    exact ⟨by rw [List.length_take]; have := hT.1; omega, fun row hr => hT.2 row (List.mem_of_mem_take hr)⟩
  obtain ⟨okM, wM⟩ := tab_ok hT (by omega) (by omega) m1 m6 (by omega)
  obtain ⟨okT, wT⟩ := tab_ok hTt h2 (by omega) m1 m6 (by omega)
  obtain ⟨J, j1, j2, j3, j4⟩ := Tree_least t okT
  obtain ⟨K, k1, k2, k4⟩ := Best_least more okM
  rw [hTt.1] at j1 j4
  rw [hT.1] at k1 k4
  have hJ := ends_ok n h2 (by omega) (n - 1) [] _ J (roots_all n) (by simp; omega) j1
  have hK := ends_ok (n + 1) (by omega) (by omega) n [] _ K (roots_all (n + 1)) (by simp) (by rw [Nat.add_sub_cancel] at k1; exact k1)
  have hJl : J.length ≤ 8 := by have := hJ.2.2.1; omega
  have hKl : K.length ≤ 8 := by have := hK.2.2.1; omega
  -- a row less
  have hcol : ∀ c, c < m → (col more c).length = n + 1 ∧ (∀ s ∈ col more c, 0 ≤ s ∧ s < 4) ∧ (col more c).take n = col t c := by
    intro c hc
    refine ⟨by simp [col, hT.1], fun s hs => ?_, by rw [← ht]; simp [col, List.map_take]⟩
    obtain ⟨row, hr, rfl⟩ := List.mem_map.1 hs
    have := hT.2 row hr
    rw [rd_nat row c (by omega)]
    exact this.2 _ (List.getElem_mem _)
  have hle : LV t J ≤ LV more K := by
    obtain ⟨D, d1, d2⟩ := del_all h2 (by omega) hK
    have hD := ends_ok n h2 (by omega) (n - 1) [] _ D (roots_all n) (by simp; omega) d1
    refine Int.le_trans (j4 D d1) ?_
    unfold LV
    rw [wM, wT, lv_sum D t (by have := hD.2.2.1; omega) m (by omega), lv_sum K more (by omega) m (by omega)]
    have key : ∀ c, c ≤ m → fitSum D t c ≤ fitSum K more c := by
      intro c
      induction c with
      | zero => intro _; exact Int.le_refl _
      | succ c ih =>
        intro hc
        obtain ⟨q1, q2, q3⟩ := hcol c (by omega)
        have := d2 _ q1 q2
        rw [q3] at this
        have := ih (by omega)
        simp only [fitSum]
        omega
    exact key m (Nat.le_refl _)
  unfold wogglelaw02_TrackTables_t.f
  refine Ev.bind j2 (Ev.bind k2 (Ev.bind j3 (ev_pos rfl (ev_pos rfl (ev_pos rfl (ev_neg (by show ¬ LV t J > LV more K; omega) (Ev.bind livesG_ev ?_)))))))
  refine Ev.step (f := fun k => wogglelaw02_TrackTables_t.l0 k n m t (LV t J) J 0 0) (fun k => by simp only [wogglelaw02_TrackTables_t.j0]; rw [if_neg (by decide)]) ?_
  have hlv : LV t J = fitSum J t m := by unfold LV; rw [wT]; exact lv_sum J t (by omega) m (by omega)
  have fitn : ∀ c, 0 ≤ fitN J (col t c) ∧ fitN J (col t c) ≤ 8 := fun c => by
    have := fit_few J (col t c) J.length (by omega)
    unfold fitN; omega
  have hsmall : ∀ c : Nat, fitSum J t c ≤ c * 8 := by
    intro c
    induction c with
    | zero => exact Int.le_refl _
    | succ c ihc =>
      have := fitn c
      simp only [fitSum]
      omega
  have key := up_ind (fun c => ∀ s : Int, 0 ≤ s → s ≤ fitSum J t c → Ev (fun k => wogglelaw02_TrackTables_t.l0 k n m t (LV t J) J s (c : Int)) true) m ?_ ?_
  · exact key 0 (Int.le_refl _) (Int.le_refl _)
  · intro s hs0 hs
    have tr := tree_ev n J (by omega)
    rw [@decide_eq_true _ (_) hJ] at tr
    have rf := rows_f t
    rw [@decide_eq_true _ (_) okT] at rf
    have hL : Ev (fun k => track_Length.f k n J t) (LV t J, 0) := by
      unfold track_Length.f
      rw [rf]
      refine Ev.bind tr (ev_pos rfl ?_)
      refine Ev.congr (f := fun k => (track_length.f k J t).bind fun v => some (v, 0)) (fun k => ?_) (Ev.bind (length_ev hJ okT hTt.1) (Ev.now _))
      simp only [Option.bind_some, if_true]
      rw [if_pos (by have := hTt.1; omega)]
    refine Ev.step (f := fun k => (track_Length.f k n J t).bind fun bt => (if s ≤ LV t J then (if bt.1 = LV t J then (some (bt.2 == 0)) else (some false)) else (some false))) (fun k => by simp only [wogglelaw02_TrackTables_t.l0]; rw [if_neg (Int.lt_irrefl _)]) (Ev.bind hL (ev_pos (by omega) (ev_pos rfl (Ev.now _))))
  · intro c hc ih s hs0 hs
    have hct := colT_tab hTt c hc
    obtain ⟨okC, wC⟩ := tab_ok hct.1 h2 (by omega) (Nat.le_refl _) (by omega) (by omega)
    obtain ⟨C, c1, c2, c4⟩ := Best_least (colT t c n) okC
    rw [hct.1.1] at c1 c4
    have hC := ends_ok n h2 (by omega) (n - 1) [] _ C (roots_all n) (by simp; omega) c1
    have hone : ∀ X : List S67, X.length ≤ 8 → LV (colT t c n) X = fitN X (col t c) := fun X hX => by
      unfold LV
      rw [wC, lv_sum X _ (by omega) 1 (by omega)]
      show 0 + fitN X (col (colT t c n) 0) = _
      rw [hct.2, Int.zero_add]
    have hle1 := c4 J j1
    rw [hone J hJl, hone C (by have := hC.2.2.1; omega)] at hle1
    have hC0 : 0 ≤ fitN C (col t c) := (fit_few C (col t c) C.length (by have := hC.2.2.1; omega)).1
    rw [hone C (by have := hC.2.2.1; omega)] at c2
    have hsum : fitSum J t (c + 1) = fitSum J t c + fitN J (col t c) := rfl
    have hf := fitn c
    have hsm := hsmall c
    have inner := up_ind (fun i => Ev (fun k => wogglelaw02_TrackTables_t.l1 k n m t (LV t J) J s (c : Int) (colT t c i) (i : Int)) true) n ?_ ?_
    · refine Ev.step (f := fun k => wogglelaw02_TrackTables_t.l1 k n m t (LV t J) J s (c : Int) (colT t c 0) ((0 : Nat) : Int)) (fun k => ?_) inner
      simp only [wogglelaw02_TrackTables_t.l0]
      rw [if_pos (by omega)]
      rfl
    · have W := Aside0.mk (show wrap64 (s + fitN C (col t c)) = s + fitN C (col t c) from w64 _ (by omega) (by omega))
      refine Ev.step (f := fun k => (track_Best.f k (colT t c n)).bind fun bt => if bt.2 = 0 then wogglelaw02_TrackTables_t.l0 k n m t (LV t J) J (wrap64 (s + bt.1)) ((c + 1 : Nat) : Int) else some false) (fun k => ?_) ?_
      · simp only [wogglelaw02_TrackTables_t.l1]
        rw [if_neg (Int.lt_irrefl _), succ_w c (by omega)]
      · refine Ev.bind c2 (ev_pos rfl ?_)
        show Ev (fun k => wogglelaw02_TrackTables_t.l0 k n m t (LV t J) J (wrap64 (s + fitN C (col t c))) ((c + 1 : Nat) : Int)) true
        rw [W.out]
        exact ih _ (by omega) (by omega)
    · intro i hi ihi
      have p1 : (i : Int) < (t.length : Int) := by have := hTt.1; omega
      have hrow : rd_L3 t i = t[i]'(by omega) := rd_L3_nat t i (by omega)
      have hrl : (rd_L3 t i).length = m := by rw [hrow]; exact (hTt.2 _ (List.getElem_mem _)).1
      have hcl : (colT t c i).length = i := by simp [colT]
      have hup : colT t c (i + 1) = colT t c i ++ [[rd (rd_L3 t i) c]] := by unfold colT; rw [range_succ_map]
      refine Ev.step (fun k => ?_) ihi
      simp only [wogglelaw02_TrackTables_t.l1]
      rw [if_pos (show (i : Int) < n by omega), if_pos (show 0 ≤ (i : Int) by omega), if_pos p1, if_pos (show 0 ≤ (c : Int) by omega), if_pos (show (c : Int) < ((rd_L3 t i).length : Int) by omega), if_pos (by omega), succ_w i (by omega), hup]
theorem Tables_row (W : World) (a0 : Int) (h0 : (Lit.int .u8 a0).wf = true) (a1 : Int) (h1 : (Lit.int .u8 a1).wf = true) (A : Option Addr) (c : Nat) (x : List Int) (hx : Kd.C (Kd.int .u8) W A x.length x) (hc : x.length ≤ c) (hg : x.length ≤ maxLen ∧ ∀ y ∈ x, (Lit.int .u8 y).wf = true) :
    Calls Try.prog 16 #[.int .u8 a0, .int .u8 a1, .slice A x.length c] W fun e w' => e = .returned (.bool true) ∧ Below W.heap.size W w' := by
  obtain ⟨k, h⟩ := TrackTables_all a0 a1 x h0 h1 hg.1 hg.2
  exact wogglelaw02_TrackTables.calls k a0 a1 A c x true W hx hc h rfl
end Go.Proofs.Ytcphmeeighhdjaa.Pure
