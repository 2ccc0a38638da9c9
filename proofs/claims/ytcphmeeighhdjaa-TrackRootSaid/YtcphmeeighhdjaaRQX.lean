/- Plain facts: metric costs out of arbitrary numbers: symmetric, 0 on the diagonal, and with the triangle inequality. -/
import Derived.Test.YtcphmeeighhdjaaRM
import Derived.Test.YtcphmeeighhdjaaPX39
import Derived.Test.YtcphmeeighhdjaaRB
namespace Go.Proofs.Ytcphmeeighhdjaa.PureX
open Go.Proofs.Ytcphmeeighhdjaa.Pure
open Go Go.Proofs Go.RowKit Go.Proofs.Ytcphmeeighhdjaa.P Go.Proofs.YtcphmeeighhdjaaW.PrintWords Go.Proofs.YtcphmeeighhdjaaW.PrintLast
set_option linter.unusedVariables false
theorem w_ixs : ∀ i ∈ List.range 5, ∀ k ∈ List.range 5, ∀ j ∈ List.range 5, wrap64 (wrap64 (((i : Nat) : Int) * ((k : Nat) : Int)) + ((j : Nat) : Int)) = ((i * k + j : Nat) : Int) := by decide +kernel
theorem w_ix (i k j : Nat) (hi : i ≤ 4) (hk : k ≤ 4) (hj : j ≤ 4) : wrap64 (wrap64 ((i : Int) * (k : Int)) + (j : Int)) = ((i * k + j : Nat) : Int) :=
  w_ixs i (List.mem_range.2 (by omega)) k (List.mem_range.2 (by omega)) j (List.mem_range.2 (by omega))
def RowsOk (k : Nat) (C : List (List Int)) : Prop := ∀ row ∈ C, row.length = k ∧ ∀ c ∈ row, 0 ≤ c ∧ c ≤ 100
/-- A matrix of k rows. -/
def Mat (k : Nat) (C : List (List Int)) : Prop := C.length = k ∧ RowsOk k C
theorem rows_ev (k : Nat) (h1 : 1 ≤ k) (h4 : k ≤ 4) (x : List Int) (hx : x.length ≤ maxLen ∧ ∀ v ∈ x, (Lit.int .u8 v).wf = true) (b : Bool) (Post : List (List Int) → Prop)
    (cont : ∀ C, Mat k C → ∃ R, Ev (fun q => if b = true then wogglelaw02_costs.l2 q k C 0 else some C) R ∧ Post R) : ∃ R, Ev (fun q => wogglelaw02_costs.f q k x b) R ∧ Post R := by
  unfold wogglelaw02_costs.f
  have hm : maxLen = 9223372036854775807 := rfl
  have hxl := hx.1
  rw [hm] at hxl
  have key := up_ind (fun i => ∀ C', RowsOk k C' → C'.length = i → ∃ R, Ev (fun q => wogglelaw02_costs.l0 q k x b C' (i : Int)) R ∧ Post R) k ?_ ?_
  · exact key [] (fun row hr => by simp at hr) rfl
  · intro C' hC hl
    obtain ⟨R, hE, hP⟩ := cont C' ⟨hl, hC⟩
    refine ⟨R, Ev.step (fun q => ?_) hE, hP⟩
    simp only [wogglelaw02_costs.l0]
    rw [if_neg (Int.lt_irrefl _)]
  · intro i hi ih C' hC hl
    have p1 : (i : Int) < k := by omega
    have inner := up_ind (fun j => ∀ row : List Int, (∀ c ∈ row, 0 ≤ c ∧ c ≤ 100) → row.length = j → ∃ R, Ev (fun q => wogglelaw02_costs.l1 q k x b C' (i : Int) row (j : Int)) R ∧ Post R) k ?_ ?_
    · obtain ⟨R, hE, hP⟩ := inner [] (fun c hc => by simp at hc) rfl
      exact ⟨R, Ev.step (f := fun q => wogglelaw02_costs.l1 q k x b C' (i : Int) [] ((0 : Nat) : Int)) (fun q => by simp only [wogglelaw02_costs.l0]; rw [if_pos p1]; rfl) hE, hP⟩
    · intro row hrow hrl
      obtain ⟨R, hE, hP⟩ := ih (C' ++ [row]) (by
        intro r hr
        rcases List.mem_append.1 hr with h | h
        · exact hC r h
        · rw [List.mem_singleton.1 h]; exact ⟨hrl, hrow⟩) (by rw [List.length_append, List.length_singleton]; omega)
      refine ⟨R, Ev.step (fun q => ?_) hE, hP⟩
      simp only [wogglelaw02_costs.l1]
      rw [if_neg (Int.lt_irrefl _), if_pos (show C'.length < 5864062014805 by omega), succ_w i (by omega)]
    · intro j hj ihj row hrow hrl
      have q1 : (j : Int) < k := by omega
      have W := Aside0.mk (w_ix i k j (by omega) h4 (by omega))
      have q2 : (0 : Int) ≤ ((i * k + j : Nat) : Int) := by omega
      have q3 : row.length < 17592186044416 := by omega
      have app : ∀ v : Int, 0 ≤ v → v ≤ 100 → ∀ c ∈ row ++ [v], 0 ≤ c ∧ c ≤ 100 := by
        intro v v0 v1 c hc
        rcases List.mem_append.1 hc with h | h
        · exact hrow c h
        · rw [List.mem_singleton.1 h]; exact ⟨v0, v1⟩
      generalize i * k + j = ix at *
      by_cases c : ix < x.length
      · have hv := u8_le (hx.2 _ (List.getElem_mem c))
        have e1 : Int.tmod (wrap64 x[ix]) 101 = x[ix] % 101 := by rw [w64 x[ix] (by omega) (by omega), Int.tmod_eq_emod_of_nonneg hv.1]
        have E1 := Aside0.mk e1
        clear e1
        have e2 := Int.emod_nonneg x[ix] (show (101 : Int) ≠ 0 by decide)
        have e3 := Int.emod_lt_of_pos x[ix] (show (0 : Int) < 101 by decide)
        obtain ⟨R, hE, hP⟩ := ihj (row ++ [x[ix] % 101]) (app _ e2 (by omega)) (by rw [List.length_append, List.length_singleton]; omega)
        refine ⟨R, Ev.step (fun q => ?_) hE, hP⟩
        have q4 : ((ix : Nat) : Int) < x.length := by omega
        simp only [wogglelaw02_costs.l1]
        rw [if_pos q1, W.out, if_pos q4, if_pos q2, if_pos q3, rd_nat x ix c, E1.out, succ_w j (by omega)]
      · obtain ⟨R, hE, hP⟩ := ihj (row ++ [1]) (app 1 (by omega) (by omega)) (by rw [List.length_append, List.length_singleton]; omega)
        refine ⟨R, Ev.step (fun q => ?_) hE, hP⟩
        have q4 : ¬ ((ix : Nat) : Int) < x.length := by omega
        simp only [wogglelaw02_costs.l1]
        rw [if_pos q1, W.out, if_neg q4, if_pos q3, succ_w j (by omega)]
/-! ### a place of a matrix, put -/
theorem rd3_same (D : List (List Int)) (a : Nat) (row : List Int) (h : a < D.length) : rd_L3 (D.set a row) (a : Int) = row := by unfold rd_L3; simp [h]
theorem rd3_ne (D : List (List Int)) (a b : Nat) (row : List Int) (h : a ≠ b) : rd_L3 (D.set a row) (b : Int) = rd_L3 D b := by unfold rd_L3; simp [List.getD_eq_getElem?_getD, h]
theorem rd3_nat (D : List (List Int)) (a : Nat) (h : a < D.length) : rd_L3 D (a : Int) = D[a] := by unfold rd_L3; simp [h]
def put (D : List (List Int)) (x y : Nat) (v : Int) : List (List Int) := D.set x ((rd_L3 D (x : Int)).set y v)
section
variable {k : Nat} {D : List (List Int)}
theorem mat_row (h : Mat k D) {a : Nat} (ha : a < k) : (rd_L3 D (a : Int)).length = k ∧ ∀ c ∈ rd_L3 D (a : Int), 0 ≤ c ∧ c ≤ 100 := by
  rw [rd3_nat D a (by rw [h.1]; exact ha)]
  exact h.2 _ (List.getElem_mem _)
theorem mat_at (h : Mat k D) {a b : Nat} (ha : a < k) (hb : b < k) : 0 ≤ cOf D a b ∧ cOf D a b ≤ 100 := by
  have hr := mat_row h ha
  unfold cOf
  rw [rd_nat _ b (by rw [hr.1]; exact hb)]
  exact hr.2 _ (List.getElem_mem _)
theorem put_mat (h : Mat k D) {x y : Nat} (hx : x < k) {v : Int} (h0 : 0 ≤ v) (h1 : v ≤ 100) : Mat k (put D x y v) := by
  have hr := mat_row h hx
  refine ⟨by unfold put; rw [List.length_set]; exact h.1, fun row hm => ?_⟩
  unfold put at hm
  rcases List.mem_or_eq_of_mem_set hm with hm | rfl
  · exact h.2 row hm
  · refine ⟨by rw [List.length_set]; exact hr.1, fun c hc => ?_⟩
    rcases List.mem_or_eq_of_mem_set hc with hc | rfl
    · exact hr.2 c hc
    · exact ⟨h0, h1⟩
theorem put_at (h : Mat k D) {x y : Nat} (hx : x < k) (hy : y < k) (v : Int) (i j : Nat) : cOf (put D x y v) i j = if i = x ∧ j = y then v else cOf D i j := by
  have hr := mat_row h hx
  unfold cOf put
  by_cases e : i = x
  · subst e
    rw [rd3_same _ _ _ (by rw [h.1]; exact hx)]
    by_cases e2 : j = y
    · subst e2
      rw [if_pos ⟨rfl, rfl⟩, rd_set_same _ _ _ (by rw [hr.1]; exact hy)]
    · rw [if_neg (fun hh => e2 hh.2), rd_set_ne _ _ _ _ (fun hh => e2 hh.symm)]
  · rw [if_neg (fun hh => e hh.1), rd3_ne _ _ _ _ (fun hh => e hh.symm)]
end
/-! ### symmetric, and 0 on the diagonal -/
def symAt (M : Nat → Nat → Int) (a d i j : Nat) : Int := if i < j ∧ (j < a ∨ j = a ∧ i < d) then M j i else if i = j ∧ i < a then 0 else M i j
section
variable {k : Nat} (h4 : k ≤ 4) {res : List (List Int)}
include h4
theorem sym_l2 {M : Nat → Nat → Int} (Post : List (List Int) → Prop)
    (cont : ∀ D, Mat k D → (∀ i j, i < k → j < k → cOf D i j = symAt M k 0 i j) → ∃ R, Ev (fun q => wogglelaw02_costs.l4 q k D 0) R ∧ Post R) :
    ∀ D, Mat k D → (∀ i j, i < k → j < k → cOf D i j = symAt M 0 0 i j) → ∃ R, Ev (fun q => wogglelaw02_costs.l2 q k D 0) R ∧ Post R := by
  refine up_ind (fun a => ∀ D, Mat k D → (∀ i j, i < k → j < k → cOf D i j = symAt M a 0 i j) → ∃ R, Ev (fun q => wogglelaw02_costs.l2 q k D (a : Int)) R ∧ Post R) k ?_ ?_
  · intro D hD hM
    obtain ⟨R, hE, hP⟩ := cont D hD hM
    refine ⟨R, Ev.step (fun q => ?_) hE, hP⟩
    simp only [wogglelaw02_costs.l2]
    rw [if_neg (Int.lt_irrefl _)]
  · intro a ha ih D hD hM
    have inner := up_ind (fun d => ∀ D, Mat k D → (∀ i j, i < k → j < k → cOf D i j = symAt M a d i j) → ∃ R, Ev (fun q => wogglelaw02_costs.l3 q k D (a : Int) (d : Int)) R ∧ Post R) a ?_ ?_
    · obtain ⟨R, hE, hP⟩ := inner D hD hM
      refine ⟨R, Ev.step (f := fun q => wogglelaw02_costs.l3 q k D (a : Int) ((0 : Nat) : Int)) (fun q => ?_) hE, hP⟩
      simp only [wogglelaw02_costs.l2]
      rw [if_pos (by omega)]; rfl
    · intro D hD hM
      have hr := mat_row hD ha
      obtain ⟨R, hE, hP⟩ := ih (put D a a 0) (put_mat hD ha (by omega) (by omega)) (fun i j hi hj => by
        rw [put_at hD ha ha, hM i j hi hj]
        unfold symAt
        by_cases c : i = a ∧ j = a
        · rw [if_pos c, if_neg (by omega), if_pos (by omega)]
        · rw [if_neg c]
          by_cases c1 : i < j ∧ (j < a ∨ j = a ∧ i < a)
          · rw [if_pos c1, if_pos (by omega)]
          · rw [if_neg c1]
            by_cases c2 : i = j ∧ i < a
            · rw [if_pos c2, if_neg (by omega), if_pos (by omega)]
            · rw [if_neg c2, if_neg (by omega), if_neg (by omega)])
      refine ⟨R, Ev.step (fun q => ?_) hE, hP⟩
      simp only [wogglelaw02_costs.l3]
      rw [if_neg (Int.lt_irrefl _), if_pos (by omega), if_pos (by rw [hD.1]; omega), if_pos (by rw [hr.1]; omega), Int.toNat_natCast, succ_w a (by omega)]
      rfl
    · intro d hd ihd D hD hM
      have hr := mat_row hD ha
      have hr2 := mat_row hD (show d < k by omega)
      have hv := mat_at hD ha (show d < k by omega)
      have e : cOf D a d = M a d := by rw [hM a d ha (by omega)]; unfold symAt; rw [if_neg (by omega), if_neg (by omega)]
      obtain ⟨R, hE, hP⟩ := ihd (put D d a (cOf D a d)) (put_mat hD (by omega) hv.1 hv.2) (fun i j hi hj => by
        rw [put_at hD (by omega) ha, hM i j hi hj, e]
        unfold symAt
        by_cases c : i = d ∧ j = a
        · obtain ⟨c1, c2⟩ := c
          subst c1; subst c2
          rw [if_pos ⟨rfl, rfl⟩, if_pos (by omega)]
        · rw [if_neg c]
          by_cases c1 : i < j ∧ (j < a ∨ j = a ∧ i < d)
          · rw [if_pos c1, if_pos (by omega)]
          · rw [if_neg c1, if_neg (show ¬ (i < j ∧ (j < a ∨ j = a ∧ i < d + 1)) by omega)])
      refine ⟨R, Ev.step (fun q => ?_) hE, hP⟩
      simp only [wogglelaw02_costs.l3]
      rw [if_pos (by omega), if_pos (by omega), if_pos (by rw [hD.1]; omega), if_pos (by omega), if_pos (by rw [hD.1]; omega), if_pos (by rw [hr.1]; omega), if_pos (by rw [hr2.1]; omega), Int.toNat_natCast, Int.toNat_natCast, succ_w d (by omega)]
      rfl
end
/-! ### Floyd -/
def flo (M : Nat → Nat → Int) (m i j : Nat) : Int := mn (M i j) (M i m + M m j)
/-- What holds of a matrix once the first nodes were taken. -/
structure Fl (k m : Nat) (M : Nat → Nat → Int) : Prop where
  sy : ∀ p q, p < k → q < k → M p q = M q p
  dg : ∀ p, p < k → M p p = 0
  lo : ∀ p q, p < k → q < k → 0 ≤ M p q ∧ M p q ≤ 100
  tri : ∀ j p q, j < m → j < k → p < k → q < k → M p q ≤ M p j + M j q
theorem mn_or (a b : Int) : mn a b ≤ a ∧ mn a b ≤ b ∧ (mn a b = a ∨ mn a b = b) := by unfold mn; split <;> omega
theorem Fl.next {k m : Nat} {M : Nat → Nat → Int} (h : Fl k m M) (hm : m < k) : Fl k (m + 1) (flo M m) := by
  refine ⟨fun p q hp hq => ?_, fun p hp => ?_, fun p q hp hq => ?_, fun j p q hj hjk hp hq => ?_⟩
  · unfold flo
    rw [h.sy p q hp hq, h.sy p m hp hm, h.sy m q hm hq, Int.add_comm]
  · unfold flo
    have := h.dg p hp
    have := h.lo p m hp hm
    have := h.lo m p hm hp
    rw [h.dg p hp]
    unfold mn; split <;> omega
  · have a := mn_or (M p q) (M p m + M m q)
    have := h.lo p q hp hq
    have := h.lo p m hp hm
    have := h.lo m q hm hq
    unfold flo
    omega
  · have a := mn_or (M p q) (M p m + M m q)
    have b := mn_or (M p j) (M p m + M m j)
    have c := mn_or (M j q) (M j m + M m q)
    have l1 := h.lo m j hm hjk
    have l2 := h.lo j m hjk hm
    unfold flo
    by_cases e : j = m
    · subst e
      have d0 := h.dg j hm
      omega
    · have t1 := h.tri j p q (by omega) hjk hp hq
      have t2 := h.tri j p m (by omega) hjk hp hm
      have t3 := h.tri j m q (by omega) hjk hm hq
      omega
theorem Fl.of {k m : Nat} {M N : Nat → Nat → Int} (h : Fl k m M) (e : ∀ i j, i < k → j < k → N i j = M i j) : Fl k m N := by
  refine ⟨fun p q hp hq => ?_, fun p hp => ?_, fun p q hp hq => ?_, fun j p q hj hjk hp hq => ?_⟩
  · rw [e p q hp hq, e q p hq hp]; exact h.sy p q hp hq
  · rw [e p p hp hp]; exact h.dg p hp
  · rw [e p q hp hq]; exact h.lo p q hp hq
  · rw [e p q hp hq, e p j hp hjk, e j q hjk hq]; exact h.tri j p q hj hjk hp hq
def floAt (M : Nat → Nat → Int) (m a d i j : Nat) : Int := if i < a ∨ i = a ∧ j < d then flo M m i j else M i j
theorem flo_col {k m : Nat} {M : Nat → Nat → Int} (h : Fl k m M) (hm : m < k) (p : Nat) : flo M m p m = M p m := by
  unfold flo; rw [h.dg m hm]; unfold mn; split <;> omega
theorem flo_row {k m : Nat} {M : Nat → Nat → Int} (h : Fl k m M) (hm : m < k) (q : Nat) : flo M m m q = M m q := by
  unfold flo; rw [h.dg m hm]; unfold mn; split <;> omega
section
variable {k : Nat} (h4 : k ≤ 4)
include h4
theorem floyd_l4 (Post : List (List Int) → Prop) (fin : ∀ D, Mat k D → Fl k k (cOf D) → Post D) :
    ∀ D, Mat k D → Fl k 0 (cOf D) → ∃ R, Ev (fun q => wogglelaw02_costs.l4 q k D 0) R ∧ Post R := by
  refine up_ind (fun m => ∀ D, Mat k D → Fl k m (cOf D) → ∃ R, Ev (fun q => wogglelaw02_costs.l4 q k D (m : Int)) R ∧ Post R) k ?_ ?_
  · intro D hD hF
    refine ⟨D, Ev.step (fun q => ?_) (Ev.now D), fin D hD hF⟩
    simp only [wogglelaw02_costs.l4]
    rw [if_neg (Int.lt_irrefl _)]
  · intro m hm ih D0 hD0 hF
    obtain ⟨M, hM0⟩ : ∃ M, cOf D0 = M := ⟨_, rfl⟩
    rw [hM0] at hF
    have mid := up_ind (fun a => ∀ D, Mat k D → (∀ i j, i < k → j < k → cOf D i j = floAt M m a 0 i j) → ∃ R, Ev (fun q => wogglelaw02_costs.l5 q k D (m : Int) (a : Int)) R ∧ Post R) k ?_ ?_
    · obtain ⟨R, hE, hP⟩ := mid D0 hD0 (fun i j hi hj => by rw [hM0]; unfold floAt; rw [if_neg (by omega)])
      refine ⟨R, Ev.step (f := fun q => wogglelaw02_costs.l5 q k D0 (m : Int) ((0 : Nat) : Int)) (fun q => ?_) hE, hP⟩
      simp only [wogglelaw02_costs.l4]
      rw [if_pos (by omega)]; rfl
    · intro D hD hM
      obtain ⟨R, hE, hP⟩ := ih D hD ((hF.next hm).of fun i j hi hj => by rw [hM i j hi hj]; unfold floAt; rw [if_pos (by omega)])
      refine ⟨R, Ev.step (fun q => ?_) hE, hP⟩
      simp only [wogglelaw02_costs.l5]
      rw [if_neg (Int.lt_irrefl _), succ_w m (by omega)]
    · intro a ha iha D hD hM
      have inner := up_ind (fun d => ∀ D, Mat k D → (∀ i j, i < k → j < k → cOf D i j = floAt M m a d i j) → ∃ R, Ev (fun q => wogglelaw02_costs.l6 q k D (m : Int) (a : Int) (d : Int)) R ∧ Post R) k ?_ ?_
      · obtain ⟨R, hE, hP⟩ := inner D hD hM
        refine ⟨R, Ev.step (f := fun q => wogglelaw02_costs.l6 q k D (m : Int) (a : Int) ((0 : Nat) : Int)) (fun q => ?_) hE, hP⟩
        simp only [wogglelaw02_costs.l5]
        rw [if_pos (by omega)]; rfl
      · intro D hD hM
        obtain ⟨R, hE, hP⟩ := iha D hD (fun i j hi hj => by
          rw [hM i j hi hj]
          unfold floAt
          by_cases c : i < a ∨ i = a ∧ j < k
          · rw [if_pos c, if_pos (by omega)]
          · rw [if_neg c, if_neg (show ¬ (i < a + 1 ∨ i = a + 1 ∧ j < 0) by omega)])
        refine ⟨R, Ev.step (fun q => ?_) hE, hP⟩
        simp only [wogglelaw02_costs.l6]
        rw [if_neg (Int.lt_irrefl _), succ_w a (by omega)]
      · intro d hd ihd D hD hM
        have hr := mat_row hD ha
        have hr2 := mat_row hD hm
        have e0 : cOf D a d = M a d := by rw [hM a d ha hd]; unfold floAt; rw [if_neg (by omega)]
        have e1 : cOf D a m = M a m := by
          rw [hM a m ha hm]; unfold floAt
          split
          · exact flo_col hF hm a
          · rfl
        have e2 : cOf D m d = M m d := by
          rw [hM m d hm hd]; unfold floAt
          split
          · exact flo_row hF hm d
          · rfl
        have ev : mn (rd (rd_L3 D (a : Int)) (d : Int)) (wrap64 ((rd (rd_L3 D (a : Int)) (m : Int)) + (rd (rd_L3 D (m : Int)) (d : Int)))) = flo M m a d := by
          have l1 := hF.lo a m ha hm
          have l2 := hF.lo m d hm hd
          show mn (cOf D a d) (wrap64 (cOf D a m + cOf D m d)) = _
          rw [e0, e1, e2, w64 (M a m + M m d) (by omega) (by omega)]
          rfl
        have hl := (hF.next hm).lo a d ha hd
        obtain ⟨R, hE, hP⟩ := ihd (put D a d (flo M m a d)) (put_mat hD ha hl.1 hl.2) (fun i j hi hj => by
          rw [put_at hD ha hd, hM i j hi hj]
          unfold floAt
          by_cases c : i = a ∧ j = d
          · obtain ⟨c1, c2⟩ := c
            subst c1; subst c2
            rw [if_pos ⟨rfl, rfl⟩, if_pos (by omega)]
          · rw [if_neg c]
            by_cases c1 : i < a ∨ i = a ∧ j < d
            · rw [if_pos c1, if_pos (by omega)]
            · rw [if_neg c1, if_neg (show ¬ (i < a ∨ i = a ∧ j < d + 1) by omega)])
        refine ⟨R, Ev.step (fun q => ?_) hE, hP⟩
        simp only [wogglelaw02_costs.l6]
        rw [if_pos (by omega), if_pos (by omega), if_pos (by rw [hD.1]; omega), if_pos (by omega), if_pos (by rw [hr.1]; omega), if_pos (by omega), if_pos (by rw [hr.1]; omega), if_pos (by rw [hD.1]; omega), if_pos (by rw [hr2.1]; omega), Int.toNat_natCast, Int.toNat_natCast, ev, succ_w d (by omega)]
        rfl
end
theorem sym_fl {k : Nat} {M : Nat → Nat → Int} {D : List (List Int)} (hD : Mat k D) (h : ∀ i j, i < k → j < k → cOf D i j = symAt M k 0 i j) : Fl k 0 (cOf D) := by
  refine ⟨fun p q hp hq => ?_, fun p hp => ?_, fun p q hp hq => mat_at hD hp hq, fun j p q hj => by omega⟩
  · rw [h p q hp hq, h q p hq hp]
    unfold symAt
    by_cases c : p < q
    · rw [if_pos (by omega), if_neg (by omega), if_neg (by omega)]
    · by_cases c2 : q < p
      · rw [if_neg (by omega), if_neg (by omega), if_pos (by omega)]
      · have : p = q := by omega
        subst this; rfl
  · rw [h p p hp hp]
    unfold symAt
    rw [if_neg (by omega), if_pos (by omega)]
theorem costs_metric_ev (k : Nat) (h1 : 1 ≤ k) (h4 : k ≤ 4) (x : List Int) (hx : x.length ≤ maxLen ∧ ∀ v ∈ x, (Lit.int .u8 v).wf = true) :
    ∃ C, Ev (fun q => wogglelaw02_costs.f q k x true) C ∧ C.length = k ∧ CostsOk C ∧ Metric (cOf C) k := by
  obtain ⟨R, hE, hP⟩ := rows_ev k h1 h4 x hx true (fun R => Mat k R ∧ Fl k k (cOf R)) (fun C hC => by
    obtain ⟨R, hE, hP⟩ := sym_l2 h4 (M := cOf C) (fun R => Mat k R ∧ Fl k k (cOf R))
      (fun D hD hS => floyd_l4 h4 _ (fun D hD hF => ⟨hD, hF⟩) D hD (sym_fl hD hS)) C hC (fun i j hi hj => by unfold symAt; rw [if_neg (by omega), if_neg (by omega)])
    exact ⟨R, Ev.congr (fun q => by rw [if_pos rfl]) hE, hP⟩)
  refine ⟨R, hE, hP.1.1, ⟨fun row hr => ?_, by rw [hP.1.1]; omega, by rw [hP.1.1]; omega⟩, ⟨hP.2.sy, hP.2.dg, fun p q r hp hq hr => hP.2.tri q p r hq hq hp hr⟩⟩
  have := hP.1.2 row hr
  exact ⟨by rw [hP.1.1]; exact this.1, this.2⟩
end Go.Proofs.Ytcphmeeighhdjaa.PureX
