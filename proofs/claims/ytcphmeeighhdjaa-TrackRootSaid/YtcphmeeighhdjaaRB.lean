/- Plain facts: the trees, states and unit costs that the statements derive from arbitrary numbers are valid. -/
import Derived.Test.YtcphmeeighhdjaaPF35
import Derived.Test.YtcphmeeighhdjaaPF36
import Derived.Test.YtcphmeeighhdjaaPF37
import Derived.Test.YtcphmeeighhdjaaRC
namespace Go.Proofs.Ytcphmeeighhdjaa.Pure
open Go Go.Proofs Go.RowKit Go.Proofs.Ytcphmeeighhdjaa.P Go.Proofs.YtcphmeeighhdjaaW.PrintWords Go.Proofs.YtcphmeeighhdjaaW.PrintLast
set_option linter.unusedVariables false

theorem u8_le {x : Int} (h : (Lit.int .u8 x).wf = true) : 0 ≤ x ∧ x ≤ 255 := by
  unfold Lit.wf at h
  rw [Bool.and_eq_true, decide_eq_true_eq, decide_eq_true_eq] at h
  have e1 : IntKind.min .u8 = 0 := rfl
  have e2 : IntKind.max .u8 = 255 := rfl
  rw [e1, e2] at h
  exact h
theorem roots_ev (n : Nat) (hn : n ≤ 1000) : Ev (fun k => woggleref02_Roots.f k n) ((List.range n).map (fun v : Nat => (v : Int))) := by
  unfold woggleref02_Roots.f
  have key := up_ind (fun i => Ev (fun k => woggleref02_Roots.l0 k n ((List.range i).map (fun v : Nat => (v : Int))) (i : Int)) ((List.range n).map (fun v : Nat => (v : Int)))) n ?_ ?_
  · exact key
  · exact Ev.step (f := fun _ => some ((List.range n).map (fun v : Nat => (v : Int)))) (fun k => by simp only [woggleref02_Roots.l0]; rw [if_neg (by omega)]) (Ev.now _)
  · intro i hi ih
    refine Ev.step (f := fun k => woggleref02_Roots.l0 k n ((List.range (i + 1)).map (fun v : Nat => (v : Int))) ((i + 1 : Nat) : Int)) (fun k => ?_) ih
    simp only [woggleref02_Roots.l0]
    rw [if_pos (by omega), if_pos (by simp; omega), succ_w i (by omega), range_succ_map]
/-- Unit costs. -/
def unitRow (k a m : Nat) : List Int := (List.range m).map (fun b => if a = b then 0 else 1)
def unitL (k m : Nat) : List (List Int) := (List.range m).map (fun a => unitRow k a k)
theorem unit_ev (n : Nat) (hn : n ≤ 1000) : Ev (fun k => woggleref02_Unit.f k n) (unitL n n) := by
  unfold woggleref02_Unit.f
  have key := up_ind (fun i => Ev (fun k => woggleref02_Unit.l0 k n (unitL n i) (i : Int)) (unitL n n)) n ?_ ?_
  · exact key
  · exact Ev.step (f := fun _ => some (unitL n n)) (fun k => by simp only [woggleref02_Unit.l0]; rw [if_neg (by omega)]) (Ev.now _)
  · intro i hi ih
    have inner := up_ind (fun j => Ev (fun k => woggleref02_Unit.l1 k n (unitL n i) (i : Int) (unitRow n i j) (j : Int)) (unitL n n)) n ?_ ?_
    · exact Ev.step (f := fun k => woggleref02_Unit.l1 k n (unitL n i) (i : Int) (unitRow n i 0) ((0 : Nat) : Int)) (fun k => by simp only [woggleref02_Unit.l0]; rw [if_pos (by omega)]; rfl) inner
    · refine Ev.step (f := fun k => woggleref02_Unit.l0 k n (unitL n (i + 1)) ((i + 1 : Nat) : Int)) (fun k => ?_) ih
      simp only [woggleref02_Unit.l1]
      rw [if_neg (by omega), if_pos (by simp [unitL]; omega), succ_w i (by omega)]
      unfold unitL
      rw [range_succ_map]
    · intro j hj ihj
      refine Ev.step (f := fun k => woggleref02_Unit.l1 k n (unitL n i) (i : Int) (unitRow n i (j + 1)) ((j + 1 : Nat) : Int)) (fun k => ?_) ihj
      simp only [woggleref02_Unit.l1]
      have hl : (unitRow n i j).length < 17592186044416 := by simp [unitRow]; omega
      have hs : unitRow n i (j + 1) = unitRow n i j ++ [if i = j then 0 else 1] := by unfold unitRow; rw [range_succ_map]
      rw [if_pos (by omega), hs]
      by_cases e : i = j
      · rw [if_pos (by omega), if_pos hl, succ_w j (by omega), if_pos e]
      · rw [if_neg (by omega), if_pos hl, succ_w j (by omega), if_neg e]
theorem unit_costs (k : Nat) (h1 : 1 ≤ k) (h4 : k ≤ 4) : CostsOk (unitL k k) := by
  have hl : (unitL k k).length = k := by simp [unitL]
  unfold CostsOk
  rw [hl]
  refine ⟨fun row hr => ?_, h1, h4⟩
  unfold unitL at hr
  obtain ⟨a, _, rfl⟩ := List.mem_map.1 hr
  refine ⟨by simp [unitRow], fun c hc => ?_⟩
  unfold unitRow at hc
  obtain ⟨b, _, rfl⟩ := List.mem_map.1 hc
  split <;> omega
theorem unitL_length (k : Nat) : (unitL k k).length = k := by simp [unitL]
theorem unit_cOf (k a b : Nat) (ha : a < k) (hb : b < k) : cOf (unitL k k) a b = if a = b then 0 else 1 := by
  unfold cOf
  rw [rd_L3_nat _ a (by simp [unitL]; exact ha)]
  have e : (unitL k k)[a]'(by simp [unitL]; exact ha) = unitRow k a k := by simp [unitL]
  rw [e, rd_nat _ b (by simp [unitRow]; exact hb)]
  simp [unitRow]
/-- States below k. -/
theorem states_ev (n k : Nat) (x : List Int) (hx : x.length ≤ maxLen ∧ ∀ v ∈ x, (Lit.int .u8 v).wf = true) (hn : n ≤ 1000) (h1 : 1 ≤ k) (h4 : k ≤ 1000) :
    ∃ l, Ev (fun q => wogglelaw02_states.f q n k x) l ∧ StatesOk n k l := by
  unfold wogglelaw02_states.f
  have hxl := hx.1
  unfold maxLen at hxl
  have key := up_ind (fun i => ∀ l : List Int, (∀ s ∈ l, 0 ≤ s ∧ s < (k : Int)) → l.length = i → ∃ r, Ev (fun q => wogglelaw02_states.l0 q n k x l (i : Int)) r ∧ StatesOk n k r) n ?_ ?_
  · exact key [] (by simp) rfl
  · intro l hl hle
    exact ⟨l, Ev.step (f := fun _ => some l) (fun q => by simp only [wogglelaw02_states.l0]; rw [if_neg (by omega)]) (Ev.now _), hl, by omega⟩
  · intro i hi ih l hl hle
    by_cases c : i < x.length
    · have hv := hx.2 _ (List.getElem_mem c)
      have hv2 : 0 ≤ x[i] ∧ x[i] ≤ 255 := u8_le hv
      have hm : Int.tmod x[i] (k : Int) = x[i] % k := Int.tmod_eq_emod_of_nonneg hv2.1
      have hm0 := Int.emod_nonneg x[i] (show (k : Int) ≠ 0 by omega)
      have hm1 := Int.emod_lt_of_pos x[i] (show (0 : Int) < k by omega)
      obtain ⟨r, hr, hs⟩ := ih (l ++ [x[i] % k]) (by
        intro s hs
        rcases List.mem_append.1 hs with h | h
        · exact hl s h
        · rw [List.mem_singleton.1 h]; exact ⟨hm0, hm1⟩) (by simp [hle])
      refine ⟨r, Ev.step (fun q => ?_) hr, hs⟩
      simp only [wogglelaw02_states.l0]
      rw [if_pos (by omega), if_pos (by omega), if_pos (by omega), if_neg (by omega), if_pos (by omega), rd_nat x i c, w64 x[i] (by omega) (by omega), hm, succ_w i (by omega)]
    · obtain ⟨r, hr, hs⟩ := ih (l ++ [0]) (by
        intro s hs
        rcases List.mem_append.1 hs with h | h
        · exact hl s h
        · rw [List.mem_singleton.1 h]; omega) (by simp [hle])
      refine ⟨r, Ev.step (fun q => ?_) hr, hs⟩
      simp only [wogglelaw02_states.l0]
      rw [if_pos (by omega), if_neg (by omega), if_pos (by omega), succ_w i (by omega)]

/-! ## Trees out of arbitrary numbers -/
theorem rd_T67_old (l : List S67) (x : S67) (v : Nat) (h : v < l.length) : rd_T67 (l ++ [x]) v = rd_T67 l v := by
  unfold rd_T67
  rw [Int.toNat_natCast, List.getD_eq_getElem?_getD, List.getD_eq_getElem?_getD, List.getElem?_append_left h]
theorem rd_T67_new (l : List S67) (x : S67) (v : Nat) (h : v = l.length) : rd_T67 (l ++ [x]) v = x := by
  unfold rd_T67
  rw [Int.toNat_natCast, List.getD_eq_getElem?_getD, h]
  simp
theorem usedTo_old (J : List S67) (x : S67) (i : Nat) (h : i ≤ J.length) : usedTo (J ++ [x]) i = usedTo J i := by
  induction i with
  | zero => rfl
  | succ i ih => simp only [usedTo]; rw [ih (by omega), rd_T67_old J x i (by omega)]
theorem joinOk_old {n : Int} {J : List S67} {x : S67} {i : Nat} (hi : i < J.length) (h : JoinOk n J i) : JoinOk n (J ++ [x]) i := by
  unfold JoinOk at h ⊢
  rw [rd_T67_old J x i hi, usedTo_old J x i (by omega)]
  exact h
/-- Roots that are left. -/
structure RootsOk (n : Nat) (J : List S67) (R : List Int) : Prop where
  len : R.length + J.length = n
  nd : R.Nodup
  free : ∀ v ∈ R, 0 ≤ v ∧ v < n + J.length ∧ v ∉ usedTo J J.length
  joins : ∀ i, i < J.length → JoinOk n J i
/-- The roots without two of them. -/
def restTo (R : List Int) (a c : Nat) : Nat → List Int
  | 0 => []
  | i + 1 => if i = a ∨ i = c then restTo R a c i else restTo R a c i ++ [rd R i]
theorem restTo_mem (R : List Int) (a c i : Nat) (v : Int) (h : v ∈ restTo R a c i) : ∃ j, j < i ∧ j ≠ a ∧ j ≠ c ∧ v = rd R j := by
  induction i with
  | zero => simp [restTo] at h
  | succ i ih =>
    unfold restTo at h
    by_cases e : i = a ∨ i = c
    · rw [if_pos e] at h
      obtain ⟨j, h1, h2⟩ := ih h
      exact ⟨j, by omega, h2⟩
    · rw [if_neg e] at h
      rcases List.mem_append.1 h with h | h
      · obtain ⟨j, h1, h2⟩ := ih h
        exact ⟨j, by omega, h2⟩
      · exact ⟨i, by omega, by omega, by omega, List.mem_singleton.1 h⟩
theorem restTo_le (R : List Int) (a c i : Nat) : (restTo R a c i).length ≤ i := by
  induction i with
  | zero => simp [restTo]
  | succ i ih =>
    unfold restTo
    split
    · omega
    · rw [List.length_append, List.length_singleton]; omega
theorem restTo_length (R : List Int) (a c : Nat) (h : a < R.length) (h2 : c < R.length) (hne : a ≠ c) : (restTo R a c R.length).length + 2 = R.length := by
  have key : ∀ i, (restTo R a c i).length + (if a < i then 1 else 0) + (if c < i then 1 else 0) = i := by
    intro i
    induction i with
    | zero => simp [restTo]
    | succ i ih =>
      unfold restTo
      by_cases e1 : i = a
      · subst e1
        rw [if_pos (.inl rfl)]
        rw [if_neg (by omega)] at ih
        rw [if_pos (by omega)]
        by_cases e2 : c < i
        · rw [if_pos e2] at ih; rw [if_pos (by omega)]; omega
        · rw [if_neg e2] at ih; rw [if_neg (by omega)]; omega
      · by_cases e2 : i = c
        · subst e2
          rw [if_pos (.inr rfl)]
          rw [if_neg (show ¬ i < i by omega)] at ih
          rw [if_pos (show i < i + 1 by omega)]
          by_cases e3 : a < i
          · rw [if_pos e3] at ih; rw [if_pos (by omega)]; omega
          · rw [if_neg e3] at ih; rw [if_neg (by omega)]; omega
        · rw [if_neg (by omega)]
          simp only [List.length_append, List.length_singleton]
          by_cases e3 : a < i <;> by_cases e4 : c < i
          · rw [if_pos e3, if_pos e4] at ih; rw [if_pos (by omega), if_pos (by omega)]; omega
          · rw [if_pos e3, if_neg e4] at ih; rw [if_pos (by omega), if_neg (by omega)]; omega
          · rw [if_neg e3, if_pos e4] at ih; rw [if_neg (by omega), if_pos (by omega)]; omega
          · rw [if_neg e3, if_neg e4] at ih; rw [if_neg (by omega), if_neg (by omega)]; omega
  have := key R.length
  rw [if_pos h, if_pos h2] at this
  omega
theorem rd_inj (R : List Int) (hR : R.Nodup) (i j : Nat) (hi : i < R.length) (hj : j < R.length) (h : rd R i = rd R j) : i = j := by
  rw [rd_nat R i hi, rd_nat R j hj] at h
  exact (List.getElem_inj hR).1 h
theorem restTo_nodup (R : List Int) (hR : R.Nodup) (a c i : Nat) (hi : i ≤ R.length) : (restTo R a c i).Nodup := by
  induction i with
  | zero => simp [restTo]
  | succ i ih =>
    unfold restTo
    split
    · exact ih (by omega)
    · rw [List.nodup_append]
      refine ⟨ih (by omega), by simp, fun x hx y hy => ?_⟩
      rw [List.mem_singleton] at hy
      obtain ⟨j, h1, _, _, rfl⟩ := restTo_mem R a c i x hx
      rw [hy]
      exact fun e => by have := rd_inj R hR j i (by omega) (by omega) e; omega
theorem roots_step (n : Nat) (J : List S67) (R : List Int) (h : RootsOk n J R) (a c : Nat) (ha : a < R.length) (hc : c < R.length) (hne : a ≠ c) :
    RootsOk n (J ++ [(⟨rd R a, rd R c⟩ : S67)]) (restTo R a c R.length ++ [((n + J.length : Nat) : Int)]) := by
  have hfa := h.free (rd R a) (by rw [rd_nat R a ha]; exact List.getElem_mem ha)
  have hfc := h.free (rd R c) (by rw [rd_nat R c hc]; exact List.getElem_mem hc)
  have hac : rd R c ≠ rd R a := fun e => hne (rd_inj R h.nd c a hc ha e).symm
  have hu : usedTo (J ++ [(⟨rd R a, rd R c⟩ : S67)]) (J ++ [(⟨rd R a, rd R c⟩ : S67)]).length = usedTo J J.length ++ [rd R a] ++ [rd R c] := by
    rw [List.length_append, List.length_singleton]
    simp only [usedTo]
    rw [usedTo_old J _ _ (Nat.le_refl _), rd_T67_new J _ _ rfl]
  have used_lt : ∀ m, m ≤ J.length → ∀ x ∈ usedTo J m, x < n + m := by
    intro m
    induction m with
    | zero => intro _ x hx; simp [usedTo] at hx
    | succ m ihm =>
      intro hm' x hx
      obtain ⟨⟨p0, p1, p2⟩, q0, q1, q2⟩ := h.joins m (by omega)
      simp only [usedTo, List.mem_append, List.mem_singleton] at hx
      rcases hx with (hx | hx) | hx
      · have := ihm (by omega) x hx; omega
      · omega
      · omega
  refine ⟨?_, ?_, ?_, ?_⟩
  · have := restTo_length R a c ha hc hne
    have := h.len
    simp only [List.length_append, List.length_singleton]
    omega
  · rw [List.nodup_append]
    refine ⟨restTo_nodup R h.nd a c _ (Nat.le_refl _), by simp, fun x hx y hy => ?_⟩
    rw [List.mem_singleton] at hy
    obtain ⟨j, h1, _, _, rfl⟩ := restTo_mem R a c _ x hx
    have := (h.free (rd R j) (by rw [rd_nat R j h1]; exact List.getElem_mem h1)).2.1
    omega
  · intro v hv
    rw [hu]
    simp only [List.length_append, List.length_singleton, List.mem_append, List.mem_singleton, not_or]
    rcases List.mem_append.1 hv with hv | hv
    · obtain ⟨j, h1, h2, h3, rfl⟩ := restTo_mem R a c _ v hv
      obtain ⟨f1, f2, f3⟩ := h.free (rd R j) (by rw [rd_nat R j h1]; exact List.getElem_mem h1)
      exact ⟨f1, by omega, ⟨f3, fun e => h2 (rd_inj R h.nd j a h1 ha e)⟩, fun e => h3 (rd_inj R h.nd j c h1 hc e)⟩
    · rw [List.mem_singleton] at hv
      refine ⟨by omega, by omega, ⟨fun hx => ?_, by omega⟩, by omega⟩
      have := used_lt _ (Nat.le_refl _) _ hx
      omega
  · intro i hi
    simp only [List.length_append, List.length_singleton] at hi
    by_cases e : i < J.length
    · exact joinOk_old e (h.joins i e)
    · obtain rfl : i = J.length := by omega
      unfold JoinOk
      rw [rd_T67_new J _ _ rfl, usedTo_old J _ _ (Nat.le_refl _)]
      refine ⟨⟨hfa.1, hfa.2.1, hfa.2.2⟩, hfc.1, hfc.2.1, ?_⟩
      simp only [List.mem_append, List.mem_singleton, not_or]
      exact ⟨hfc.2.2, hac⟩
theorem made_l1 (x : List Int) (n : Nat) (R : List Int) (J : List S67) (x9 : Int) (a c : Nat) (r : Int × List S67) (hR : R.length ≤ 100)
    (h : Ev (fun k => wogglelaw02_made.l0 k x (n : Int) (restTo R a c R.length ++ [wrap64 (wrap64 ((n : Int) + (J.length : Int)) - 1)]) J (wrap64 (x9 + 1))) r) :
    Ev (fun k => wogglelaw02_made.l1 k x (n : Int) R J x9 (a : Int) (c : Int) [] 0) r := by
  have key := up_ind (fun i => Ev (fun k => wogglelaw02_made.l1 k x (n : Int) R J x9 (a : Int) (c : Int) (restTo R a c i) (i : Int)) r) R.length ?_ ?_
  · exact key
  · refine Ev.step (fun k => ?_) h
    simp only [wogglelaw02_made.l1]
    rw [if_neg (by omega), if_pos (by have := restTo_le R a c R.length; omega)]
  · intro i hi ih
    by_cases e1 : i = a
    · subst e1
      refine Ev.step (fun k => ?_) ih
      simp only [wogglelaw02_made.l1]
      rw [if_pos (by omega), if_pos trivial, succ_w i (by omega)]
      simp only [restTo]
      rw [if_pos (.inl trivial)]
    · by_cases e2 : i = c
      · subst e2
        refine Ev.step (fun k => ?_) ih
        simp only [wogglelaw02_made.l1]
        rw [if_pos (by omega), if_neg (by omega), if_pos trivial, succ_w i (by omega)]
        simp only [restTo]
        rw [if_pos (.inr trivial)]
      · refine Ev.step (fun k => ?_) ih
        simp only [wogglelaw02_made.l1]
        rw [if_pos (by omega), if_neg (by omega), if_neg (by omega), if_pos (by omega), if_pos (by have := restTo_le R a c i; omega), succ_w i (by omega)]
        simp only [restTo]
        rw [if_neg (show ¬ (i = a ∨ i = c) by omega)]
theorem made_rounds : ∀ len ∈ List.range 9, 2 ≤ len → ∀ m ∈ List.range 256, m % len < len ∧ (m % len + 1 + m / 8 % (len - 1)) % len < len ∧ m % len ≠ (m % len + 1 + m / 8 % (len - 1)) % len ∧ Int.tmod (m : Int) (len : Int) = ((m % len : Nat) : Int) ∧
    Int.tmod (wrap64 ((wrap64 ((Int.tmod (m : Int) (len : Int)) + 1)) + (Int.tmod (wrap64 (Int.tdiv (m : Int) 8)) (wrap64 ((len : Int) - 1))))) (len : Int) = (((m % len + 1 + m / 8 % (len - 1)) % len : Nat) : Int) := by decide +kernel
theorem made_round (m len : Nat) (h2 : 2 ≤ len) (h8 : len ≤ 8) (hm : m ≤ 255) : ∃ a c : Nat, a < len ∧ c < len ∧ a ≠ c ∧ Int.tmod (m : Int) (len : Int) = (a : Int) ∧
    Int.tmod (wrap64 ((wrap64 ((Int.tmod (m : Int) (len : Int)) + 1)) + (Int.tmod (wrap64 (Int.tdiv (m : Int) 8)) (wrap64 ((len : Int) - 1))))) (len : Int) = (c : Int) :=
  ⟨_, _, made_rounds len (List.mem_range.2 (Nat.lt_succ_of_le h8)) h2 m (List.mem_range.2 (Nat.lt_succ_of_le hm))⟩
theorem made_j1 (k : Nat) (x : List Int) (n : Nat) (R : List Int) (J : List S67) (i m a c : Nat) (h2 : 2 ≤ R.length) (h8 : R.length ≤ 8) (la : a < R.length) (lc : c < R.length) (e1 : Int.tmod (m : Int) (R.length : Int) = (a : Int))
    (e7 : Int.tmod (wrap64 ((wrap64 ((Int.tmod (m : Int) (R.length : Int)) + 1)) + (Int.tmod (wrap64 (Int.tdiv (m : Int) 8)) (wrap64 ((R.length : Int) - 1))))) (R.length : Int) = (c : Int)) (hJ : J.length < 100) :
    wogglelaw02_made.j1 (k + 1) x (n : Int) R J (i : Int) (m : Int) = wogglelaw02_made.l1 k x (n : Int) R (J ++ [(⟨rd R a, rd R c⟩ : S67)]) (i : Int) (a : Int) (c : Int) [] 0 := by
  have h0 : ¬ (R.length : Int) = 0 := by omega
  have h1 : ¬ wrap64 ((R.length : Int) - 1) = 0 := by rw [w64 _ (by omega) (by omega)]; omega
  have p1 : (0 : Int) ≤ a := by omega
  have p2 : (a : Int) < R.length := by omega
  have p3 : (0 : Int) ≤ c := by omega
  have p4 : (c : Int) < R.length := by omega
  have p5 : J.length < 8796093022208 := by omega
  rw [e1] at e7
  simp only [wogglelaw02_made.j1, h0, h1, e7, e1, p1, p2, p3, p4, p5, if_true, if_false]
theorem made_l0 (x : List Int) (hx : x.length ≤ maxLen ∧ ∀ v ∈ x, (Lit.int .u8 v).wf = true) (n : Nat) (hn : 2 ≤ n) (hn8 : n ≤ 8) (d : Nat) : ∀ (R : List Int) (J : List S67) (i : Nat), RootsOk n J R → R.length = d + 1 → i ≤ J.length →
    ∃ J', Ev (fun k => wogglelaw02_made.l0 k x (n : Int) R J (i : Int)) ((n : Int), J') ∧ TreeOk n J' := by
  have hxl := hx.1
  unfold maxLen at hxl
  induction d with
  | zero =>
    intro R J i h hd hi
    refine ⟨J, Ev.step (f := fun _ => some ((n : Int), J)) (fun k => by simp only [wogglelaw02_made.l0]; rw [if_neg (by omega)]) (Ev.now _), by omega, by omega, by have := h.len; omega, h.joins⟩
  | succ d ih =>
    intro R J i h hd hi
    have hlen := h.len
    -- what is read
    have one : ∀ v : Int, 0 ≤ v → v ≤ 255 → ∃ J', Ev (fun k => wogglelaw02_made.j1 k x (n : Int) R J (i : Int) v) ((n : Int), J') ∧ TreeOk n J' := by
      intro v v0 v1
      obtain ⟨m, rfl⟩ : ∃ m : Nat, v = m := ⟨v.toNat, by omega⟩
      obtain ⟨a, c, la, lc, hne, e1, e7⟩ := made_round m R.length (by omega) (by omega) (by omega)
      have E := Aside0.mk (And.intro e1 e7)
      clear e1 e7
      have hs := roots_step n J R h a c la lc hne
      have e8 : wrap64 (wrap64 ((n : Int) + ((J ++ [(⟨rd R a, rd R c⟩ : S67)]).length : Int)) - 1) = ((n + J.length : Nat) : Int) := by
        have q3a : (n : Int) + ((J.length : Int) + 1) - 1 = ((n + J.length : Nat) : Int) := by omega
        have q4 : -4611686018427387904 ≤ (n : Int) + ((J.length : Int) + 1) ∧ (n : Int) + ((J.length : Int) + 1) ≤ 4611686018427387904 := by omega
        have q5 : -4611686018427387904 ≤ ((n + J.length : Nat) : Int) ∧ ((n + J.length : Nat) : Int) ≤ 4611686018427387904 := by omega
        have q1 : ((J ++ [(⟨rd R a, rd R c⟩ : S67)]).length : Int) = (J.length : Int) + 1 := by rw [List.length_append, List.length_singleton]; rfl
        rw [q1, w64 _ q4.1 q4.2, q3a, w64 _ q5.1 q5.2]
      have E8 := Aside0.mk e8
      clear e8
      have hl1 : (restTo R a c R.length ++ [((n + J.length : Nat) : Int)]).length = d + 1 := by have := restTo_length R a c la lc hne; rw [List.length_append, List.length_singleton]; omega
      have hl2 : i + 1 ≤ (J ++ [(⟨rd R a, rd R c⟩ : S67)]).length := by rw [List.length_append, List.length_singleton]; omega
      obtain ⟨J', hJ', ht⟩ := ih _ _ (i + 1) hs hl1 hl2
      refine ⟨J', ?_, ht⟩
      refine Ev.step (f := fun k => wogglelaw02_made.l1 k x (n : Int) R (J ++ [(⟨rd R a, rd R c⟩ : S67)]) (i : Int) (a : Int) (c : Int) [] 0) (fun k => ?_) (made_l1 x n R _ (i : Int) a c _ (by omega) ?_)
      · exact made_j1 k x n R J i m a c (by omega) (by omega) la lc E.out.1 E.out.2 (by omega)
      · rw [E8.out, succ_w i (by omega)]
        exact hJ'
    by_cases c : i < x.length
    · have hv := hx.2 _ (List.getElem_mem c)
      have hv2 : 0 ≤ x[i] ∧ x[i] ≤ 255 := u8_le hv
      obtain ⟨J', hJ', ht⟩ := one x[i] hv2.1 hv2.2
      refine ⟨J', Ev.step (fun k => ?_) hJ', ht⟩
      simp only [wogglelaw02_made.l0]
      rw [if_pos (by omega), if_pos (by omega), if_pos (by omega), rd_nat x i c, w64 x[i] (by omega) (by omega)]
    · obtain ⟨J', hJ', ht⟩ := one 0 (by omega) (by omega)
      refine ⟨J', Ev.step (fun k => ?_) hJ', ht⟩
      simp only [wogglelaw02_made.l0]
      rw [if_pos (by omega), if_neg (by omega)]
/-- A tree out of arbitrary numbers. -/
theorem made_ev (a : Int) (ha : (Lit.int .u8 a).wf = true) (x : List Int) (hx : x.length ≤ maxLen ∧ ∀ v ∈ x, (Lit.int .u8 v).wf = true) :
    ∃ (n : Nat) (J : List S67), Ev (fun k => wogglelaw02_made.f k a x) ((n : Int), J) ∧ TreeOk n J := by
  have hv2 : 0 ≤ a ∧ a ≤ 255 := u8_le ha
  obtain ⟨m, rfl⟩ : ∃ m : Nat, a = m := ⟨a.toNat, by omega⟩
  have e : wrap64 (Int.tmod (wrap64 (m : Int)) 7 + 2) = ((m % 7 + 2 : Nat) : Int) := by
    rw [w64 (m : Int) (by omega) (by omega), Int.tmod_eq_emod_of_nonneg (by omega), w64 _ (by omega) (by omega)]; omega
  unfold wogglelaw02_made.f
  rw [e]
  generalize hq : m % 7 + 2 = q at *
  have hq2 : 2 ≤ q ∧ q ≤ 8 := by omega
  have h0 : RootsOk q [] ((List.range q).map (fun v : Nat => (v : Int))) := by
    refine ⟨by simp, ?_, ?_, fun i hi => absurd hi (by simp)⟩
    · refine List.pairwise_map.2 (List.Pairwise.imp (fun h => ?_) (List.nodup_range (n := q)))
      omega
    · intro v hv
      obtain ⟨u, hu, rfl⟩ := List.mem_map.1 hv
      have := List.mem_range.1 hu
      exact ⟨by omega, by simp; omega, by simp [usedTo]⟩
  obtain ⟨J', hJ', ht⟩ := made_l0 x hx q hq2.1 hq2.2 (q - 1) ((List.range q).map (fun v : Nat => (v : Int))) [] 0 h0 (by simp; omega) (Nat.le_refl _)
  exact ⟨_, J', Ev.bind (roots_ev q (by omega)) hJ', ht⟩
/-- The number of states. -/
theorem k_of (a : Int) (ha : (Lit.int .u8 a).wf = true) : ∃ k : Nat, wrap64 (Int.tmod (wrap64 a) 4 + 1) = (k : Int) ∧ 1 ≤ k ∧ k ≤ 4 := by
  have hv2 : 0 ≤ a ∧ a ≤ 255 := u8_le ha
  obtain ⟨m, rfl⟩ : ∃ m : Nat, a = m := ⟨a.toNat, by omega⟩
  refine ⟨m % 4 + 1, ?_, by omega, by omega⟩
  rw [w64 (m : Int) (by omega) (by omega), Int.tmod_eq_emod_of_nonneg (by omega), w64 _ (by omega) (by omega)]; omega
end Go.Proofs.Ytcphmeeighhdjaa.Pure
