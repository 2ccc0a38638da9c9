/- For all trees, costs and lists, Label answers the first labeling of least cost, or the error: in plain numbers and lists. -/
import Derived.Test.YtcphmeeighhdjaaPF4
import Derived.Test.YtcphmeeighhdjaaRN
namespace Go.Proofs.Ytcphmeeighhdjaa.Pure
open Go Go.Proofs Go.RowKit Go.Proofs.Ytcphmeeighhdjaa.P Go.Proofs.YtcphmeeighhdjaaW.PrintWords Go.Proofs.YtcphmeeighhdjaaW.PrintLast
set_option linter.unusedVariables false

theorem livesL_ev : Ev (fun k => wogglelaw02_lives.f k) true := Ev.of wogglelaw02_lives.mono track_lives_at
section
variable {n : Nat} {J : List S67} {C : List (List Int)} {L : List Int}
/-- The odometer: the next labeling, or the end. -/
theorem odo (hK1 : 1 ≤ C.length) (hK4 : C.length ≤ 4) (X : List Int) (c : Int) (i : Nat) : ∀ (u : Nat) (Z : List Int), i ≤ 100 → u < C.length ^ (i + 1) →
    (u + 1 = C.length ^ (i + 1) → Ev (fun k => woggleref02_Label.l1 k n J C L X c (dig C.length (i + 1) u ++ Z) (i : Int)) X) ∧
    (u + 1 < C.length ^ (i + 1) → ∀ r, Ev (fun k => woggleref02_Label.l0 k n J C L X c (dig C.length (i + 1) (u + 1) ++ Z)) r → Ev (fun k => woggleref02_Label.l1 k n J C L X c (dig C.length (i + 1) u ++ Z) (i : Int)) r) := by
  have kw : wrap64 ((C.length : Int) - 1) = ((C.length - 1 : Nat) : Int) := (w64 _ (by omega) (by omega)).trans (by omega)
  induction i with
  | zero =>
    intro u Z _ hu
    rw [Nat.zero_add, Nat.pow_one] at hu
    have hmod : u % C.length = u := Nat.mod_eq_of_lt hu
    have hr := dig_last C.length 0 u Z
    have hset := dig_set C.length 0 u Z
    have q1 : ((0 : Nat) : Int) ≥ 0 := by omega
    have q2 : ((0 : Nat) : Int) < ((dig C.length 1 u ++ Z).length : Int) := by rw [List.length_append, dig_length]; omega
    have S := succ_div C.length u (by omega)
    rw [Nat.zero_add, Nat.pow_one]
    constructor
    · intro e
      have hd : ((u % C.length : Nat) : Int) = ((C.length - 1 : Nat) : Int) := by rw [hmod]; omega
      have pw : wrap64 (((0 : Nat) : Int) - 1) = -1 := (w64 _ (by omega) (by omega)).trans (by omega)
      refine Ev.step (f := fun k => woggleref02_Label.l1 k n J C L X c ((dig C.length 1 u ++ Z).set 0 0) (-1)) (fun k => ?_) ?_
      · simp only [woggleref02_Label.l1]
        rw [if_pos q1, if_pos q1, if_pos q2, hr, kw, if_pos hd, pw]; rfl
      · refine Ev.step (f := fun _ => some X) (fun k => ?_) (Ev.now _)
        simp only [woggleref02_Label.l1]
        rw [if_neg (show ¬ (-1 : Int) ≥ 0 by decide), if_pos (show (-1 : Int) < 0 by decide)]
    · intro e r hr0
      have hd : ¬ ((u % C.length : Nat) : Int) = ((C.length - 1 : Nat) : Int) := by rw [hmod]; omega
      have q3 : ¬ ((0 : Nat) : Int) < 0 := by omega
      have e2 : dig C.length 1 (u + 1) ++ Z = (dig C.length 1 u ++ Z).set 0 (((u % C.length + 1 : Nat) : Int)) := by
        rw [hset]
        obtain ⟨s1, s2⟩ := S.2 (by omega)
        show (dig C.length 0 ((u + 1) / C.length) ++ [(((u + 1) % C.length : Nat) : Int)]) ++ Z = _
        rw [s1, s2]; simp [dig]
      rw [e2] at hr0
      refine Ev.step (fun k => ?_) hr0
      have e3 : wrap64 (((u % C.length : Nat) : Int) + 1) = ((u % C.length + 1 : Nat) : Int) := succ_w _ (by rw [hmod]; omega)
      simp only [woggleref02_Label.l1]
      rw [if_pos q1, if_pos q1, if_pos q2, hr, kw, if_neg hd, if_neg q3, e3]; rfl
  | succ i ih =>
    intro u Z hi hu
    have hu' : u / C.length < C.length ^ (i + 1) := by
      rw [Nat.pow_succ] at hu
      exact Nat.div_lt_of_lt_mul (by rw [Nat.mul_comm]; exact hu)
    have hml := Nat.mod_lt u (show 0 < C.length by omega)
    have hda := Nat.div_add_mod u C.length
    have hr := dig_last C.length (i + 1) u Z
    have hset := dig_set C.length (i + 1) u Z
    have q1 : ((i + 1 : Nat) : Int) ≥ 0 := by omega
    have q2 : ((i + 1 : Nat) : Int) < ((dig C.length (i + 1 + 1) u ++ Z).length : Int) := by rw [List.length_append, dig_length]; omega
    have S := succ_div C.length u (by omega)
    have pw : wrap64 (((i + 1 : Nat) : Int) - 1) = (i : Int) := pred_w i (by omega)
    have tn : ((i + 1 : Nat) : Int).toNat = i + 1 := rfl
    by_cases hd : u % C.length = C.length - 1
    · have hdi : ((u % C.length : Nat) : Int) = ((C.length - 1 : Nat) : Int) := by rw [hd]
      obtain ⟨s1, s2⟩ := S.1 hd
      obtain ⟨i1, i2⟩ := ih (u / C.length) (0 :: Z) (by omega) hu'
      have step : ∀ k, woggleref02_Label.l1 (k + 1) n J C L X c (dig C.length (i + 1 + 1) u ++ Z) ((i + 1 : Nat) : Int) = woggleref02_Label.l1 k n J C L X c (dig C.length (i + 1) (u / C.length) ++ 0 :: Z) (i : Int) := by
        intro k
        simp only [woggleref02_Label.l1]
        rw [if_pos q1, if_pos q1, if_pos q2, hr, kw, if_pos hdi, pw, tn, hset]
      have hu1 : u + 1 = (u / C.length + 1) * C.length := by rw [Nat.add_mul, Nat.mul_comm]; omega
      constructor
      · intro e
        have e1 : u / C.length + 1 = C.length ^ (i + 1) := by
          rw [Nat.pow_succ, hu1] at e
          exact Nat.eq_of_mul_eq_mul_right (by omega) e
        exact Ev.step step (i1 e1)
      · intro e r hr0
        have e1 : u / C.length + 1 < C.length ^ (i + 1) := by
          rw [Nat.pow_succ, hu1] at e
          exact Nat.lt_of_mul_lt_mul_right e
        refine Ev.step step (i2 e1 r ?_)
        have e2 : dig C.length (i + 1) (u / C.length + 1) ++ 0 :: Z = dig C.length (i + 1 + 1) (u + 1) ++ Z := by
          show _ = (dig C.length (i + 1) ((u + 1) / C.length) ++ [(((u + 1) % C.length : Nat) : Int)]) ++ Z
          rw [s1, s2, List.append_assoc]; rfl
        rw [e2]; exact hr0
    · have hdi : ¬ ((u % C.length : Nat) : Int) = ((C.length - 1 : Nat) : Int) := by omega
      obtain ⟨s1, s2⟩ := S.2 hd
      constructor
      · intro e
        exfalso
        have : (u + 1) % C.length = 0 := by rw [e, Nat.pow_succ, Nat.mul_mod_left]
        omega
      · intro e r hr0
        have q3 : ¬ ((i + 1 : Nat) : Int) < 0 := by omega
        have e2 : dig C.length (i + 1 + 1) (u + 1) ++ Z = (dig C.length (i + 1 + 1) u ++ Z).set (i + 1) (((u % C.length + 1 : Nat) : Int)) := by
          rw [hset]
          show (dig C.length (i + 1) ((u + 1) / C.length) ++ [(((u + 1) % C.length : Nat) : Int)]) ++ Z = _
          rw [s1, s2, List.append_assoc]; rfl
        rw [e2] at hr0
        refine Ev.step (fun k => ?_) hr0
        have e3 : wrap64 (((u % C.length : Nat) : Int) + 1) = ((u % C.length + 1 : Nat) : Int) := succ_w _ (by omega)
        simp only [woggleref02_Label.l1]
        rw [if_pos q1, if_pos q1, if_pos q2, hr, kw, if_neg hdi, if_neg q3, e3, tn]
/-- The cost of the labeling of a number. -/
def cst (n : Nat) (J : List S67) (C : List (List Int)) (L : List Int) (t : Nat) : Int := totalOf n J C L (xOf (dig C.length J.length t))
/-- The first number of least cost, so far. -/
def bT (n : Nat) (J : List S67) (C : List (List Int)) (L : List Int) : Nat → Nat
  | 0 => 0
  | t + 1 => if cst n J C L (t + 1) < cst n J C L (bT n J C L t) then t + 1 else bT n J C L t
theorem bT_spec (t : Nat) : bT n J C L t ≤ t ∧ (∀ u, u ≤ t → cst n J C L (bT n J C L t) ≤ cst n J C L u) ∧ ∀ u, u < bT n J C L t → cst n J C L (bT n J C L t) < cst n J C L u := by
  induction t with
  | zero => exact ⟨Nat.le_refl _, fun u hu => by rw [Nat.le_zero.1 hu]; exact Int.le_refl _, fun u hu => absurd hu (by simp [bT])⟩
  | succ t ih =>
    obtain ⟨h1, h2, h3⟩ := ih
    simp only [bT]
    split
    · rename_i c
      refine ⟨Nat.le_refl _, fun u hu => ?_, fun u hu => ?_⟩
      · by_cases e : u = t + 1
        · rw [e]; exact Int.le_refl _
        · have := h2 u (by omega); omega
      · have := h2 u (by omega); omega
    · rename_i c
      refine ⟨by omega, fun u hu => ?_, h3⟩
      by_cases e : u = t + 1
      · rw [e]; omega
      · exact h2 u (by omega)
theorem dig_ok (hK : 0 < C.length) (t : Nat) (ht : t < C.length ^ J.length) : ∀ i, i < J.length → 0 ≤ rd (dig C.length J.length t) i ∧ rd (dig C.length J.length t) i < C.length := by
  obtain ⟨x, hx, hn⟩ := dig_is C.length hK J.length t ht
  intro i hi
  rw [← hn, dig_num C.length hK x J.length (fun i _ => hx i), rd_nat _ i (by simp; exact hi)]
  have := hx i
  simp
  omega
theorem rlabel_ev (ht : TreeOk n J) (hc : CostsOk C) (hs : StatesOk n C.length L) : Ev (fun k => woggleref02_Label.f k n J C L) (dig C.length J.length (bT n J C L (C.length ^ J.length - 1))) := by
  have hn8 := ht.2.1
  have hn2 := ht.1
  have hJ := ht.2.2.1
  have hK := hc.2.1
  have hK4 := hc.2.2
  obtain ⟨M, hM⟩ : ∃ M, J.length = M + 1 := ⟨J.length - 1, by omega⟩
  have hpos : 0 < C.length ^ J.length := Nat.pow_pos hK
  -- behind the comparison
  have Q := up_ind (fun t => Ev (fun k => woggleref02_Label.j2 k n J C L (dig C.length J.length (bT n J C L t)) (cst n J C L (bT n J C L t)) (dig C.length J.length t)) (dig C.length J.length (bT n J C L (C.length ^ J.length - 1)))) (C.length ^ J.length - 1) ?_ ?_
  · unfold woggleref02_Label.f
    have w1 : wrap64 ((n : Int) - 1) = ((J.length : Nat) : Int) := (w64 _ (by omega) (by omega)).trans (by omega)
    have w2 : (0 : Int) ≤ ((J.length : Nat) : Int) := by omega
    have w3 : ((J.length : Nat) : Int).toNat ≤ 35184372088832 := by rw [Int.toNat_natCast]; omega
    refine Ev.congr (f := fun k => woggleref02_Label.l0 k n J C L [] 0 (dig C.length J.length 0)) (fun k => by rw [w1, if_pos w2, if_pos w3, Int.toNat_natCast, dig_zero]) ?_
    have ce := cost_ev ht hc hs (dig C.length J.length 0) (dig_length _ _ _) (dig_ok hK 0 hpos)
    refine Ev.step (f := fun k => (woggleref02_Cost.f k n J C L (dig C.length J.length 0)).bind fun v => woggleref02_Label.j1 k n J C L [] 0 (dig C.length J.length 0) v true) (fun k => ?_) (Ev.bind ce ?_)
    · simp only [woggleref02_Label.l0, List.length_nil]
      simp only [show (((0 : Nat) : Int) = 0) = True from eq_true rfl, if_true]
    · refine Ev.step (fun k => ?_) Q
      have g1 : 0 < (dig C.length J.length 0).length ∧ ([] : List Int).length + (dig C.length J.length 0).length < 17592186044416 := by rw [dig_length]; simp only [List.length_nil]; omega
      simp only [woggleref02_Label.j1, if_true, Option.bind_some, g1, and_self, List.nil_append]
      rfl
  · obtain ⟨t, ht1⟩ : ∃ t, C.length ^ J.length - 1 = t := ⟨_, rfl⟩
    rw [ht1]
    have o := (odo (n := n) (J := J) (L := L) hK hK4 (dig C.length J.length (bT n J C L t)) (cst n J C L (bT n J C L t)) M t [] (by omega) (by rw [← hM]; omega)).1 (by rw [← hM]; omega)
    rw [← hM, List.append_nil] at o
    refine Ev.step (fun k => ?_) o
    have w : wrap64 ((n : Int) - 2) = (M : Int) := (w64 _ (by omega) (by omega)).trans (by omega)
    simp only [woggleref02_Label.j2]
    rw [w]
  · intro t htl ih
    have o := (odo (n := n) (J := J) (L := L) hK hK4 (dig C.length J.length (bT n J C L t)) (cst n J C L (bT n J C L t)) M t [] (by omega) (by rw [← hM]; omega)).2 (by rw [← hM]; omega) (dig C.length J.length (bT n J C L (C.length ^ J.length - 1)))
    rw [← hM, List.append_nil, List.append_nil] at o
    refine Ev.step (f := fun k => woggleref02_Label.l1 k n J C L (dig C.length J.length (bT n J C L t)) (cst n J C L (bT n J C L t)) (dig C.length J.length t) (M : Int)) (fun k => ?_) (o ?_)
    · have w : wrap64 ((n : Int) - 2) = (M : Int) := (w64 _ (by omega) (by omega)).trans (by omega)
      simp only [woggleref02_Label.j2]
      rw [w]
    · have ce := cost_ev ht hc hs (dig C.length J.length (t + 1)) (dig_length _ _ _) (dig_ok hK (t + 1) (by omega))
      have hne : ¬ ((dig C.length J.length (bT n J C L t)).length : Int) = 0 := by rw [dig_length]; omega
      refine Ev.step (f := fun k => (woggleref02_Cost.f k n J C L (dig C.length J.length (t + 1))).bind fun v => woggleref02_Label.j1 k n J C L (dig C.length J.length (bT n J C L t)) (cst n J C L (bT n J C L t)) (dig C.length J.length (t + 1)) v (decide (v < cst n J C L (bT n J C L t)))) (fun k => ?_) (Ev.bind ce ?_)
      · simp only [woggleref02_Label.l0, hne, if_false]
      · refine Ev.step (fun k => ?_) ih
        have g1 : 0 < (dig C.length J.length (t + 1)).length ∧ ([] : List Int).length + (dig C.length J.length (t + 1)).length < 17592186044416 := by rw [dig_length]; simp only [List.length_nil]; omega
        simp only [woggleref02_Label.j1, Option.bind_some, g1, and_self, if_true, List.nil_append, bT]
        show (if decide (cst n J C L (t + 1) < cst n J C L (bT n J C L t)) = true then _ else _) = _
        by_cases c : cst n J C L (t + 1) < cst n J C L (bT n J C L t)
        · rw [if_pos (decide_eq_true c), if_pos c]; rfl
        · rw [if_neg (by rw [decide_eq_false c]; decide), if_neg c]
/-- Both labelings are one. -/
theorem label_is (ht : TreeOk n J) (hc : CostsOk C) (hs : StatesOk n C.length L) : labelOf J C L = dig C.length J.length (bT n J C L (C.length ^ J.length - 1)) := by
  have hK := hc.2.1
  have hpos : 0 < C.length ^ J.length := Nat.pow_pos hK
  obtain ⟨b1, b2, b3⟩ := bT_spec (n := n) (J := J) (C := C) (L := L) (C.length ^ J.length - 1)
  have cx : ∀ x : Nat → Nat, (∀ i, i < J.length → x i < C.length) → cst n J C L (num C.length x J.length) = totalOf n J C L x := by
    intro x hx
    unfold cst
    refine total_congr _ _ ht (fun i hi => ?_)
    unfold xOf
    rw [dig_num C.length hK x J.length hx, rd_nat _ i (by simp; exact hi)]
    simp
  obtain ⟨x, hx, hn⟩ := dig_is C.length hK J.length _ (show bT n J C L (C.length ^ J.length - 1) < C.length ^ J.length by omega)
  obtain ⟨y, hy⟩ := opt_some ht hc hs
  have hyl := num_lt C.length y J.length hy.1
  have e1 := cx x (fun i _ => hx i)
  have e2 := cx y hy.1
  rw [hn] at e1
  have c1 := b2 (num C.length y J.length) (by omega)
  have c2 := best_le ht hc hs x (fun i _ => hx i)
  have hox : Opt n J C L x := ⟨fun i _ => hx i, by have := hy.2; omega⟩
  have h := label_first ht hc hs x hox (fun z hz => by
    rw [hn]
    refine Nat.le_of_not_lt fun hlt => ?_
    have c3 := b3 _ hlt
    have e3 := cx z hz.1
    have := hz.2
    have := hox.2
    omega)
  rw [h, hn]
end
theorem Label_ev {n : Int} {J : List S67} {C : List (List Int)} {L : List Int} (hJ : J.length ≤ 99) :
    Ev (fun k => track_Label.f k n J C L) (if errOf n J C L = 0 then (labelOf J C L, 0) else ([], errOf n J C L)) := by
  have h := read_ev n J C L hJ
  unfold track_Label.f
  refine Ev.bind h ?_
  by_cases c : errOf n J C L = 0
  · have e : (if errOf n J C L = 0 then (labelOf J C L, (0 : Int)) else ([], errOf n J C L)) = (labelOf J C L, 0) := if_pos c
    rw [e]
    exact ev_val (if_pos c)
  · have e : (if errOf n J C L = 0 then (labelOf J C L, (0 : Int)) else ([], errOf n J C L)) = ([], errOf n J C L) := if_neg c
    rw [e]
    exact ev_val (if_neg c)
theorem TrackLabels : wogglelaw02_TrackLabels.Pure := by
  intro a0 x0 x1 x2 h0 g0 g1 g2
  apply Ev.rounds
  unfold wogglelaw02_TrackLabels.f
  have hm : maxLen = 9223372036854775807 := rfl
  rw [few_f a0 x0 g0.1, cut_f x2 g2.1]
  have hJ : (x0.take 9).length ≤ 9 := List.length_take_le _ _
  have hL : (x2.take 9).length ≤ 9 := List.length_take_le _ _
  have hC : ((x1.take 9).map (fun x => x.take 9)).length ≤ 9 := by rw [List.length_map]; exact List.length_take_le _ _
  have hr := rows_ev x1 ⟨g1.1, fun x hx => (g1.2 x hx).1⟩
  generalize x0.take 9 = J at *
  generalize x2.take 9 = L at *
  generalize (x1.take 9).map (fun x => x.take 9) = C at *
  simp only [Option.bind_some]
  refine Ev.bind hr ?_
  have yes : Ev (fun k => wogglelaw02_TrackLabels.j0 k a0 J C L true) true := Ev.step (f := fun k => (wogglelaw02_lives.f k).bind fun t => some t) (fun k => by simp only [wogglelaw02_TrackLabels.j0]; rw [if_pos trivial]) (Ev.bind livesL_ev (Ev.now _))
  have fin : Ev (fun k => (wogglelaw02_lives.f k).bind fun t => some t) true := Ev.bind livesL_ev (Ev.now _)
  have no : Ev (fun k => wogglelaw02_TrackLabels.j0 k a0 J C L false) true := by
    refine Ev.step (f := fun k => (track_Label.f k a0 J C L).bind fun b => (wogglelaw02_why.f k a0 J C L).bind fun e => if e = 0 then (woggleref02_Label.f k a0 J C L).bind fun l => (woggleref01_Same.f k b.1 l).bind fun t => if t = true then if b.2 = 0 then (wogglelaw02_lives.f k).bind fun t => some t else some false else some false else if (b.1.length : Int) = 0 then if b.2 = e then (wogglelaw02_lives.f k).bind fun t => some t else some false else some false) (fun k => by simp only [wogglelaw02_TrackLabels.j0]; rw [if_neg (by decide)]) ?_
    have lab := Label_ev (n := a0) (J := J) (C := C) (L := L) (by omega)
    have why := why_ev a0 J C L (by omega) (by omega)
    by_cases c : errOf a0 J C L = 0
    · rw [if_pos c] at lab
      rw [c] at why
      obtain ⟨ht, hc, hs⟩ := errOf_zero c
      have t1 := ht.1
      obtain ⟨n, rfl⟩ : ∃ n : Nat, a0 = n := ⟨a0.toNat, by omega⟩
      refine Ev.bind lab (Ev.bind why ?_)
      refine Ev.congr (f := fun k => (woggleref02_Label.f k n J C L).bind fun l => (woggleref01_Same.f k (labelOf J C L) l).bind fun t => if t = true then if (0 : Int) = 0 then (wogglelaw02_lives.f k).bind fun t => some t else some false else some false) (fun k => if_pos rfl) ?_
      have rl := rlabel_ev ht hc hs
      rw [← label_is ht hc hs] at rl
      refine Ev.bind rl ?_
      have fl := (label_found ht hc hs).len
      refine Ev.bind (same_self _ (by omega)) ?_
      exact Ev.congr (fun k => by rw [if_pos rfl, if_pos rfl]) fin
    · rw [if_neg c] at lab
      refine Ev.bind lab (Ev.bind why ?_)
      exact Ev.congr (f := fun k => (wogglelaw02_lives.f k).bind fun t => some t) (fun k => by rw [if_neg c, if_pos (show ((([] : List Int), errOf a0 J C L).1.length : Int) = 0 from rfl), if_pos rfl]) fin
  by_cases c : a0 > 6
  · by_cases c8 : a0 ≤ 8
    · exact Ev.congr (fun k => by rw [if_pos c, decide_eq_true c8]) yes
    · exact Ev.congr (fun k => by rw [if_pos c, decide_eq_false c8]) no
  · exact Ev.congr (fun k => by rw [if_neg c]) no

end Go.Proofs.Ytcphmeeighhdjaa.Pure
