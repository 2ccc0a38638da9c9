/- The statement BeaconCodes: for every input the law answers true and leaves its arguments; the package variable `none` of beacon starts as the text of the program lays it. -/
import Derived.Test.YtbeimdngghedjaaDoorCD
import Derived.Test.YtbeimdngghedjaaDoorPM3
import Derived.Test.YtbeimdngghedjaaDoorPF21
import Derived.Test.YtbeimdngghedjaaDoorG38
import Derived.Test.YtbeimdngghedjaaDoorPF39
import Derived.Test.YtbeimdngghedjaaDoorPF11
import Derived.Test.YtbeimdngghedjaaDoorRows
import Derived.Test.YtbeimdngghedjaaDoorRD
import Derived.Test.YtbeimdngghedjaaDoorBY
import Derived.Test.YtbeimdngghedjaaDoorTie
import Derived.Test.YtbeimdngghedjaaDoorCards
import Derived.SevenTiedAt
import Derived.LaidMore
import Derived.Stop.Joined
import Derived.WalkKit
import Derived.ProofKit
import Derived.OpenShut
import Derived.ShutString
import Derived.ChangeOld
import Derived.Below
import Derived.SizedLaws
/-! Codes, Resolves and Confused answer what the distances of the reference say, or the right error: for all graphs and marks. -/
/-! Graphs of any kind: what the laws' few and the reference's Graph, Connected, Rising and Codes answer. -/
namespace Go.Proofs.YtbeimdngghedjaaDoor.Pure
open Go Go.Proofs Go.RowKit Go.Proofs.YtbeimdngghedjaaDoor.P Go.Proofs.YtbeimdngghedjaaDoorW.PrintWords Go.Proofs.YtbeimdngghedjaaDoorW.PrintLast
set_option linter.unusedVariables false
/-- A number of 64 bits. -/
def I64 (a : Int) : Prop := -9223372036854775808 ≤ a ∧ a ≤ 9223372036854775807
theorem i64_of {a : Int} (h : (Lit.int .i64 a).wf = true) : I64 a := by
  unfold Lit.wf at h
  simp only [Bool.and_eq_true, decide_eq_true_eq] at h
  have e1 : IntKind.i64.min = -9223372036854775808 := by decide
  have e2 : IntKind.i64.max = 9223372036854775807 := by decide
  rw [e1, e2] at h
  exact h
theorem in6_is (a b c : Int) : woggleref06_in.f a b c = some (decide (b ≤ a) && decide (a ≤ c)) := by
  unfold woggleref06_in.f
  by_cases h : a ≥ b
  · rw [if_pos h, decide_eq_true (show b ≤ a from h), Bool.true_and]
  · rw [if_neg h, decide_eq_false (show ¬ b ≤ a from h), Bool.false_and]
theorem in1_is (a b c : Int) : woggleref01_in.f a b c = some (decide (b ≤ a) && decide (a ≤ c)) := by
  unfold woggleref01_in.f
  by_cases h : a ≥ b
  · rw [if_pos h, decide_eq_true (show b ≤ a from h), Bool.true_and]
  · rw [if_neg h, decide_eq_false (show ¬ b ≤ a from h), Bool.false_and]
/-- What the reference's Graph answers. -/
def graphB (n : Int) (l : List S47) : Bool := decide (1 ≤ n) && decide (n ≤ 10) && decide (l.length ≤ 60) && l.all (edOk n.toNat)
theorem graph_l0 {n : Int} (hn : I64 n) {l : List S47} (hl : l.length ≤ 100) : ∀ (d i : Nat), i + d = l.length → (1 ≤ n → n ≤ 10 → (l.take i).all (edOk n.toNat) = true) → Ev (fun k => woggleref06_Graph.l0 k n l (i : Int)) (graphB n l)
  | 0, i, hd, hb => by
    obtain rfl : i = l.length := by omega
    rw [List.take_length] at hb
    refine Ev.step (f := fun _ => some (graphB n l)) (fun k => ?_) (Ev.now _)
    simp only [woggleref06_Graph.l0]
    rw [if_neg (by omega), in6_is]
    simp only [Option.bind_some]
    unfold graphB
    by_cases h1 : 1 ≤ n
    · by_cases h2 : n ≤ 10
      · rw [decide_eq_true h1, decide_eq_true h2, hb h1 h2]
        simp
        omega
      · rw [decide_eq_false h2]; simp
    · rw [decide_eq_false h1]; simp
  | d + 1, i, hd, hb => by
    have hi : i < l.length := by omega
    have e0 : rd_T47 l (i : Int) = l[i] := by unfold rd_T47; simp [hi]
    have bad : (1 ≤ n → n ≤ 10 → edOk n.toNat l[i] = false) → graphB n l = false := fun h => by
      unfold graphB
      by_cases h1 : 1 ≤ n
      · by_cases h2 : n ≤ 10
        · have : l.all (edOk n.toNat) = false := by
            cases hq : l.all (edOk n.toNat) with
            | false => rfl
            | true =>
              have := List.all_eq_true.1 hq l[i] (List.getElem_mem hi)
              rw [h h1 h2] at this; cases this
          rw [this]; simp
        · rw [decide_eq_false h2]; simp
      · rw [decide_eq_false h1]; simp
    have stop : (1 ≤ n → n ≤ 10 → edOk n.toNat l[i] = false) → Ev (fun _ : Nat => some false) (graphB n l) := fun h => by rw [bad h]; exact Ev.now _
    have q1 : (i : Int) < l.length := by omega
    have q2 : (0 : Int) ≤ i := by omega
    have w1 : 1 ≤ n → n ≤ 10 → wrap64 (n - 1) = n - 1 := fun h1 h2 => IntWalk.wrap64_in _ (by omega)
    have parts : ∀ e : S47, edOk n.toNat e = true → 0 ≤ e.f0 ∧ e.f0 < n.toNat ∧ 0 ≤ e.f1 ∧ e.f1 < n.toNat ∧ e.f0 ≠ e.f1 := fun e h => edOk_parts (a := e.f0) (b := e.f1) h
    by_cases c1 : (decide (0 ≤ (l[i]).f0) && decide ((l[i]).f0 ≤ wrap64 (n - 1))) = true
    · by_cases c2 : (decide (0 ≤ (l[i]).f1) && decide ((l[i]).f1 ≤ wrap64 (n - 1))) = true
      · by_cases c3 : (l[i]).f0 = (l[i]).f1
        · refine Ev.step (f := fun _ => some false) (fun k => ?_) (stop fun h1 h2 => ?_)
          · simp only [woggleref06_Graph.l0]
            rw [if_pos q1, if_pos q2, e0, in6_is, Option.bind_some, if_pos c1, in6_is, Option.bind_some, if_pos c2, if_pos c3]
          · cases hq : edOk n.toNat l[i] with
            | false => rfl
            | true => exact absurd c3 (parts _ hq).2.2.2.2
        · refine Ev.step (fun k => ?_) (graph_l0 hn hl d (i + 1) (by omega) fun h1 h2 => ?_)
          · simp only [woggleref06_Graph.l0]
            rw [if_pos q1, if_pos q2, e0, in6_is, Option.bind_some, if_pos c1, in6_is, Option.bind_some, if_pos c2, if_neg c3, succ_w i (by omega)]
          · rw [take_up l i hi, List.all_append, hb h1 h2]
            simp only [Bool.and_eq_true, decide_eq_true_eq] at c1 c2
            rw [w1 h1 h2] at c1 c2
            have := edOk_mk (n := n.toNat) (a := (l[i]).f0) (b := (l[i]).f1) c1.1 (by omega) c2.1 (by omega) c3
            simp [this]
      · refine Ev.step (f := fun _ => some false) (fun k => ?_) (stop fun h1 h2 => ?_)
        · simp only [woggleref06_Graph.l0]
          rw [if_pos q1, if_pos q2, e0, in6_is, Option.bind_some, if_pos c1, in6_is, Option.bind_some, if_neg c2]
        · cases hq : edOk n.toNat l[i] with
          | false => rfl
          | true =>
            obtain ⟨p1, p2, p3, p4, p5⟩ := parts _ hq
            refine absurd ?_ c2
            rw [w1 h1 h2, decide_eq_true p3, decide_eq_true (by omega)]; rfl
    · refine Ev.step (f := fun _ => some false) (fun k => ?_) (stop fun h1 h2 => ?_)
      · simp only [woggleref06_Graph.l0]
        rw [if_pos q1, if_pos q2, e0, in6_is, Option.bind_some, if_neg c1]
      · cases hq : edOk n.toNat l[i] with
        | false => rfl
        | true =>
          obtain ⟨p1, p2, p3, p4, p5⟩ := parts _ hq
          refine absurd ?_ c1
          rw [w1 h1 h2, decide_eq_true p1, decide_eq_true (by omega)]; rfl
theorem graph_ev {n : Int} (hn : I64 n) {l : List S47} (hl : l.length ≤ 100) : Ev (fun k => woggleref06_Graph.f k n l) (graphB n l) := by
  unfold woggleref06_Graph.f
  exact graph_l0 hn hl l.length 0 (by omega) fun _ _ => rfl
section
variable {n : Nat} {E : Nat → Nat → Bool} {M : Mt} {L : List Int}
/-- The vertices that are reached from v by at most j edges. -/
def ballW (n : Nat) (M : Mt) (v : Nat) (j : Nat) (w : Nat) : Bool := decide (w < n) && (decide (M v w ≤ j) && decide (M v w < n))
theorem ballw_step (h : FlOk n E n M) (hb : ∀ u w, E u w = true → w < n) {v : Nat} (hv : v < n) (j w : Nat) : (ballW n M v j w || (List.range n).any fun u => ballW n M v j u && E u w) = ballW n M v (j + 1) w := by
  rw [Bool.eq_iff_iff]
  unfold ballW
  simp only [Bool.or_eq_true, Bool.and_eq_true, decide_eq_true_eq, List.any_eq_true, List.mem_range]
  constructor
  · rintro (⟨h1, h2, h3⟩ | ⟨u, _, ⟨h1, h2, h3⟩, h4⟩)
    · exact ⟨h1, by omega, h3⟩
    · have hw := hb u w h4
      have a1 := h.tri u v w h1 h1 hv hw
      have a2 := h.edge u w h1 hw h4
      have a3 := h.reach _ v w hv hw ((h.wk v u hv h1 h3).cat (Wk.one hw h4))
      exact ⟨hw, by omega, a3⟩
  · rintro ⟨h1, h2, h3⟩
    by_cases hle : M v w ≤ j
    · exact .inl ⟨h1, hle, h3⟩
    · have hw := h.wk v w hv h1 h3
      rw [show (M v w).toNat = j + 1 by omega] at hw
      obtain ⟨u, hu, hw2, hE⟩ := Wk.snoc hv hw
      exact .inr ⟨u, hu, ⟨hu, h.le_walk j v u hv hu hw2, h.reach j v u hv hu hw2⟩, hE⟩
theorem ballw_l0 (hn : n ≤ 10) (h : FlOk n E n M) (hb : ∀ u w, E u w = true → w < n) (hL : NearRep n E L) {v : Nat} (hv : v < n) : ∀ (d j : Nat) (x : Int), d ≤ 20 → Rep x (ballW n M v j) →
    ∃ y, Rep y (ballW n M v (j + d)) ∧ Ev (fun k => woggleref06_Ball.l0 k L (d : Int) x) y
  | 0, j, x, _, hx => by
    refine ⟨x, hx, Ev.step (f := fun _ => some x) (fun k => ?_) (Ev.now _)⟩
    simp only [woggleref06_Ball.l0]
    rw [if_neg (by omega)]
  | d + 1, j, x, hd, hx => by
    obtain ⟨a, ha, haev⟩ := around_ev hn hL hx
    have h2 := (hx.or ha).congr (ballw_step h hb hv j)
    obtain ⟨y, hy, hev⟩ := ballw_l0 hn h hb hL hv d (j + 1) _ (by omega) h2
    refine ⟨y, by rw [show j + (d + 1) = j + 1 + d by omega]; exact hy, Ev.step (f := fun k => (woggleref06_around.f k L x).bind fun t => woggleref06_Ball.l0 k L (d : Int) (Go.bits .or .i64 x t)) (fun k => ?_) (Ev.bind haev hev)⟩
    simp only [woggleref06_Ball.l0]
    rw [if_pos (by omega), pred_w d (by omega)]
theorem ballw_ev (hn : n ≤ 10) (h : FlOk n E n M) (hb : ∀ u w, E u w = true → w < n) (hL : NearRep n E L) {v : Nat} (hv : v < n) (r : Nat) (hr : r ≤ 20) : ∃ y, Rep y (ballW n M v r) ∧ Ev (fun k => woggleref06_Ball.f k L (v : Int) (r : Int)) y := by
  have h0 : Rep (shl .i64 1 (v : Int)) (ballW n M v 0) := (Rep.one (by omega)).congr fun w => by
    unfold ballW
    rw [Bool.eq_iff_iff]
    simp only [Bool.and_eq_true, decide_eq_true_eq]
    constructor
    · rintro rfl
      have := h.diag v hv
      exact ⟨hv, by omega, by omega⟩
    · rintro ⟨h1, h2, h3⟩
      have hp := h.pos v w hv h1
      have hw := h.wk v w hv h1 h3
      rw [show (M v w).toNat = 0 by omega] at hw
      exact hw
  obtain ⟨y, hy, hev⟩ := ballw_l0 hn h hb hL hv r 0 _ hr h0
  rw [Nat.zero_add] at hy
  refine ⟨y, hy, ?_⟩
  unfold woggleref06_Ball.f
  exact ev_pos (by omega) hev
theorem connected_ev (h1 : 1 ≤ n) (hn : n ≤ 10) (h : FlOk n E n M) (hb : ∀ u w, E u w = true → w < n) (hL : NearRep n E L) : Ev (fun k => woggleref06_Connected.f k L) ((List.range n).all fun w => decide (M 0 w < n)) := by
  obtain ⟨y, ⟨Y, rfl, hY, hbits⟩, hev⟩ := ballw_ev hn h hb hL (v := 0) (by omega) n (by omega)
  unfold woggleref06_Connected.f
  rw [hL.1]
  refine ev_eq (Ev.bind hev (Ev.now _)) ?_
  rw [eq_of_beq (List.all_eq_true.1 masks n (List.mem_range.2 (by omega))), Bool.eq_iff_iff, beq_iff_eq, List.all_eq_true]
  constructor
  · intro e w hw
    have hw : w < n := by simpa using hw
    have e2 : Y = 2 ^ n - 1 := Int.ofNat.inj e
    have := hbits w
    rw [e2, Nat.testBit_two_pow_sub_one, decide_eq_true hw] at this
    have := this.symm
    unfold ballW at this
    simp only [Bool.and_eq_true] at this
    exact this.2.2
  · intro hall
    refine congrArg Int.ofNat (Nat.eq_of_testBit_eq fun i => ?_)
    rw [hbits, Nat.testBit_two_pow_sub_one]
    unfold ballW
    by_cases hi : i < n
    · have h2 := of_decide_eq_true (hall i (List.mem_range.2 hi))
      have h3 : M 0 i ≤ n := by omega
      rw [decide_eq_true hi, decide_eq_true h2, decide_eq_true h3]; rfl
    · rw [decide_eq_false hi]; rfl
end
/-- What few hands on. -/
theorem few_ev {n : Int} (hn : I64 n) (l : List S47) : Ev (fun k => wogglelaw07_Graph_few.f k n l) (n, l.take 61, readOk n (l.take 61)) := by
  have hl : (l.take 61).length ≤ 61 := by rw [List.length_take]; omega
  have hm := mn_cut l.length 61 (by omega)
  have ht : l.take (mn (l.length : Int) 61).toNat = l.take 61 := cut_take l 61 (by omega)
  unfold wogglelaw07_Graph_few.f
  simp only [Option.bind_some]
  refine ev_pos hm.1 (ev_pos hm.2 ?_)
  rw [ht]
  refine ev_pos (by simp; omega) ?_
  rw [List.nil_append]
  generalize l.take 61 = y at hl
  refine Ev.bind (graph_ev hn (by omega)) ?_
  by_cases hg : graphB n y = true
  · refine ev_pos hg ?_
    have hg2 := hg
    unfold graphB at hg2
    simp only [Bool.and_eq_true, decide_eq_true_eq] at hg2
    obtain ⟨⟨⟨g1, g2⟩, g3⟩, g4⟩ := hg2
    obtain ⟨N, rfl⟩ : ∃ N : Nat, n = N := ⟨n.toNat, by omega⟩
    rw [Int.toNat_natCast] at g4
    obtain ⟨L, hL, hLev⟩ := near_ev (n := N) (by omega) g3 g4
    have hf := final_ok (n := N) (by omega) g4
    refine Ev.bind hLev (Ev.bind (connected_ev (by omega) (by omega) hf (fun u w => edE_lt g4 u w) hL) ?_)
    refine ev_eq (Ev.now _) ?_
    have e : ((List.range N).all fun w => decide (finalM N y 0 w < N)) = readOk N y := by
      rw [Bool.eq_iff_iff, List.all_eq_true]
      unfold readOk
      simp only [Bool.and_eq_true, decide_eq_true_eq, Int.toNat_natCast, rowMax_iff (show 1 ≤ N by omega)]
      constructor
      · exact fun h => ⟨⟨⟨⟨g1, g2⟩, g3⟩, g4⟩, fun j hj => h j (List.mem_range.2 hj)⟩
      · exact fun h w hw => h.2 w (List.mem_range.1 hw)
    rw [e]
  · refine ev_neg hg ?_
    refine ev_eq (Ev.now _) ?_
    have : readOk n y = false := by
      cases hq : readOk n y with
      | false => rfl
      | true =>
        refine absurd ?_ hg
        unfold readOk at hq
        unfold graphB
        simp only [Bool.and_eq_true] at hq ⊢
        exact hq.1
    rw [this]
/-- Which list comes first. -/
def befL : List Int → List Int → Bool
  | x :: xs, y :: ys => if x = y then befL xs ys else decide (x < y)
  | xs, ys => decide (xs.length < ys.length)
theorem befL_self : ∀ l : List Int, befL l l = false
  | [] => by simp [befL]
  | x :: l => by simp [befL, befL_self l]
theorem befL_both : ∀ xs ys : List Int, befL xs ys = false → befL ys xs = false → xs = ys
  | [], [], _, _ => rfl
  | [], y :: ys, h, _ => by simp [befL] at h
  | x :: xs, [], _, h => by simp [befL] at h
  | x :: xs, y :: ys, h1, h2 => by
    by_cases e : x = y
    · subst e
      simp only [befL, if_true] at h1 h2
      rw [befL_both xs ys h1 h2]
    · simp only [befL, if_neg e, if_neg (fun e2 => e e2.symm : ¬ y = x), decide_eq_false_iff_not] at h1 h2
      omega
theorem before_l0 (a b : List Int) (ha : a.length ≤ 1000) (hb : b.length ≤ 1000) : ∀ (d i : Nat), i + d = a.length → i ≤ b.length → Ev (fun k => woggleref01_Before.l0 k a b (i : Int)) (befL (a.drop i) (b.drop i))
  | 0, i, hd, hib => by
    have e : befL (a.drop i) (b.drop i) = decide ((a.length : Int) < b.length) := by
      rw [List.drop_eq_nil_of_le (by omega : a.length ≤ i)]
      have : befL [] (b.drop i) = decide (([] : List Int).length < (b.drop i).length) := by cases b.drop i <;> rfl
      rw [this, List.length_drop, List.length_nil, Bool.eq_iff_iff, decide_eq_true_eq, decide_eq_true_eq]
      omega
    rw [e]
    have : Ev (fun k => woggleref01_Before.j1 k a b (i : Int) false) (decide ((a.length : Int) < b.length)) := by
      refine Ev.step (f := fun _ => some (decide ((a.length : Int) < b.length))) (fun k => ?_) (Ev.now _)
      simp only [woggleref01_Before.j1]
      rw [if_neg (by decide)]
    refine Ev.step (fun k => ?_) this
    simp only [woggleref01_Before.l0]
    rw [if_neg (by omega)]
  | d + 1, i, hd, hib => by
    have hi : i < a.length := by omega
    have q1 : (i : Int) < a.length := by omega
    have q2 : (0 : Int) ≤ i := by omega
    by_cases hb2 : i < b.length
    · have q3 : (i : Int) < b.length := by omega
      rw [List.drop_eq_getElem_cons hi, List.drop_eq_getElem_cons hb2]
      by_cases e : a[i] = b[i]
      · have ih := before_l0 a b ha hb d (i + 1) (by omega) (by omega)
        have e2 : befL (a[i] :: a.drop (i + 1)) (b[i] :: b.drop (i + 1)) = befL (a.drop (i + 1)) (b.drop (i + 1)) := by simp only [befL]; rw [if_pos e]
        rw [e2]
        have : Ev (fun k => woggleref01_Before.j1 k a b (i : Int) (decide ((i : Int) < b.length))) (befL (a.drop (i + 1)) (b.drop (i + 1))) := by
          refine Ev.step (fun k => ?_) ih
          simp only [woggleref01_Before.j1]
          rw [if_pos (by simpa using q3), if_pos q2, if_pos q1, if_pos q3, rd_nat a i hi, rd_nat b i hb2, if_pos e, succ_w i (by omega)]
        refine Ev.step (fun k => ?_) this
        simp only [woggleref01_Before.l0]
        rw [if_pos q1]
      · have e2 : befL (a[i] :: a.drop (i + 1)) (b[i] :: b.drop (i + 1)) = decide (a[i] < b[i]) := by simp only [befL]; rw [if_neg e]
        rw [e2]
        have : Ev (fun k => woggleref01_Before.j1 k a b (i : Int) (decide ((i : Int) < b.length))) (decide (a[i] < b[i])) := by
          refine Ev.step (f := fun _ => some (decide (a[i] < b[i]))) (fun k => ?_) (Ev.now _)
          simp only [woggleref01_Before.j1]
          rw [if_pos (by simpa using q3), if_pos q2, if_pos q1, if_pos q3, rd_nat a i hi, rd_nat b i hb2, if_neg e]
        refine Ev.step (fun k => ?_) this
        simp only [woggleref01_Before.l0]
        rw [if_pos q1]
    · have e : befL (a.drop i) (b.drop i) = decide ((a.length : Int) < b.length) := by
        rw [List.drop_eq_nil_of_le (by omega : b.length ≤ i), List.drop_eq_getElem_cons hi]
        simp only [befL, List.length_nil]
        rw [Bool.eq_iff_iff, decide_eq_true_eq, decide_eq_true_eq]
        omega
      rw [e]
      have : Ev (fun k => woggleref01_Before.j1 k a b (i : Int) (decide ((i : Int) < b.length))) (decide ((a.length : Int) < b.length)) := by
        refine Ev.step (f := fun _ => some (decide ((a.length : Int) < b.length))) (fun k => ?_) (Ev.now _)
        simp only [woggleref01_Before.j1]
        rw [if_neg (by simp; omega)]
      refine Ev.step (fun k => ?_) this
      simp only [woggleref01_Before.l0]
      rw [if_pos q1]
theorem same_ev (a b : List Int) (ha : a.length ≤ 1000) (hb : b.length ≤ 1000) : Ev (fun k => woggleref01_Same.f k a b) (decide (a = b)) := by
  have h1 := before_l0 a b ha hb a.length 0 (by omega) (by omega)
  have h2 := before_l0 b a hb ha b.length 0 (by omega) (by omega)
  rw [List.drop_zero, List.drop_zero] at h1 h2
  unfold woggleref01_Same.f
  unfold woggleref01_Before.f
  refine Ev.bind h1 ?_
  by_cases c1 : befL a b = true
  · refine ev_pos c1 ?_
    have : a ≠ b := fun e => by subst e; rw [befL_self] at c1; cases c1
    rw [decide_eq_false this]; exact Ev.now _
  · refine ev_neg c1 (ev_eq (Ev.bind h2 (Ev.now _)) ?_)
    cases c2 : befL b a with
    | true =>
      have : a ≠ b := fun e => by subst e; rw [befL_self] at c2; cases c2
      rw [decide_eq_false this]; rfl
    | false => rw [decide_eq_true (befL_both a b (by simpa using c1) c2)]; rfl
end Go.Proofs.YtbeimdngghedjaaDoor.Pure

/-! What the law's cut, and the reference's Rising, Codes, Confused and SameLists answer. -/
namespace Go.Proofs.YtbeimdngghedjaaDoor.Pure
open Go Go.Proofs Go.RowKit Go.Proofs.YtbeimdngghedjaaDoor.P Go.Proofs.YtbeimdngghedjaaDoorW.PrintWords Go.Proofs.YtbeimdngghedjaaDoorW.PrintLast
set_option linter.unusedVariables false
theorem cut_is (l : List Int) : wogglelaw07_cut.f l = some (l.take 11) := by
  have hm := mn_cut l.length 11 (by omega)
  have ht : l.take (mn (l.length : Int) 11).toNat = l.take 11 := cut_take l 11 (by omega)
  unfold wogglelaw07_cut.f
  simp only [Option.bind_some]
  rw [if_pos hm.1, if_pos hm.2, ht, if_pos (by simp; omega), List.nil_append]
theorem rising_any_l0 {n : Nat} (h1 : 1 ≤ n) (hn : n ≤ 10) {m : List Int} (hl : m.length ≤ 1000) : ∀ (d i : Nat), i + d = m.length → (List.range i).any (badMark n m) = false → Ev (fun k => woggleref01_Rising.l0 k n m (i : Int)) (!(List.range m.length).any (badMark n m))
  | 0, i, hd, hb => by
    obtain rfl : i = m.length := by omega
    rw [hb]
    refine Ev.step (f := fun _ => some true) (fun k => ?_) (Ev.now _)
    simp only [woggleref01_Rising.l0]
    rw [if_neg (by omega)]
  | d + 1, i, hd, hb => by
    have hi : i < m.length := by omega
    have q1 : (i : Int) < m.length := by omega
    have q2 : (0 : Int) ≤ i := by omega
    have w : wrap64 ((n : Int) - 1) = (n : Int) - 1 := IntWalk.wrap64_in _ (by omega)
    have stop : badMark n m i = true → Ev (fun _ : Nat => some false) (!(List.range m.length).any (badMark n m)) := fun h => by
      rw [any_bad hi h]; exact Ev.now _
    have next : badMark n m i = false → Ev (fun k => woggleref01_Rising.l0 k n m ((i + 1 : Nat) : Int)) (!(List.range m.length).any (badMark n m)) := fun h =>
      rising_any_l0 h1 hn hl d (i + 1) (by omega) (by rw [List.range_succ, List.any_append, hb]; simp [h])
    by_cases c1 : (decide (0 ≤ rd m (i : Int)) && decide (rd m (i : Int) ≤ (n : Int) - 1)) = true
    · have c1' := c1
      simp only [Bool.and_eq_true, decide_eq_true_eq] at c1'
      by_cases c2 : 0 < i
      · have q3 : (i : Int) > 0 := by omega
        have w2 : wrap64 ((i : Int) - 1) = (i : Int) - 1 := IntWalk.wrap64_in _ (by omega)
        have q4 : (0 : Int) ≤ (i : Int) - 1 := by omega
        have q5 : (i : Int) - 1 < m.length := by omega
        by_cases c3 : rd m (i : Int) ≤ rd m ((i : Int) - 1)
        · refine Ev.step (f := fun _ => some false) (fun k => ?_) (stop (by unfold badMark; simp [c2, c3]))
          simp only [woggleref01_Rising.l0]
          rw [if_pos q1, if_pos q2, w, in1_is, Option.bind_some, if_pos c1, if_pos q3, w2, if_pos q4, if_pos q5, if_pos c3]
        · refine Ev.step (fun k => ?_) (next (by
            unfold badMark
            rw [decide_eq_false (show ¬ rd m (i : Int) < 0 by omega), decide_eq_false (show ¬ (n : Int) ≤ rd m (i : Int) by omega), decide_eq_false c3]; simp))
          simp only [woggleref01_Rising.l0]
          rw [if_pos q1, if_pos q2, w, in1_is, Option.bind_some, if_pos c1, if_pos q3, w2, if_pos q4, if_pos q5, if_neg c3, succ_w i (by omega)]
      · have q3 : ¬ (i : Int) > 0 := by omega
        refine Ev.step (fun k => ?_) (next (by
            unfold badMark
            rw [decide_eq_false (show ¬ rd m (i : Int) < 0 by omega), decide_eq_false (show ¬ (n : Int) ≤ rd m (i : Int) by omega), decide_eq_false c2]; simp))
        simp only [woggleref01_Rising.l0]
        rw [if_pos q1, if_pos q2, w, in1_is, Option.bind_some, if_pos c1, if_neg q3, succ_w i (by omega)]
    · have hbad : badMark n m i = true := by
        unfold badMark
        by_cases a1 : rd m (i : Int) < 0
        · rw [decide_eq_true a1]; simp
        · have a2 : (n : Int) ≤ rd m (i : Int) := by
            simp only [Bool.and_eq_true, decide_eq_true_eq] at c1
            omega
          rw [decide_eq_true a2]; simp
      refine Ev.step (f := fun _ => some false) (fun k => ?_) (stop hbad)
      simp only [woggleref01_Rising.l0]
      rw [if_pos q1, if_pos q2, w, in1_is, Option.bind_some, if_neg c1]
theorem rising_any {n : Nat} (h1 : 1 ≤ n) (hn : n ≤ 10) {m : List Int} (hl : m.length ≤ 1000) : Ev (fun k => woggleref01_Rising.f k n m) (!(List.range m.length).any (badMark n m)) := by
  unfold woggleref01_Rising.f
  exact rising_any_l0 h1 hn hl m.length 0 (by omega) rfl
theorem mk_good {n : Nat} {m : List Int} (hl : m.length ≤ 1000) (h : (List.range m.length).any (badMark n m) = false) : Mk n m := by
  refine ⟨by omega, fun x hx => ?_⟩
  obtain ⟨i, hi, rfl⟩ := List.getElem_of_mem hx
  have h2 : badMark n m i = false := by
    cases hq : badMark n m i with
    | false => rfl
    | true => rw [any_bad hi hq] at h; cases h
  unfold badMark at h2
  rw [rd_nat m i hi] at h2
  simp only [Bool.or_eq_false_iff, decide_eq_false_iff_not] at h2
  obtain ⟨⟨a, b⟩, _⟩ := h2
  omega
section
variable {n : Nat} {M : Mt} {m : List Int}
theorem rcodes_l1 (hn : n ≤ 10) (hm : Mk n m) (hl : m.length ≤ 1000) {v : Nat} (hv : v < n) {D : List (List Int)} (hD : D.length ≤ 10) {r : List (List Int)}
    (hev : Ev (fun k => woggleref07_Codes.l0 k (rowsA n M) m (D ++ [codeL M v m]) ((v + 1 : Nat) : Int)) r) : Ev (fun k => woggleref07_Codes.l1 k (rowsA n M) m D v [] 0) r := by
  refine up_ind (fun i => Ev (fun k => woggleref07_Codes.l1 k (rowsA n M) m D v (codeL M v (m.take i)) (i : Int)) r) m.length ?_ ?_
  · rw [List.take_length]
    refine Ev.step (fun k => ?_) hev
    simp only [woggleref07_Codes.l1]
    rw [if_neg (by omega), if_pos (by omega), succ_w v (by omega)]
  · intro i hi ih
    obtain ⟨b0, b1⟩ := hm.2 _ (List.getElem_mem hi)
    have q1 : (i : Int) < m.length := by omega
    have q2 : (0 : Int) ≤ v := by omega
    have q3 : (v : Int) < ((rowsA n M).length : Int) := by simp [rowsA]; omega
    have q4 : (0 : Int) ≤ i := by omega
    have q5 : m[i] < ((rd_L5 (rowsA n M) (v : Int)).length : Int) := by rw [row_at v hv]; simp; omega
    have q6 : (codeL M v (m.take i)).length < 17592186044416 := by rw [codeL_len, List.length_take]; omega
    refine Ev.step (fun k => ?_) ih
    simp only [woggleref07_Codes.l1]
    rw [if_pos q1, if_pos q2, if_pos q3, if_pos q4, rd_nat m i hi, if_pos b0, if_pos q5, if_pos q6, succ_w i (by omega), row_at v hv, cell_at_ v _ b0 b1, take_up m i hi]
    unfold codeL
    rw [List.map_append]
    rfl
theorem rcodes_ev (hn : n ≤ 10) (hm : Mk n m) (hl : m.length ≤ 1000) : Ev (fun k => woggleref07_Codes.f k (rowsA n M) m) (codesL n M m) := by
  unfold woggleref07_Codes.f
  refine up_ind (fun i => Ev (fun k => woggleref07_Codes.l0 k (rowsA n M) m ((List.range i).map fun v => codeL M v m) (i : Int)) (codesL n M m)) n ?_ ?_
  · refine Ev.step (f := fun _ => some (codesL n M m)) (fun k => ?_) (Ev.now _)
    simp only [woggleref07_Codes.l0]
    rw [if_neg (by simp [rowsA])]; rfl
  · intro i hi ih
    rw [range_succ_map] at ih
    refine Ev.step (fun k => ?_) (rcodes_l1 hn hm hl hi (by simp; omega) ih)
    simp only [woggleref07_Codes.l0]
    rw [if_pos (by simp [rowsA]; omega)]
theorem rd_codesL {i : Nat} (hi : i < n) : rd_L5 (codesL n M m) (i : Int) = codeL M i m := by unfold rd_L5 codesL; simp [hi]
/-- The pair as a list; the pair of minus ones is no pair. -/
def toL (p : Int × Int) : List Int := if p.1 = -1 ∧ p.2 = -1 then [] else [p.1, p.2]
theorem refconf_ev (hn : n ≤ 10) (hm : Mk n m) (hl : m.length ≤ 1000) : Ev (fun k => woggleref07_Confused.f k (rowsA n M) m) (toL (confF n M m)) := by
  unfold woggleref07_Confused.f
  refine Ev.bind (rcodes_ev hn hm hl) ?_
  have len : (codesL n M m).length = n := by simp [codesL]
  have key := up_ind (fun u => Ev (fun k => woggleref07_Confused.l0 k (codesL n M m) (u : Int)) (toL (cfU M m n (n - u) u))) n ?_ ?_
  · exact key
  · refine Ev.step (f := fun _ => some []) (fun k => ?_) ?_
    · simp only [woggleref07_Confused.l0]
      rw [if_neg (by omega)]
    · rw [Nat.sub_self]; exact Ev.now _
  · intro u hu ih
    refine Ev.step (f := fun k => woggleref07_Confused.l1 k (codesL n M m) (u : Int) ((u + 1 : Nat) : Int)) (fun k => ?_) ?_
    · simp only [woggleref07_Confused.l0]
      rw [if_pos (by omega), succ_w u (by omega)]
    have inner := up_from (fun v => Ev (fun k => woggleref07_Confused.l1 k (codesL n M m) (u : Int) (v : Int)) (toL (match cfV M m u (n - v) v with | some x => ((u : Int), (x : Int)) | none => cfU M m n (n - (u + 1)) (u + 1)))) (u + 1) n (by omega) ?_ ?_
    · rw [show n - u = (n - (u + 1)) + 1 by omega]
      exact inner
    · refine Ev.step (fun k => ?_) (show Ev (fun k => woggleref07_Confused.l0 k (codesL n M m) ((u + 1 : Nat) : Int)) (toL (match cfV M m u (n - n) n with | some x => ((u : Int), (x : Int)) | none => cfU M m n (n - (u + 1)) (u + 1))) by rw [Nat.sub_self]; exact ih)
      simp only [woggleref07_Confused.l1]
      rw [if_neg (by omega), succ_w u (by omega)]
    · intro v hv1 hv ih2
      refine Ev.step (f := fun k => (woggleref01_Same.f k (codeL M u m) (codeL M v m)).bind fun t => if t = true then some [(u : Int), (v : Int)] else woggleref07_Confused.l1 k (codesL n M m) (u : Int) ((v + 1 : Nat) : Int)) (fun k => ?_) ?_
      · simp only [woggleref07_Confused.l1]
        rw [if_pos (by omega), if_pos (by omega), if_pos (by omega), if_pos (by omega), rd_codesL hu, rd_codesL hv, succ_w v (by omega)]
      refine Ev.bind (same_ev _ _ (by rw [codeL_len]; exact hl) (by rw [codeL_len]; exact hl)) ?_
      rw [show n - v = (n - (v + 1)) + 1 by omega]
      by_cases he : codeL M u m = codeL M v m
      · rw [decide_eq_true he]
        simp only [cfV]
        rw [if_pos he]
        refine Ev.congr (fun _ => if_pos trivial) (ev_eq (Ev.now _) ?_)
        unfold toL
        rw [if_neg (show ¬ ((u : Int) = -1 ∧ (v : Int) = -1) by omega)]
      · rw [decide_eq_false he]
        simp only [cfV]
        rw [if_neg he]
        exact Ev.congr (fun _ => if_neg (by decide)) ih2
end
theorem rd_L5_nat (X : List (List Int)) (i : Nat) (h : i < X.length) : rd_L5 X (i : Int) = X[i] := by unfold rd_L5; simp [h]
theorem samelists_self {X : List (List Int)} (h : X.length ≤ 1000) (hr : ∀ r ∈ X, r.length ≤ 1000) : Ev (fun k => woggleref01_SameLists.f k X X) true := by
  unfold woggleref01_SameLists.f
  refine ev_pos rfl ?_
  refine up_ind (fun i => Ev (fun k => woggleref01_SameLists.l0 k X X (i : Int)) true) X.length ?_ ?_
  · refine Ev.step (f := fun _ => some true) (fun k => ?_) (Ev.now _)
    simp only [woggleref01_SameLists.l0]
    rw [if_neg (by omega)]
  · intro i hi ih
    refine Ev.step (f := fun k => (woggleref01_Same.f k X[i] X[i]).bind fun t => if t = true then woggleref01_SameLists.l0 k X X ((i + 1 : Nat) : Int) else some false) (fun k => ?_) ?_
    · simp only [woggleref01_SameLists.l0]
      rw [if_pos (by omega), if_pos (by omega), if_pos (by omega), rd_L5_nat X i hi, succ_w i (by omega)]
    · have := hr _ (List.getElem_mem hi)
      exact Ev.bind (same_ev _ _ this this) (ev_pos (by simp) ih)
end Go.Proofs.YtbeimdngghedjaaDoor.Pure

/-! Codes, Resolves and Confused answer what the reference's distances say, or the right error: for all graphs and marks. -/
namespace Go.Proofs.YtbeimdngghedjaaDoor.Pure
open Go Go.Proofs Go.RowKit Go.Proofs.YtbeimdngghedjaaDoor.P Go.Proofs.YtbeimdngghedjaaDoorW.PrintWords Go.Proofs.YtbeimdngghedjaaDoorW.PrintLast
set_option linter.unusedVariables false
theorem toL_len (p : Int × Int) : (toL p).length ≤ 2 := by
  unfold toL
  split <;> simp
theorem BeaconCodes : wogglelaw07_BeaconCodes.Pure := by
  intro n e l1 hn he h1
  have hfew := few_ev (i64_of hn) e
  have hm11 : (l1.take 11).length ≤ 11 := by rw [List.length_take]; omega
  generalize hy : e.take 61 = y at hfew
  generalize hm : l1.take 11 = m at hm11
  have errs : ∀ (er : Int), er ≠ 0 → Ev (fun k => wogglelaw07_BeaconCodes.j0 k n y m [] er false er [] er er) true := fun er h0 => by
    refine Ev.step (f := fun k => (wogglelaw07_lives.f k).bind fun t509 => (some t509)) (fun k => ?_) (Ev.bind lives_ev (Ev.now _))
    simp only [wogglelaw07_BeaconCodes.j0]
    rw [if_neg h0, if_pos (by decide +kernel), if_neg (by decide), if_pos trivial, if_pos trivial, if_pos trivial]
  have key : Ev (fun k => wogglelaw07_BeaconCodes.f k n e l1) true := by
    unfold wogglelaw07_BeaconCodes.f
    refine Ev.bind hfew ?_
    simp only [cut_is, Option.bind_some, hm]
    have bad : ∀ er : Int, er ≠ 0 → withErr n y m = er → Ev (fun k => beacon_Codes.f k n y m) ([], er) ∧ Ev (fun k => beacon_Resolves.f k n y m) (false, er) ∧ Ev (fun k => beacon_Confused.f k n y m) ([], er) := fun er h0 hw => by
      refine ⟨?_, ?_, ?_⟩
      · unfold beacon_Codes.f
        refine ev_neg (by rw [hw]; exact h0) ?_
        rw [hw]; exact Ev.now _
      · unfold beacon_Resolves.f
        refine ev_neg (by rw [hw]; exact h0) ?_
        rw [hw]; exact Ev.now _
      · unfold beacon_Confused.f
        refine ev_neg (by rw [hw]; exact h0) ?_
        rw [hw]; exact Ev.now _
    by_cases hr : readOk n y = true
    · have hr0 := hr
      obtain ⟨N, rfl, n1, n10, ylen, yok, yrow⟩ := readOk_parts hr
      have hM := met_of hr
      have hris := rising_any n1 n10 (m := m) (by omega)
      cases hb : (List.range m.length).any (badMark N m) with
      | true =>
        rw [hb] at hris
        have hw : withErr N y m = 2 := by unfold withErr; rw [if_pos hr, if_pos hb]
        obtain ⟨b1, b2, b3⟩ := bad 2 (by decide) hw
        refine Ev.bind b1 (Ev.bind b2 (Ev.bind b3 (ev_pos hr (Ev.bind hris (ev_neg (by decide) ?_)))))
        exact errs 2 (by decide)
      | false =>
        rw [hb] at hris
        have hmk := mk_good (n := N) (m := m) (by omega) hb
        have hw : withErr N y m = 0 := by unfold withErr; rw [if_pos hr, if_neg (by rw [hb]; decide)]
        have c1 : Ev (fun k => beacon_Codes.f k N y m) (codesL N (finalM N y) m, 0) := by
          unfold beacon_Codes.f
          refine ev_pos hw ?_
          rw [Int.toNat_natCast]
          unfold beacon_Codes_tail.f
          exact codes_l0 n10 hmk
        have c2 : Ev (fun k => beacon_Resolves.f k N y m) (resP N (finalM N y) m, 0) := by
          unfold beacon_Resolves.f
          refine ev_pos hw ?_
          rw [Int.toNat_natCast]
          unfold beacon_Resolves_tail.f
          exact Ev.bind (res_ev (E := edE y) (M := finalM N y) n10 hmk) (Ev.now _)
        have c3 : Ev (fun k => beacon_Confused.f k N y m) (toL (confF N (finalM N y) m), if resP N (finalM N y) m = true then 5 else 0) := by
          unfold beacon_Confused.f
          refine ev_pos hw ?_
          rw [Int.toNat_natCast]
          refine Ev.bind (conf_ev (E := edE y) (M := finalM N y) n10 hmk) ?_
          unfold toL resP
          by_cases hc : (confF N (finalM N y) m).1 = -1 ∧ (confF N (finalM N y) m).2 = -1
          · refine ev_pos hc (ev_eq (Ev.now _) ?_)
            rw [if_pos hc, if_pos (by simp [hc.1, hc.2])]
          · refine ev_neg hc (ev_eq (Ev.now _) ?_)
            rw [if_neg hc, if_neg (by simpa using hc)]
        refine Ev.bind c1 (Ev.bind c2 (Ev.bind c3 (ev_pos hr (Ev.bind hris (ev_pos rfl ?_)))))
        obtain ⟨L, hL, hLev⟩ := near_ev n10 ylen yok
        have hD := dist_ev hM (fun u w => edE_lt yok u w) hL
        have s1 := rcodes_ev (M := finalM N y) n10 hmk (by omega)
        have s2 := refconf_ev (M := finalM N y) n10 hmk (by omega)
        have s3 := samelists_self (X := codesL N (finalM N y) m) (by simp [codesL]; omega) (fun r hr => by
          obtain ⟨v, _, rfl⟩ := List.mem_map.1 hr
          rw [codeL_len]; omega)
        have hres : (toL (confF N (finalM N y) m)).length = 0 ↔ resP N (finalM N y) m = true := by
          unfold toL resP
          by_cases hc : (confF N (finalM N y) m).1 = -1 ∧ (confF N (finalM N y) m).2 = -1
          · rw [if_pos hc]; simp [hc.1, hc.2]
          · rw [if_neg hc]; simpa using hc
        have hlen := toL_len (confF N (finalM N y) m)
        generalize codesL N (finalM N y) m = X at *
        generalize resP N (finalM N y) m = b at *
        generalize toL (confF N (finalM N y) m) = q at *
        refine Ev.step (f := fun k => (woggleref06_Near.f k N y).bind fun t558 => ((woggleref07_Distances.f k t558).bind fun t561 => ((woggleref07_Confused.f k t561 m).bind fun t564 => ((woggleref07_Codes.f k t561 m).bind fun t567 => ((woggleref01_SameLists.f k X t567).bind fun t570 => (if t570 = true then (if (0 : Int) = 0 then (if (t564.length : Int) = 0 then (if (b != true) = true then (wogglelaw07_BeaconCodes.j1 k q (if b = true then 5 else 0) t564 true) else (if (0 : Int) = 0 then ((wogglelaw07_lives.f k).bind fun t571 => (wogglelaw07_BeaconCodes.j1 k q (if b = true then 5 else 0) t564 (!t571))) else (wogglelaw07_BeaconCodes.j1 k q (if b = true then 5 else 0) t564 true))) else (if (b != false) = true then (wogglelaw07_BeaconCodes.j1 k q (if b = true then 5 else 0) t564 true) else (if (0 : Int) = 0 then ((wogglelaw07_lives.f k).bind fun t572 => (wogglelaw07_BeaconCodes.j1 k q (if b = true then 5 else 0) t564 (!t572))) else (wogglelaw07_BeaconCodes.j1 k q (if b = true then 5 else 0) t564 true)))) else (wogglelaw07_BeaconCodes.j1 k q (if b = true then 5 else 0) t564 true)) else (wogglelaw07_BeaconCodes.j1 k q (if b = true then 5 else 0) t564 true))))))) (fun k => by
          simp only [wogglelaw07_BeaconCodes.j0]
          rw [if_pos trivial]) ?_
        refine Ev.bind hLev (Ev.bind hD (Ev.bind s2 (Ev.bind s1 (Ev.bind s3 (ev_pos rfl (ev_pos rfl ?_))))))
        cases b with
        | true =>
          have q0 : q.length = 0 := hres.2 rfl
          refine ev_pos (by omega) (ev_neg (by decide) (ev_pos rfl (Ev.bind lives_ev ?_)))
          refine Ev.step (f := fun _ => some true) (fun k => ?_) (Ev.now _)
          simp only [wogglelaw07_BeaconCodes.j1]
          rw [if_neg (by decide), if_pos (by omega), if_pos (by omega)]
          rfl
        | false =>
          have q0 : q.length ≠ 0 := fun h => by have := hres.1 h; cases this
          refine ev_neg (by omega) (ev_neg (by decide) (ev_pos rfl (Ev.bind lives_ev ?_)))
          refine Ev.step (f := fun k => (woggleref01_Same.f k q q).bind fun t573 => (if t573 = true then (some true) else (some false))) (fun k => ?_) ?_
          · simp only [wogglelaw07_BeaconCodes.j1]
            rw [if_neg (by decide), if_neg (by omega)]
            rfl
          · exact Ev.bind (same_ev q q (by omega) (by omega)) (ev_pos (by simp) (Ev.now _))
    · have hw : withErr n y m = 1 := by unfold withErr; rw [if_neg hr]
      obtain ⟨b1, b2, b3⟩ := bad 1 (by decide) hw
      refine Ev.bind b1 (Ev.bind b2 (Ev.bind b3 (ev_neg hr ?_)))
      exact errs 1 (by decide)
  obtain ⟨K, h⟩ := key
  exact ⟨K, h K (Nat.le_refl _)⟩
end Go.Proofs.YtbeimdngghedjaaDoor.Pure

/-! The statement BeaconCodes: for every input the law answers true and leaves its arguments; the package variable `none` of beacon starts as the program's text lays it. -/
namespace Go.Proofs.YtbeimdngghedjaaDoor.beaconCodes
open Go.ChangeShapes Go.WideShapes Go.ChangeAt Go.RowKit
open Go.ChangeMaps (open_string shut_string)
open Go.Proofs.YtbeimdngghedjaaDoor.P Go.Proofs.YtbeimdngghedjaaDoorW.PrintWords Go.Proofs.YtbeimdngghedjaaDoorW.PrintLast Go.Proofs.YtbeimdngghedjaaDoorW.PrintMore
set_option linter.unusedVariables false
theorem own : ownKnob Tryd.prog.godebug = none := by kernel_rfl
theorem laidOut : laidOutB Tryd.prog = true := by kernel_rfl
set_option maxRecDepth 100000 in
theorem lifted (os : Os) (started : os.Started) (H : Type) (enc : TypeId × Value → H) :
    ReturnsInHanded {} Tryd.checked os 11 .any (fun w args => (Rows.beaconCodesSpec.pre enc Tryd.prog Tryd.f11 [] false w args ∧ laidMetH Tryd.prog laidList w) ∧ sizedMet enc Tryd.prog Tryd.f11 (OpenSpec.ofChange Rows.beaconCodesSpec) false w args) (Rows.beaconCodesSpec.post enc Tryd.prog Tryd.f11 false true false false) := by
  refine returnsInHanded_of_change_and (C := Tryd.checked) (X := fun w _ => laidMetH Tryd.prog laidList w) (fun _ _ _ hh h => h.of_heap hh) own started (by kernel_rfl) Tryd.func11
    (ChangeSpec.witness_shaped (enc := enc) (C := Tryd.checked) (os := os) (X := fun w _ => laidMetH Tryd.prog laidList w) false (World.doorLaid Tryd.prog 400 os) #[.agg #[.int .i64 0, .slice none 0 0], .slice none 0 0] 8 rfl (World.shaped_of_RefB (by kernel_rfl) (by kernel_rfl)) (by kernel_rfl) (by kernel_rfl) (by kernel_rfl) (door_met os _)) ?_
  intro W base args ds gs before hval0 hW hcnd hsz0 hL _
  have hval : ∀ (j : Nat) t v, Tryd.f11.params[j]? = some t → args[j]? = some v → Value.okWide Tryd.prog W .any base t v := hval0
  have hW' := hW
  obtain ⟨p, q, hA0, hV, rfl, hfz, hnd⟩ := hW
  have hA : DataW.TrodAll enc Tryd.prog W 0 (fun _ => true) true Tryd.f11.params.toList args.toList ds p := hA0
  rw [Tryd.params11] at hA hval
  obtain ⟨v0, vs0, d0, ds0, p0, q0, hargs, rfl, rfl, h0, r0⟩ := trodAll_cons hA
  obtain ⟨v1, vs1, d1, ds1, p1, q1, rfl, rfl, rfl, h1, r1⟩ := trodAll_cons r0
  obtain ⟨rfl, rfl, rfl⟩ := trodAll_nil r1
  obtain rfl : args = #[v0, v1] := by cases args; simp_all
  obtain ⟨rfl, rfl⟩ := trodVars_none hV
  have k0 := h0
  have lt0 : ∀ x ∈ p0, x.block < W.heap.size := by obtain ⟨m, hm⟩ := k0; exact DataW.trod_lt m _ _ _ hm
  obtain ⟨cs0, rfl, hsz0⟩ := okWide_struct Tryd.underlying24 (hval 0 24 v0 rfl rfl)
  obtain ⟨x0, ⟨_, _, hcs0, rfl, ⟨A0_1, c0_1, rfl, hle0_1, hC0_1⟩⟩, hg0⟩ := Reads.of_trod (reads_struct Tryd.underlying24 (by kernel_rfl) (readsFs_cons rfl (reads_int Tryd.underlying3 (by kernel_rfl)) rfl (readsFs_one rfl (reads_slice 47 Tryd.underlying22 (by kernel_rfl) (reads_fields (fun x : S47 => (x.f0, x.f1)) (fun p => (⟨p.1, p.2⟩ : S47)) (fun _ => rfl) Tryd.underlying47 (by kernel_rfl) (readsFs_cons rfl (reads_int Tryd.underlying3 (by kernel_rfl)) rfl (readsFs_one rfl (reads_int Tryd.underlying3 (by kernel_rfl))))))))) h0
  obtain rfl : cs0 = #[.int .i64 x0.1, .slice A0_1 x0.2.length c0_1] := by have e_ : cs0.toList = [.int .i64 x0.1, .slice A0_1 x0.2.length c0_1] := hcs0; cases cs0; simp_all
  have k1 := h1
  have lt1 : ∀ x ∈ p1, x.block < W.heap.size := by obtain ⟨m, hm⟩ := k1; exact DataW.trod_lt m _ _ _ hm
  obtain ⟨b1, len1, cap1, rfl⟩ := okWide_slice Tryd.underlying28 (hval 1 28 v1 rfl rfl)
  obtain ⟨l1, ⟨A1, c1, hcs1, hle1, hC1⟩, hg1⟩ := Reads.of_trod (reads_slice 3 Tryd.underlying28 (by kernel_rfl) (reads_int Tryd.underlying3 (by kernel_rfl))) h1
  obtain ⟨rfl, rfl, rfl⟩ : b1 = A1 ∧ len1 = l1.length ∧ cap1 = c1 := by simpa [Value.cells] using hcs1
  clear hA0 hval0 hsz0
  obtain ⟨k_, hk_⟩ := Pure.BeaconCodes x0.1 x0.2 l1 hg0.1 hg0.2 hg1
  refine (wogglelaw07_BeaconCodes.calls k_ x0.1 _ _ x0.2 _ _ l1 true W hC0_1 hle0_1 hC1 hle1 (door_of hL) hk_ rfl).mono fun e W' h_ => ?_
  obtain ⟨rfl, bel0⟩ := h_
  have bel : Below W.heap.size W W' := bel0
  exact ⟨_, rfl, _, _, _, [], _, [], hW', trodAll_mk1 (shut_bool Tryd.underlying4 _), (trodAll_cons_mk (Below.trod laidOut (by kernel_rfl) (of_decide_eq_true (by kernel_rfl)) k0 bel lt0) (trodAll_cons_mk (Below.trod laidOut (by kernel_rfl) (of_decide_eq_true (by kernel_rfl)) k1 bel lt1) trodAll_mk0)), rfl, bel.frame _, fun h => by cases h⟩
theorem over : Rows.beaconCodesRow.holds Tryd.pinned (OpenSpec.ofChange Rows.beaconCodesSpec) :=
  OpenClaim.holds_of_wide 11 Tryd.f11 rfl rfl rfl rfl rfl rfl rfl ⟨rfl, rfl, rfl, rfl, rfl⟩ rfl rfl rfl rfl rfl (by kernel_rfl) Tryd.func11 (by kernel_rfl)
    (of_decide_eq_true (by kernel_rfl)) (by unfold Func.isWrapper; first | (rw [if_pos (by decide +kernel)]; kernel_rfl) | (rw [if_neg (by decide +kernel)]; exact ⟨rfl, rfl⟩))
    (fun os started H enc _ => lifted os started H enc)
theorem proved : Rows.BeaconCodesSaid := over
#print axioms proved
end Go.Proofs.YtbeimdngghedjaaDoor.beaconCodes
namespace Go.Proofs.YtbeimdngghedjaaDoor
/-- The row, under a short name, for the claim. -/
theorem beaconCodes_holds : Rows.BeaconCodesSaid := beaconCodes.proved
/-- The tied card. -/
theorem beaconCodes_card : Rows.BeaconCodesCardSaid :=
  Claim7.holds_tied_plain_at .later [] [.data] true (true, "fa9c7bc0788aee13516c6e46a6afebb7f5758b95f807df224d19495f40a5707d") false
    beaconCodes_holds (fun _ h => by cases h) (by kernel_rfl) (fun _ h => by cases h) beaconCodes_row_tie rfl ⟨rfl, rfl⟩ (by kernel_rfl) rfl
    (fun f fn hf hfn => by
      obtain rfl : f = 11 := Option.some.inj ((show Tryd.prog.funcNamed "woggle/wogglelaw07.BeaconCodes" = some 11 by kernel_rfl).symm.trans hf) |>.symm
      obtain rfl : fn = Tryd.f11 := (Option.some.inj (Tryd.func11.symm.trans hfn)).symm
      exact ⟨by kernel_rfl, fun j t ht => by
        rw [Tryd.params11] at ht
        have hm : t ∈ [24, 28] := by simpa using Array.mem_of_getElem? ht
        have hall : ([24, 28].all fun u => !Tryd.prog.wantsStandIn u) = true := by kernel_rfl
        exact (show Tryd.prog.wantsStandIn t = false by simpa using List.all_eq_true.1 hall t hm)⟩)
    (by kernel_rfl)
#print axioms beaconCodes_card
end Go.Proofs.YtbeimdngghedjaaDoor
