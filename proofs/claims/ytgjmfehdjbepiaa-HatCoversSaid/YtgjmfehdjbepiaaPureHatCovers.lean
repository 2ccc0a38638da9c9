/- HatCovers' plain law: for every number and every list the function tells true, with some number of rounds. No condition. -/
import Derived.Test.YtgjmfehdjbepiaaPF8
import Derived.Test.YtgjmfehdjbepiaaR0
import Derived.Laws.BitsLemmas
namespace Go.Proofs.Ytgjmfehdjbepiaa.Pure
open Go Go.Proofs Go.RowKit Go.Proofs.Ytgjmfehdjbepiaa.P Go.Proofs.YtgjmfehdjbepiaaW.PrintWords Go.Proofs.YtgjmfehdjbepiaaW.PrintLast Go.Proofs.YtgjmfehdjbepiaaW.PrintMore
set_option maxRecDepth 100000

theorem shl_one : ∀ b : Fin 13, shl .i64 1 ((b : Nat) : Int) = ((2 ^ (b : Nat) : Nat) : Int) := by decide +kernel
theorem shl_one' (b : Nat) (h : b ≤ 12) : shl .i64 1 (b : Int) = ((2 ^ b : Nat) : Int) := shl_one ⟨b, by omega⟩
theorem xor_nat (a b : Nat) (ha : a < 2 ^ 12) (hb : b < 2 ^ 12) : Go.bits .xor .i64 a b = ((a ^^^ b : Nat) : Int) := by
  have ha' : a % 2 ^ 64 = a := Nat.mod_eq_of_lt (by omega)
  have hb' : b % 2 ^ 64 = b := Nat.mod_eq_of_lt (by omega)
  have hx : a ^^^ b < 2 ^ 12 := Nat.xor_lt_two_pow ha hb
  have h64 : IntKind.i64.bits = 64 := rfl
  simp only [Go.bits, h64, BitVec.ofInt_natCast, BitVec.toNat_xor, BitVec.toNat_ofNat, ha', hb']
  rw [IntKind.wrap_i64]; omega
theorem flip_in (n : Nat) (hn : n ≤ 12) (w : Int) (h0 : 0 ≤ w) (h1 : w < ((2 ^ n : Nat) : Int)) (b : Nat) (hb : b < n) :
    0 ≤ Go.bits .xor .i64 w (shl .i64 1 (b : Int)) ∧ Go.bits .xor .i64 w (shl .i64 1 (b : Int)) < ((2 ^ n : Nat) : Int) := by
  obtain ⟨u, rfl⟩ : ∃ u : Nat, w = u := ⟨w.toNat, by omega⟩
  have hu : u < 2 ^ n := by omega
  have h12 : 2 ^ n ≤ 2 ^ 12 := Nat.pow_le_pow_right (by decide) hn
  have hb2 : 2 ^ b < 2 ^ n := Nat.pow_lt_pow_right (by decide) hb
  have hx : u ^^^ 2 ^ b < 2 ^ n := Nat.xor_lt_two_pow hu hb2
  rw [shl_one' b (by omega), xor_nat u (2 ^ b) (by omega) (by omega)]
  exact ⟨Int.natCast_nonneg _, by exact_mod_cast hx⟩

def markB (w : Int) : Nat → List Bool → Nat → List Bool
  | 0, t, _ => t
  | m + 1, t, b => markB w m (t.set (Go.bits .xor .i64 w (shl .i64 1 (b : Int))).toNat true) (b + 1)
theorem markB_len (w : Int) (m : Nat) : ∀ t b, (markB w m t b).length = t.length := by
  induction m with
  | zero => intro t b; rfl
  | succ m ih => intro t b; rw [markB, ih, List.length_set]
def mark (n : Nat) (t : List Bool) (w : Int) : List Bool := markB w n (t.set w.toNat true) 0
theorem mark_len (n : Nat) (t : List Bool) (w : Int) : (mark n t w).length = t.length := by
  unfold mark; rw [markB_len, List.length_set]
def goodAt (S : Nat) (y : List Int) (i : Nat) : Bool := decide (i < 4096) && (decide (0 ≤ rd y i) && (decide (rd y i < S) && (decide (i = 0) || decide (rd y ((i - 1 : Nat) : Int) < rd y i))))
def allGood (S : Nat) (y : List Int) : Nat → Nat → Bool
  | 0, _ => true
  | m + 1, i => goodAt S y i && allGood S y m (i + 1)
def final (n : Nat) (y : List Int) : Nat → List Bool → Nat → List Bool
  | 0, t, _ => t
  | m + 1, t, i => final n y m (mark n t (rd y i)) (i + 1)
theorem final_len (n : Nat) (y : List Int) (m : Nat) : ∀ t i, (final n y m t i).length = t.length := by
  induction m with
  | zero => intro t i; rfl
  | succ m ih => intro t i; rw [final, ih, mark_len]
theorem allGood_short (S : Nat) (y : List Int) (m : Nat) : ∀ i, allGood S y (m + 1) i = true → i + m < 4096 := by
  induction m with
  | zero => intro i h; unfold allGood goodAt at h; simp at h; omega
  | succ m ih =>
    intro i h
    rw [allGood, Bool.and_eq_true] at h
    have := ih (i + 1) h.2
    omega
theorem rdb_nat (l : List Bool) (i : Nat) (h : i < l.length) : rdOf false l (i : Int) = l[i] := by
  unfold rdOf; rw [Int.toNat_natCast, List.getD_eq_getElem?_getD, List.getElem?_eq_getElem h]; rfl

/-! The program's own -/
theorem index_l0 (t : List Bool) (ht : t.length ≤ 4096) (m : Nat) : ∀ (i k : Nat), i + m = t.length →
    ∃ r, slices_Index_bool_bool.l0 (k + m + 1) t false t.length i = some r ∧ decide (r ≥ 0) = !((t.drop i).all id) := by
  induction m with
  | zero =>
    intro i k h
    refine ⟨-1, ?_, ?_⟩
    · rw [slices_Index_bool_bool.l0, if_neg (by omega)]
    · rw [List.drop_of_length_le (by omega)]; rfl
  | succ m ih =>
    intro i k h
    have hi : i < t.length := by omega
    have l1 : (i : Int) < (t.length : Int) := by omega
    have l2 : 0 ≤ (i : Int) := by omega
    obtain ⟨r, h1, h2⟩ := ih (i + 1) k (by omega)
    rw [List.drop_eq_getElem_cons hi, List.all_cons]
    have hu : slices_Index_bool_bool.l0 (k + m + 1 + 1) t false t.length i = if (false == t[i]) = true then some (i : Int) else some r := by
      rw [slices_Index_bool_bool.l0, if_pos l1, if_pos l2, if_pos l1, rdb_nat t i hi, succ_w i (by omega), h1]
    show ∃ r, slices_Index_bool_bool.l0 (k + m + 1 + 1) t false t.length i = some r ∧ _
    rw [hu]
    by_cases hb : t[i] = true
    · rw [hb, if_neg (by decide)]; exact ⟨r, rfl, by rw [h2]; rfl⟩
    · rw [Bool.not_eq_true] at hb
      rw [hb, if_pos (by decide)]; exact ⟨(i : Int), rfl, by rw [decide_eq_true (show (i : Int) ≥ 0 from l2)]; rfl⟩
theorem contains_f (t : List Bool) (ht : t.length ≤ 4096) (k : Nat) (hk : 4097 ≤ k) : slices_Contains_bool_bool.f k t false = some (!(t.all id)) := by
  obtain ⟨k, rfl⟩ : ∃ j, k = j + t.length + 1 := ⟨k - t.length - 1, by omega⟩
  obtain ⟨r, h1, h2⟩ := index_l0 t ht t.length 0 k (by omega)
  have h3 : slices_Index_bool_bool.f (k + t.length + 1) t false = some r := h1
  unfold slices_Contains_bool_bool.f
  rw [h3, Option.bind_some, h2, List.drop_zero]
theorem hat_l1 (n : Nat) (hn : n ≤ 12) (y : List Int) (w : Int) (h0 : 0 ≤ w) (h1 : w < ((2 ^ n : Nat) : Int)) (L i : Int) (m : Nat) : ∀ (b k : Nat) (t : List Bool), b + m = n → t.length = 2 ^ n →
    hat_Covers.l1 (k + m + 1) n y t w y L i n b = hat_Covers.l0 k n y (markB w m t b) y L (wrap64 (i + 1)) := by
  induction m with
  | zero =>
    intro b k t hb ht
    rw [hat_Covers.l1, if_neg (by omega)]; rfl
  | succ m ih =>
    intro b k t hb ht
    have hf := flip_in n hn w h0 h1 b (by omega)
    have l1 : (b : Int) < (n : Int) := by omega
    have l2 : 0 ≤ (b : Int) := by omega
    have l3 : Go.bits .xor .i64 w (shl .i64 1 (b : Int)) < (t.length : Int) := by rw [ht]; exact hf.2
    show hat_Covers.l1 (k + m + 1 + 1) n y t w y L i n b = _
    rw [hat_Covers.l1, if_pos l1, if_pos l2, if_pos hf.1, if_pos l3, succ_w b (by omega), ih (b + 1) k _ (by omega) (by rw [List.length_set]; exact ht), markB]
theorem hat_l0 (n : Nat) (hn : n ≤ 12) (y : List Int) (m : Nat) : ∀ (i k : Nat) (t : List Bool), i + m = y.length → t.length = 2 ^ n → 4097 ≤ k →
    hat_Covers.l0 (k + m * (n + 3) + 1) n y t y y.length i = some (if allGood (2 ^ n) y m i = true then ((final n y m t i).all id, 0) else (false, 2)) := by
  have h12 : 2 ^ n ≤ 2 ^ 12 := Nat.pow_le_pow_right (by decide) hn
  have hS := shl_one' n hn
  induction m with
  | zero =>
    intro i k t hi ht hk
    rw [hat_Covers.l0, if_neg (by clear h12; omega), contains_f t (by omega) _ (by clear h12; omega), Option.bind_some, Bool.not_not]; rfl
  | succ m ih =>
    intro i k t hi ht hk
    have hlt : i < y.length := by clear h12; omega
    have l1 : (i : Int) < (y.length : Int) := by clear h12; omega
    have l2 : 0 ≤ (i : Int) := by clear h12; omega
    have l3 : 0 ≤ (n : Int) := by clear h12; omega
    obtain ⟨k1, hk1⟩ : ∃ k1, k1 = k + m * (n + 3) + 1 := ⟨_, rfl⟩
    have e : k + (m + 1) * (n + 3) + 1 = (k1 + n + 1) + 1 + 1 := by rw [hk1, Nat.succ_mul]; clear h12; omega
    have bad : ∀ x, hat_Covers.j2 (k1 + n + 1 + 1) n y t x y y.length i true = some (false, 2) := fun x => by rw [hat_Covers.j2, if_pos rfl]
    rw [e, hat_Covers.l0, if_pos l1, if_pos l2, if_pos l1, allGood]
    by_cases g1 : (i : Int) ≥ 4096
    · rw [if_pos g1, bad, if_neg]
      unfold goodAt; rw [decide_eq_false (by clear h12; omega)]; simp
    rw [if_neg g1]
    by_cases g2 : rd y i < 0
    · rw [if_pos g2, bad, if_neg]
      unfold goodAt; rw [decide_eq_false (p := 0 ≤ rd y i) (by clear h12; omega)]; simp
    rw [if_neg g2, if_pos l3, hS]
    by_cases g3 : rd y i ≥ ((2 ^ n : Nat) : Int)
    · rw [if_pos g3, bad, if_neg]
      unfold goodAt; rw [decide_eq_false (p := rd y i < ((2 ^ n : Nat) : Int)) (by clear h12; omega)]; simp
    rw [if_neg g3]
    have h0 : 0 ≤ rd y i := by clear h12; omega
    have h1 : rd y i < ((2 ^ n : Nat) : Int) := by clear h12; omega
    have goon : hat_Covers.j2 (k1 + n + 1 + 1) n y t (rd y i) y y.length i false = some (if allGood (2 ^ n) y m (i + 1) = true then ((final n y (m + 1) t i).all id, 0) else (false, 2)) := by
      have l4 : rd y i < (t.length : Int) := by rw [ht]; exact h1
      have hl := hat_l1 n hn y (rd y i) h0 h1 y.length i n 0 k1 (t.set (rd y i).toNat true) (by clear h12; omega) (by rw [List.length_set]; exact ht)
      rw [hat_Covers.j2, if_neg (by decide), if_pos h0, if_pos l4]
      refine hl.trans ?_
      rw [succ_w i (by clear h12; omega), hk1]
      exact ih (i + 1) k _ (by clear h12; omega) (by rw [markB_len, List.length_set]; exact ht) hk
    have hgood : goodAt (2 ^ n) y i = (decide (i = 0) || decide (rd y ((i - 1 : Nat) : Int) < rd y i)) := by
      unfold goodAt; rw [decide_eq_true (by clear h12; omega), decide_eq_true h0, decide_eq_true h1]; simp
    rw [hgood]
    by_cases g4 : (i : Int) > 0
    · have w1 : wrap64 ((i : Int) - 1) = ((i - 1 : Nat) : Int) := by rw [IntWalk.wrap64_in _ (by clear h12; omega)]; clear h12; omega
      have l5 : 0 ≤ ((i - 1 : Nat) : Int) := Int.natCast_nonneg _
      have l6 : ((i - 1 : Nat) : Int) < (y.length : Int) := by clear h12; omega
      rw [if_pos g4, w1, if_pos l5, if_pos l6]
      by_cases g5 : rd y i ≤ rd y ((i - 1 : Nat) : Int)
      · rw [decide_eq_true g5, bad, if_neg]
        rw [decide_eq_false (p := i = 0) (by clear h12; omega), decide_eq_false (p := rd y ((i - 1 : Nat) : Int) < rd y i) (by clear h12; omega)]; simp
      · rw [decide_eq_false g5, goon, decide_eq_true (p := rd y ((i - 1 : Nat) : Int) < rd y i) (by clear h12; omega), Bool.or_true, Bool.true_and]
    · rw [if_neg g4, goon, decide_eq_true (p := i = 0) (by clear h12; omega), Bool.true_or, Bool.true_and]

/-! The reference's -/
theorem rising_l0 (S : Nat) (hS : S ≤ 4096) (y : List Int) (hy : y.length ≤ 4096) (m : Nat) : ∀ (i k : Nat), i + m = y.length →
    woggleref01_Rising.l0 (k + m + 1) S y i = some (allGood S y m i) := by
  induction m with
  | zero =>
    intro i k hi
    rw [woggleref01_Rising.l0, if_neg (by omega)]; rfl
  | succ m ih =>
    intro i k hi
    have l1 : (i : Int) < (y.length : Int) := by omega
    have l2 : 0 ≤ (i : Int) := by omega
    have w0 : wrap64 ((S : Int) - 1) = (S : Int) - 1 := IntWalk.wrap64_in _ (by omega)
    have hin : woggleref01_in.f (rd y i) 0 ((S : Int) - 1) = some (decide (0 ≤ rd y i) && decide (rd y i < S)) := by
      unfold woggleref01_in.f
      by_cases h0 : rd y i ≥ 0
      · rw [if_pos h0, decide_eq_true (show 0 ≤ rd y i from h0), Bool.true_and]
        congr 1; rw [Bool.eq_iff_iff]; simp; omega
      · rw [if_neg h0, decide_eq_false (show ¬ 0 ≤ rd y i from h0), Bool.false_and]
    show woggleref01_Rising.l0 (k + m + 1 + 1) S y i = _
    rw [woggleref01_Rising.l0, if_pos l1, if_pos l2, w0, hin, Option.bind_some, allGood, succ_w i (by omega), ih (i + 1) k (by omega)]
    have hg : goodAt S y i = ((decide (0 ≤ rd y i) && decide (rd y i < S)) && (decide (i = 0) || decide (rd y ((i - 1 : Nat) : Int) < rd y i))) := by
      unfold goodAt; rw [decide_eq_true (show i < 4096 by omega), Bool.true_and, Bool.and_assoc]
    rw [hg]
    by_cases g1 : (decide (0 ≤ rd y i) && decide (rd y i < S)) = true
    · rw [if_pos g1, g1, Bool.true_and]
      by_cases g4 : (i : Int) > 0
      · have w1 : wrap64 ((i : Int) - 1) = ((i - 1 : Nat) : Int) := by rw [IntWalk.wrap64_in _ (by omega)]; omega
        have l5 : 0 ≤ ((i - 1 : Nat) : Int) := Int.natCast_nonneg _
        have l6 : ((i - 1 : Nat) : Int) < (y.length : Int) := by omega
        rw [if_pos g4, w1, if_pos l5, if_pos l6]
        by_cases g5 : rd y i ≤ rd y ((i - 1 : Nat) : Int)
        · rw [if_pos g5, decide_eq_false (p := i = 0) (by omega), decide_eq_false (p := rd y ((i - 1 : Nat) : Int) < rd y i) (by omega)]; rfl
        · rw [if_neg g5, decide_eq_true (p := rd y ((i - 1 : Nat) : Int) < rd y i) (by omega), Bool.or_true, Bool.true_and]
      · rw [if_neg g4, decide_eq_true (p := i = 0) (by omega), Bool.true_or, Bool.true_and]
    · rw [if_neg g1, Bool.eq_false_iff.2 g1, Bool.false_and, Bool.false_and]
theorem ref_l2 (t : List Bool) (ht : t.length ≤ 4096) (m : Nat) : ∀ (i k : Nat), i + m = t.length → woggleref09_Covers.l2 (k + m + 1) t i = some ((t.drop i).all id) := by
  induction m with
  | zero =>
    intro i k hi
    rw [woggleref09_Covers.l2, if_neg (by omega), List.drop_of_length_le (by omega)]; rfl
  | succ m ih =>
    intro i k hi
    have h : i < t.length := by omega
    have l1 : (i : Int) < (t.length : Int) := by omega
    have l2 : 0 ≤ (i : Int) := by omega
    show woggleref09_Covers.l2 (k + m + 1 + 1) t i = _
    rw [woggleref09_Covers.l2, if_pos l1, if_pos l2, rdb_nat t i h, succ_w i (by omega), ih (i + 1) k (by omega), List.drop_eq_getElem_cons h, List.all_cons]
    by_cases hb : t[i] = true
    · rw [if_pos hb, hb]; rfl
    · rw [if_neg hb, Bool.eq_false_iff.2 hb]; rfl
theorem ref_l1 (n : Nat) (hn : n ≤ 12) (y : List Int) (i : Nat) (hi : i < y.length) (h0 : 0 ≤ rd y i) (h1 : rd y i < ((2 ^ n : Nat) : Int)) (m : Nat) : ∀ (b k : Nat) (t : List Bool), b + m = n → t.length = 2 ^ n →
    woggleref09_Covers.l1 (k + m + 1) n y t i b = woggleref09_Covers.l0 k n y (markB (rd y i) m t b) (wrap64 ((i : Int) + 1)) := by
  induction m with
  | zero =>
    intro b k t hb ht
    rw [woggleref09_Covers.l1, if_neg (by omega)]; rfl
  | succ m ih =>
    intro b k t hb ht
    have hf := flip_in n hn (rd y i) h0 h1 b (by omega)
    have l1 : (b : Int) < (n : Int) := by omega
    have l2 : 0 ≤ (b : Int) := by omega
    have l4 : 0 ≤ (i : Int) := by omega
    have l5 : (i : Int) < (y.length : Int) := by omega
    have l3 : Go.bits .xor .i64 (rd y i) (shl .i64 1 (b : Int)) < (t.length : Int) := by rw [ht]; exact hf.2
    show woggleref09_Covers.l1 (k + m + 1 + 1) n y t i b = _
    rw [woggleref09_Covers.l1, if_pos l1, if_pos l4, if_pos l5, if_pos l2, if_pos hf.1, if_pos l3, succ_w b (by omega), ih (b + 1) k _ (by omega) (by rw [List.length_set]; exact ht), markB]
theorem ref_l0 (n : Nat) (hn : n ≤ 12) (y : List Int) (m : Nat) : ∀ (i k : Nat) (t : List Bool), i + m = y.length → t.length = 2 ^ n → 4097 ≤ k → allGood (2 ^ n) y m i = true →
    woggleref09_Covers.l0 (k + m * (n + 2) + 1) n y t i = some ((final n y m t i).all id) := by
  have h12 : 2 ^ n ≤ 2 ^ 12 := Nat.pow_le_pow_right (by decide) hn
  induction m with
  | zero =>
    intro i k t hi ht hk _
    have h4 : t.length ≤ 4096 := by omega
    obtain ⟨k', hk'⟩ : ∃ k', k + 0 * (n + 2) = k' + t.length + 1 := ⟨k + 0 * (n + 2) - t.length - 1, by clear h12; omega⟩
    have := ref_l2 t h4 t.length 0 k' (by clear h12; omega)
    rw [woggleref09_Covers.l0, if_neg (by clear h12; omega), hk']
    rw [List.drop_zero] at this
    exact this
  | succ m ih =>
    intro i k t hi ht hk hg
    rw [allGood, Bool.and_eq_true] at hg
    have hg1 := hg.1
    unfold goodAt at hg1
    simp only [Bool.and_eq_true, decide_eq_true_eq] at hg1
    have l1 : (i : Int) < (y.length : Int) := by clear h12; omega
    have l2 : 0 ≤ (i : Int) := by clear h12; omega
    have l3 : rd y i < (t.length : Int) := by rw [ht]; exact hg1.2.2.1
    obtain ⟨k1, hk1⟩ : ∃ k1, k1 = k + m * (n + 2) + 1 := ⟨_, rfl⟩
    have e : k + (m + 1) * (n + 2) + 1 = (k1 + n + 1) + 1 := by rw [hk1, Nat.succ_mul]; clear h12 hg1; omega
    have hl := ref_l1 n hn y i (by clear h12; omega) hg1.2.1 hg1.2.2.1 n 0 k1 (t.set (rd y i).toNat true) (by clear h12 hg1; omega) (by rw [List.length_set]; exact ht)
    rw [e, woggleref09_Covers.l0, if_pos l1, if_pos l2, if_pos hg1.2.1, if_pos l3]
    refine hl.trans ?_
    rw [succ_w i (by clear h12; omega), hk1]
    exact ih (i + 1) k _ (by clear h12; omega) (by rw [markB_len, List.length_set]; exact ht) hk hg.2

theorem covers_end (k : Nat) (hk : 40 ≤ k) (a e : Int) (y : List Int) (he : ¬ e = 0) : wogglelaw09_HatCovers.j1 (k + 1) a y false e e = some true := by
  rw [wogglelaw09_HatCovers.j1, if_neg he, if_neg (by decide), if_pos rfl, lives_k k hk]; rfl
def bigK : Nat := 100000
theorem covers_core (a : Int) (y : List Int) (hy : y.length ≤ 4097) : ∃ k, ((hat_Covers.f k a y).bind fun bt484 => (if a < 1 then (wogglelaw09_HatCovers.j0 k a y bt484.1 bt484.2 0 true) else (wogglelaw09_HatCovers.j0 k a y bt484.1 bt484.2 0 (decide (a > 12))))) = some true := by
  by_cases ha : a < 1
  · refine ⟨100, ?_⟩
    have hL : hat_Covers.f 100 a y = some (false, 1) := by unfold hat_Covers.f; rw [if_pos ha]; rfl
    rw [hL, Option.bind_some, if_pos ha, wogglelaw09_HatCovers.j0, if_pos rfl]
    exact covers_end 98 (by omega) a 1 y (by omega)
  by_cases ha4 : a > 12
  · refine ⟨100, ?_⟩
    have hL : hat_Covers.f 100 a y = some (false, 1) := by unfold hat_Covers.f; rw [if_neg ha, decide_eq_true ha4]; rfl
    rw [hL, Option.bind_some, if_neg ha, decide_eq_true ha4, wogglelaw09_HatCovers.j0, if_pos rfl]
    exact covers_end 98 (by omega) a 1 y (by omega)
  obtain ⟨n, rfl⟩ : ∃ n : Nat, a = n := ⟨a.toNat, by omega⟩
  have hn : n ≤ 12 := by omega
  have hS := shl_one' n hn
  have h12 : 2 ^ n ≤ 2 ^ 12 := Nat.pow_le_pow_right (by decide) hn
  have hK : y.length * (n + 3) ≤ 4097 * 15 := Nat.mul_le_mul hy (by omega)
  obtain ⟨K, hKe⟩ : ∃ K, K = 5000 + y.length * (n + 3) + 1 := ⟨_, rfl⟩
  refine ⟨K + 2, ?_⟩
  have s1 : 0 ≤ ((2 ^ n : Nat) : Int) := Int.natCast_nonneg _
  have s2 : (((2 ^ n : Nat) : Int)).toNat ≤ 281474976710656 := by rw [Int.toNat_natCast]; omega
  have s3 : 0 ≤ (n : Int) := Int.natCast_nonneg _
  have hL : hat_Covers.f (K + 2) n y = some (if allGood (2 ^ n) y y.length 0 = true then ((final n y y.length (List.replicate (2 ^ n) false) 0).all id, 0) else (false, 2)) := by
    unfold hat_Covers.f
    rw [if_neg ha, decide_eq_false ha4, hat_Covers.j0, if_neg (by decide), if_pos s3, hS, if_pos s1, if_pos s2, Int.toNat_natCast, show K + 1 = (5000 + 1) + y.length * (n + 3) + 1 by omega]
    exact hat_l0 n hn y y.length 0 5001 _ (by omega) (List.length_replicate ..) (by omega)
  rw [hL, Option.bind_some, if_neg ha, decide_eq_false ha4, wogglelaw09_HatCovers.j0, if_neg (by decide)]
  by_cases hy4 : (y.length : Int) > 4096
  · rw [if_pos hy4]
    have hb : ¬ allGood (2 ^ n) y y.length 0 = true := fun h => by
      have := allGood_short (2 ^ n) y (y.length - 1) 0 (by rw [show y.length - 1 + 1 = y.length by omega]; exact h)
      omega
    rw [if_neg hb]
    exact covers_end K (by omega) n 2 y (by omega)
  rw [if_neg hy4, if_pos s3, hS]
  obtain ⟨k', hk'⟩ : ∃ k', K + 1 = k' + y.length + 1 := ⟨K - y.length, by
    have : y.length * 1 ≤ y.length * (n + 3) := Nat.mul_le_mul_left _ (by omega)
    omega⟩
  have hR : woggleref01_Rising.f (K + 1) ((2 ^ n : Nat) : Int) y = some (allGood (2 ^ n) y y.length 0) := by
    rw [hk']; exact rising_l0 (2 ^ n) (by omega) y (by omega) y.length 0 k' (by omega)
  rw [hR, Option.bind_some]
  by_cases hg : allGood (2 ^ n) y y.length 0 = true
  · rw [if_pos hg, if_pos hg]
    obtain ⟨k2, hk2⟩ : ∃ k2, K = k2 + y.length * (n + 2) + 1 ∧ 4097 ≤ k2 := ⟨K - y.length * (n + 2) - 1, by
      have : y.length * (n + 2) ≤ y.length * (n + 3) := Nat.mul_le_mul_left _ (by omega)
      omega⟩
    have hC : woggleref09_Covers.f K n y = some ((final n y y.length (List.replicate (2 ^ n) false) 0).all id) := by
      unfold woggleref09_Covers.f
      rw [if_pos s3, hS, if_pos s1, if_pos s2, Int.toNat_natCast, hk2.1]
      exact ref_l0 n hn y y.length 0 k2 _ (by omega) (List.length_replicate ..) hk2.2 hg
    rw [wogglelaw09_HatCovers.j1, if_pos rfl, hC, Option.bind_some, if_pos (by simp), if_pos rfl, lives_k K (by omega)]; rfl
  · rw [if_neg hg, if_neg hg]
    exact covers_end K (by omega) n 2 y (by omega)
theorem HatCovers : wogglelaw09_HatCovers.Pure := by
  intro a l _ hl _ _
  have h1 : 0 ≤ mn (l.length : Int) 4097 ∧ mn (l.length : Int) 4097 ≤ l.length ∧ mn (l.length : Int) 4097 ≤ 4097 := by unfold mn; split <;> omega
  have h2 : (l.take (mn (l.length : Int) 4097).toNat).length ≤ 4097 := by rw [List.length_take]; omega
  obtain ⟨k, hk⟩ := covers_core a _ h2
  refine ⟨k, ?_⟩
  unfold wogglelaw09_HatCovers.f
  rw [Option.bind_some, if_pos h1.1, if_pos h1.2.1, if_pos (by simp only [List.length_nil]; omega), Option.bind_some, List.nil_append]
  exact hk

end Go.Proofs.Ytgjmfehdjbepiaa.Pure
