/- Plain laws of hat's small functions: powers, digits, reversal, a player's guess, all hats. -/
import Derived.Test.YtgjmfehdjbepiaaPF54
import Derived.Test.YtgjmfehdjbepiaaPF66
import Derived.Test.YtgjmfehdjbepiaaPF70
namespace Go.Proofs.Ytgjmfehdjbepiaa.P
set_option linter.unusedVariables false
set_option linter.unusedSimpArgs false
open Go.RowKit Go.Proofs.YtgjmfehdjbepiaaW.PrintWords Go.Proofs.YtgjmfehdjbepiaaW.PrintLast Go.Proofs.YtgjmfehdjbepiaaW.PrintMore

theorem wrap_in {x : Int} (h0 : -9223372036854775808 ≤ x) (h1 : x ≤ 9223372036854775807) : wrap64 x = x := by unfold wrap64; omega

/-- powers up to 4^4 -/
theorem pow_small (q : Int) (h0 : 0 ≤ q) (h4 : q ≤ 4) (m : Nat) (hm : m ≤ 8) : 0 ≤ q ^ m ∧ q ^ m ≤ 65536 := by
  have h : q = 0 ∨ q = 1 ∨ q = 2 ∨ q = 3 ∨ q = 4 := by omega
  have hm' : m = 0 ∨ m = 1 ∨ m = 2 ∨ m = 3 ∨ m = 4 ∨ m = 5 ∨ m = 6 ∨ m = 7 ∨ m = 8 := by omega
  rcases h with rfl | rfl | rfl | rfl | rfl <;> rcases hm' with rfl | rfl | rfl | rfl | rfl | rfl | rfl | rfl | rfl <;> decide
theorem pow_l0 (q : Int) (h0 : 0 ≤ q) (h4 : q ≤ 4) (m : Nat) (hm : m ≤ 8) (d : Nat) : ∀ (k i : Nat), i + d = m → d < k → hat_power.l0 k q (q ^ i) m i = some (q ^ m) := by
  induction d with
  | zero =>
    intro k i hi hk
    obtain ⟨k, rfl⟩ : ∃ m, k = m + 1 := ⟨k - 1, by omega⟩
    simp only [hat_power.l0]
    rw [if_neg (by omega), show i = m by omega]
  | succ d ih =>
    intro k i hi hk
    obtain ⟨k, rfl⟩ : ∃ m, k = m + 1 := ⟨k - 1, by omega⟩
    simp only [hat_power.l0]
    have h : 0 ≤ q ^ i.succ ∧ q ^ i.succ ≤ 65536 := pow_small q h0 h4 (i + 1) (by omega)
    rw [if_pos (by omega), wrap_in (x := (i : Int) + 1) (by omega) (by omega), ← Int.pow_succ, wrap_in (by omega) (by omega)]
    exact ih k (i + 1) (by omega) (by omega)
theorem pow_f (q : Int) (h0 : 0 ≤ q) (h4 : q ≤ 4) (m : Nat) (hm : m ≤ 8) (k : Nat) (hk : m < k) : hat_power.f k q m = some (q ^ m) := by
  have := pow_l0 q h0 h4 m hm m k 0 (by omega) hk
  simpa [hat_power.f] using this

/-- The place in a player's table, by the first m players that it sees. -/
def ixTo (q : Int) (row hats : List Int) : Nat → Int
  | 0 => 0
  | m + 1 => ixTo q row hats m + rd hats (rd row m) * q ^ m
/-- Hats of colours below q. -/
def Colours (q : Int) (hats : List Int) : Prop := ∀ c ∈ hats, 0 ≤ c ∧ c < q
/-- A player's list of others. -/
def Below_ (n : Nat) (row : List Int) : Prop := ∀ j ∈ row, 0 ≤ j ∧ j < (n : Int)
theorem rd_mem (l : List Int) (i : Int) (h0 : 0 ≤ i) (h : i < l.length) : rd l i ∈ l := by
  unfold rd
  rw [List.getD_eq_getElem?_getD, List.getElem?_eq_getElem (by omega)]
  exact List.getElem_mem _
theorem ix_bound (q : Int) (row hats : List Int) (hc : Colours q hats) (hr : Below_ hats.length row) (h1 : 1 ≤ q) : ∀ m : Nat, m ≤ row.length → 0 ≤ ixTo q row hats m ∧ ixTo q row hats m < q ^ m
  | 0, _ => by simp [ixTo]
  | m + 1, hm => by
    have ih := ix_bound q row hats hc hr h1 m (by omega)
    have hj := hr _ (rd_mem row m (by omega) (by omega))
    have hx := hc _ (rd_mem hats _ hj.1 hj.2)
    have hp : 0 ≤ q ^ m := Int.pow_nonneg (by omega)
    simp only [ixTo]
    rw [Int.pow_succ]
    have h2 : rd hats (rd row m) * q ^ m ≤ (q - 1) * q ^ m := Int.mul_le_mul_of_nonneg_right (by omega) hp
    have h3 : 0 ≤ rd hats (rd row m) * q ^ m := Int.mul_nonneg hx.1 hp
    rw [Int.sub_mul, Int.one_mul] at h2
    rw [Int.mul_comm (q ^ m) q]
    omega
/-- What a player guesses. -/
def guessP (q : Int) (row table hats : List Int) : Int := rd table (ixTo q row hats row.length)

theorem guess_l0 (n q i : Int) (sees strat : List (List Int)) (hats : List Int) (h1 : 1 ≤ q) (h4 : q ≤ 4) (hi0 : 0 ≤ i) (hi : i < strat.length) (hc : Colours q hats) (hr : Below_ hats.length (rd_L2 sees i)) (hl : (rd_L2 sees i).length ≤ 4)
    (ht : (rd_L2 strat i).length = (q ^ (rd_L2 sees i).length).toNat) (d : Nat) : ∀ (k m : Nat), m + d = (rd_L2 sees i).length → d + 8 < k →
    hat_game_guess.l0 k [⟨n, q, sees⟩] strat hats i (ixTo q (rd_L2 sees i) hats m) (rd_L2 sees i) ((rd_L2 sees i).length : Int) m = some (guessP q (rd_L2 sees i) (rd_L2 strat i) hats) := by
  induction d with
  | zero =>
    intro k m hm hk
    obtain ⟨k, rfl⟩ : ∃ m, k = m + 1 := ⟨k - 1, by omega⟩
    have hb := ix_bound q _ _ hc hr h1 m (by omega)
    simp only [hat_game_guess.l0]
    have e : m = (rd_L2 sees i).length := by omega
    have hlt : ixTo q (rd_L2 sees i) hats m < ((rd_L2 strat i).length : Int) := by rw [ht, ← e]; omega
    rw [if_neg (by omega), if_pos hi0, if_pos hi, if_pos hb.1, if_pos hlt, e]; rfl
  | succ d ih =>
    intro k m hm hk
    obtain ⟨k, rfl⟩ : ∃ m, k = m + 1 := ⟨k - 1, by omega⟩
    have hj := hr _ (rd_mem (rd_L2 sees i) m (by omega) (by omega))
    have hx := hc _ (rd_mem hats _ hj.1 hj.2)
    have hb := ix_bound q _ _ hc hr h1 m (by omega)
    have hb1 := ix_bound q _ _ hc hr h1 (m + 1) (by omega)
    have hp := pow_small q (by omega) h4 m (by omega)
    have hp1 := pow_small q (by omega) h4 (m + 1) (by omega)
    simp only [ixTo] at hb1
    have h2 : 0 ≤ rd hats (rd (rd_L2 sees i) m) * q ^ m := Int.mul_nonneg hx.1 hp.1
    have hz : (rd_T103 [(⟨n, q, sees⟩ : S103)] 0).f1 = q := rfl
    simp only [hat_game_guess.l0]
    rw [if_pos (by omega), if_pos (by omega), if_pos (by omega), if_pos hj.1, if_pos hj.2, if_pos (by simp), hz, pow_f q (by omega) h4 m (by omega) k (by omega)]
    simp only [Option.bind_some]
    rw [wrap_in (x := rd hats (rd (rd_L2 sees i) m) * q ^ m) (by omega) (by omega), wrap_in (x := ixTo q (rd_L2 sees i) hats m + _) (by omega) (by omega), wrap_in (x := (m : Int) + 1) (by omega) (by omega)]
    exact ih k (m + 1) (by omega) (by omega)
theorem guess_some (n q i : Int) (sees strat : List (List Int)) (hats : List Int) (h1 : 1 ≤ q) (h4 : q ≤ 4) (hi0 : 0 ≤ i) (his : i < sees.length) (hi : i < strat.length) (hc : Colours q hats) (hr : Below_ hats.length (rd_L2 sees i)) (hl : (rd_L2 sees i).length ≤ 4)
    (ht : (rd_L2 strat i).length = (q ^ (rd_L2 sees i).length).toNat) (k : Nat) (hk : 12 < k) : hat_game_guess.f k [⟨n, q, sees⟩] strat hats i = some (guessP q (rd_L2 sees i) (rd_L2 strat i) hats) := by
  unfold hat_game_guess.f
  have hz : (rd_T103 [(⟨n, q, sees⟩ : S103)] 0).f2 = sees := rfl
  rw [if_pos (by simp), if_pos hi0, hz, if_pos his]
  exact guess_l0 n q i sees strat hats h1 h4 hi0 hi hc hr hl ht (rd_L2 sees i).length k 0 (by omega) (by omega)

/-- The digits of a number, the lowest one first. -/
def digs (q : Int) : Nat → Int → List Int
  | 0, _ => []
  | n + 1, x => x % q :: digs q n (x / q)
theorem digs_len (q : Int) : ∀ (n : Nat) (x : Int), (digs q n x).length = n
  | 0, _ => rfl
  | n + 1, x => by simp [digs, digs_len q n]
theorem digs_mem (q : Int) (h : 1 ≤ q) : ∀ (n : Nat) (x : Int), Colours q (digs q n x)
  | 0, _ => fun c hc => by simp [digs] at hc
  | n + 1, x => fun c hc => by
    simp only [digs, List.mem_cons] at hc
    rcases hc with rfl | hc
    · exact ⟨Int.emod_nonneg _ (by omega), Int.emod_lt_of_pos _ (by omega)⟩
    · exact digs_mem q h n _ c hc
theorem digits_l0 (q : Int) (hq : 1 ≤ q) (n : Nat) (hn : n ≤ 1000000) (d : Nat) : ∀ (k i : Nat) (x : Int) (p : List Int), 0 ≤ x → x ≤ 9223372036854775807 → i + d = n → p.length = i → d < k →
    hat_digits.l0 k x q (p ++ List.replicate d 0) n i = some (p ++ digs q d x) := by
  induction d with
  | zero =>
    intro k i x p hx hx2 hi hp hk
    obtain ⟨k, rfl⟩ : ∃ m, k = m + 1 := ⟨k - 1, by omega⟩
    simp only [hat_digits.l0]
    rw [if_neg (by omega)]; rfl
  | succ d ih =>
    intro k i x p hx hx2 hi hp hk
    obtain ⟨k, rfl⟩ : ∃ m, k = m + 1 := ⟨k - 1, by omega⟩
    simp only [hat_digits.l0]
    have hm : Int.tmod x q = x % q := Int.tmod_eq_emod_of_nonneg hx
    have hd : Int.tdiv x q = x / q := Int.tdiv_eq_ediv_of_nonneg hx
    have h1 : 0 ≤ x / q := Int.ediv_nonneg hx (by omega)
    have h2 : x / q ≤ x := Int.ediv_le_self _ hx
    have hs : (p ++ List.replicate (d + 1) (0 : Int)).set i (x % q) = (p ++ [x % q]) ++ List.replicate d 0 := by
      rw [List.set_append_right _ _ (by omega), show i - p.length = 0 by omega, List.replicate_succ, List.set_cons_zero, List.append_assoc]; rfl
    rw [if_pos (by omega), if_neg (by omega), if_pos (by omega), if_pos (by simp; omega), hm, hd, wrap_in (x := x / q) (by omega) (by omega), wrap_in (x := (i : Int) + 1) (by omega) (by omega), Int.toNat_natCast, hs]
    rw [show ((i : Int) + 1) = ((i + 1 : Nat) : Int) from rfl, ih k (i + 1) (x / q) (p ++ [x % q]) h1 (by omega) (by omega) (by simp; omega) (by omega)]
    rw [List.append_assoc]; rfl
theorem digits_f (q : Int) (hq : 1 ≤ q) (n : Nat) (hn : n ≤ 1000000) (x : Int) (hx : 0 ≤ x) (hx2 : x ≤ 9223372036854775807) (k : Nat) (hk : n < k) : hat_digits.f k x q n = some (digs q n x) := by
  unfold hat_digits.f
  rw [if_pos (by omega), if_pos (by omega)]
  simp only [Option.bind_some, Int.toNat_natCast, List.length_replicate]
  have := digits_l0 q hq n hn n k 0 x [] hx hx2 (by omega) rfl hk
  simpa using this

/-- Reversal of a short list. -/
theorem rev_f (l : List Int) (h : l.length ≤ 4) (k : Nat) (hk : 4 < k) : slices_Reverse_int_int.f k l = some l.reverse := by
  obtain ⟨k, rfl⟩ : ∃ m, k = m + 5 := ⟨k - 5, by omega⟩
  match l, h with
  | [], _ => simp [slices_Reverse_int_int.f, slices_Reverse_int_int.l0, rd, wrap64]
  | [a], _ => simp [slices_Reverse_int_int.f, slices_Reverse_int_int.l0, rd, wrap64]
  | [a, b], _ => simp [slices_Reverse_int_int.f, slices_Reverse_int_int.l0, rd, wrap64]
  | [a, b, c], _ => simp [slices_Reverse_int_int.f, slices_Reverse_int_int.l0, rd, wrap64]
  | [a, b, c, d], _ => simp [slices_Reverse_int_int.f, slices_Reverse_int_int.l0, rd, wrap64]

/-- All hats, in lexicographic order. -/
def allHats (n : Nat) (q : Int) : List (List Int) := (List.range (q ^ n).toNat).map fun x : Nat => (digs q n x).reverse
def allTo (n : Nat) (q : Int) (m : Nat) : List (List Int) := (List.range m).map fun x : Nat => (digs q n x).reverse
theorem allTo_succ (n : Nat) (q : Int) (m : Nat) : allTo n q (m + 1) = allTo n q m ++ [(digs q n m).reverse] := by
  unfold allTo; rw [List.range_succ, List.map_append]; rfl
theorem all_l0 (n : Nat) (hn : n ≤ 4) (q : Int) (h1 : 1 ≤ q) (h4 : q ≤ 4) (sees : List (List Int)) (N : Nat) (hN : N ≤ 65536) (d : Nat) : ∀ (k m : Nat), m + d = N → d + 8 < k →
    hat_game_all.l0 k [⟨n, q, sees⟩] (allTo n q m) N m = some (allTo n q N) := by
  induction d with
  | zero =>
    intro k m hm hk
    obtain ⟨k, rfl⟩ : ∃ m, k = m + 1 := ⟨k - 1, by omega⟩
    simp only [hat_game_all.l0]
    rw [if_neg (by omega), show m = N by omega]
  | succ d ih =>
    intro k m hm hk
    obtain ⟨k, rfl⟩ : ∃ m, k = m + 1 := ⟨k - 1, by omega⟩
    have hz1 : (rd_T103 [(⟨n, q, sees⟩ : S103)] 0).f1 = q := rfl
    have hz0 : (rd_T103 [(⟨n, q, sees⟩ : S103)] 0).f0 = n := rfl
    simp only [hat_game_all.l0]
    rw [if_pos (by omega), if_pos (by simp), hz1, hz0, digits_f q h1 n (by omega) m (by omega) (by omega) k (by omega)]
    simp only [Option.bind_some]
    rw [rev_f _ (by rw [digs_len]; exact hn) k (by omega)]
    simp only [Option.bind_some]
    rw [if_pos (by unfold allTo; simp; omega), ← allTo_succ, wrap_in (x := (m : Int) + 1) (by omega) (by omega)]
    exact ih k (m + 1) (by omega) (by omega)
theorem all_some (n : Nat) (hn : n ≤ 4) (q : Int) (h1 : 1 ≤ q) (h4 : q ≤ 4) (sees : List (List Int)) : ∃ k, hat_game_all.f k [⟨n, q, sees⟩] = some (allHats n q) := by
  have hp := pow_small q (by omega) h4 n (by omega)
  refine ⟨(q ^ n).toNat + 20, ?_⟩
  unfold hat_game_all.f
  have hz1 : (rd_T103 [(⟨n, q, sees⟩ : S103)] 0).f1 = q := rfl
  have hz0 : (rd_T103 [(⟨n, q, sees⟩ : S103)] 0).f0 = n := rfl
  rw [if_pos (by simp), hz1, hz0, pow_f q (by omega) h4 n (by omega) _ (by omega)]
  simp only [Option.bind_some]
  have := all_l0 n hn q h1 h4 sees (q ^ n).toNat (by omega) (q ^ n).toNat ((q ^ n).toNat + 20) 0 (by omega) (by omega)
  rw [Int.toNat_of_nonneg hp.1] at this
  exact this

end Go.Proofs.Ytgjmfehdjbepiaa.P
