/- QueueSame: the walk. -/
import Derived.Test.YtjjnglngldfglaaQZ8
import Derived.Test.YtjjnglngldfglaaRD
namespace Go.Proofs.Ytjjnglngldfglaa.P
set_option linter.unusedVariables false
open Go Go.RowKit Go.Proofs.YtjjnglngldfglaaW.PrintWords Go.Proofs.YtjjnglngldfglaaW.PrintLast Go.Proofs.YtjjnglngldfglaaW.PrintMore
attribute [local go_sem] max2_int max_two

theorem fold_fst (l : List Int) (sh : Sh) (m j : Int) : (l.foldl advR (sh, m)).1 = (l.foldl advR (sh, j)).1 := by
  induction l generalizing sh m j with
  | nil => rfl
  | cons x l ih => exact ih _ _ _
theorem fold_ge (l : List Int) (sh : Sh) (m : Int) : m ≤ (l.foldl advR (sh, m)).2 := by
  induction l generalizing sh m with
  | nil => exact Int.le_refl _
  | cons x l ih =>
    refine Int.le_trans ?_ (ih (adv sh x.toNat) (advR (sh, m) x).2)
    simp only [advR]
    split <;> omega
def mxI (a b : Int) : Int := if a < b then b else a
theorem fold_max (l : List Int) (sh : Sh) (m j : Int) (h : j ≤ m) : (l.foldl advR (sh, m)).2 = mxI m (l.foldl advR (sh, j)).2 := by
  induction l generalizing sh m j with
  | nil => show m = mxI m j; unfold mxI; rw [if_neg (by omega)]
  | cons x l ih =>
    have hj := fold_ge l (adv sh x.toNat) (mxI j ((insL (adv sh x.toNat)).length : Int))
    have e := ih (adv sh x.toNat) (mxI m ((insL (adv sh x.toNat)).length : Int)) (mxI j ((insL (adv sh x.toNat)).length : Int)) (by unfold mxI; split <;> split <;> omega)
    have hk : ((insL (adv sh x.toNat)).length : Int) ≤ mxI j ((insL (adv sh x.toNat)).length : Int) := by unfold mxI; split <;> omega
    show (l.foldl advR (adv sh x.toNat, mxI m ((insL (adv sh x.toNat)).length : Int))).2 = mxI m (l.foldl advR (adv sh x.toNat, mxI j ((insL (adv sh x.toNat)).length : Int))).2
    rw [e]
    generalize (l.foldl advR (adv sh x.toNat, mxI j ((insL (adv sh x.toNat)).length : Int))).2 = f at *
    generalize ((insL (adv sh x.toNat)).length : Int) = q at *
    generalize mxI j q = z at *
    unfold mxI
    split <;> split <;> (try split) <;> omega
theorem runS_last' (sh : Sh) (l : List Int) : ((insL (runS sh l).1).length : Int) ≤ (runS sh l).2 := by
  induction l using snoc_ind with
  | h0 => exact Int.le_refl _
  | h1 l x ih =>
    rw [runS_snoc]
    simp only [advR]
    split <;> omega
theorem runS_split (sh : Sh) (l : List Int) (c : Nat) : (runS sh l).1 = (runS (runS sh (l.take c)).1 (l.drop c)).1 ∧ (runS sh l).2 = mxI (runS sh (l.take c)).2 (runS (runS sh (l.take c)).1 (l.drop c)).2 := by
  have e : runS sh l = (l.drop c).foldl advR (runS sh (l.take c)) := by
    unfold runS
    rw [← List.foldl_append, List.take_append_drop]
  have h := runS_last' sh (l.take c)
  rw [e]
  generalize runS sh (l.take c) = r at *
  obtain ⟨s, m⟩ := r
  exact ⟨fold_fst _ _ _ _, fold_max _ _ _ _ h⟩
theorem before_same (l : List Int) (hl : l.length ≤ 4) : woggleref01_Before.f 20 l l = some false := by
  obtain rfl | ⟨a, rfl⟩ | ⟨a, b, rfl⟩ | ⟨a, b, c, rfl⟩ | ⟨a, b, c, d, rfl⟩ : l = [] ∨ (∃ a, l = [a]) ∨ (∃ a b, l = [a, b]) ∨ (∃ a b c, l = [a, b, c]) ∨ (∃ a b c d, l = [a, b, c, d]) := by
    match l, hl with
    | [], _ => exact .inl rfl
    | [a], _ => exact .inr (.inl ⟨a, rfl⟩)
    | [a, b], _ => exact .inr (.inr (.inl ⟨a, b, rfl⟩))
    | [a, b, c], _ => exact .inr (.inr (.inr (.inl ⟨a, b, c, rfl⟩)))
    | [a, b, c, d], _ => exact .inr (.inr (.inr (.inr ⟨a, b, c, d, rfl⟩)))
    | _ :: _ :: _ :: _ :: _ :: _, h => simp at h
  all_goals simp [woggleref01_Before.f, woggleref01_Before.l0, woggleref01_Before.j1, rd, wrap64]
theorem same_same (l : List Int) (hl : l.length ≤ 4) : woggleref01_Same.f 20 l l = some true := by
  unfold woggleref01_Same.f
  simp [before_same l hl]
theorem R_mv {W W1 : World} {b g gs base : Nat} {sh : Sh} {v : Value} {l : List Int} (h : Shp W b g gs sh) (hr : Kd.R (Kd.int .i64) 3 W base (fun _ => True) v l) (m : Moved W W1 b g gs) : Kd.R (Kd.int .i64) 3 W1 base (fun _ => True) v l := by
  obtain ⟨rest, h0⟩ := h.hs
  have h1 := Kd.R_types (Kd.R_types hr h.hg (by decide)) h0 (by decide)
  exact Kd.R_mono (Kd.R_step h1 (fun k hk hlt => m.keep k hlt hk.1.2 hk.2)) (fun _ _ => trivial)
theorem C_take {w : World} {A : Option Addr} {l : List Int} (h : Kd.C (Kd.int .i64) w A l.length l) (c : Nat) (hc : c ≤ l.length) : Kd.C (Kd.int .i64) w A (l.take c).length (l.take c) := by
  obtain ⟨h1, h2, h3⟩ := h
  have hl : (l.take c).length = c := by rw [List.length_take]; omega
  refine ⟨rfl, by omega, fun hp => ?_⟩
  obtain ⟨ad, e, hx⟩ := h3 (by omega)
  refine ⟨ad, e, fun j p hj => hx j p ?_⟩
  have := (List.getElem?_eq_some_iff.1 hj).1
  rw [List.getElem?_take, if_pos (by omega)] at hj
  exact hj
theorem C_drop {w : World} {A : Option Addr} {l : List Int} (h : Kd.C (Kd.int .i64) w A l.length l) (c : Nat) (hc : c < l.length) (ad : Addr) (he : A = some ad) : Kd.C (Kd.int .i64) w (some (ad.add c)) (l.drop c).length (l.drop c) := by
  obtain ⟨h1, h2, h3⟩ := h
  refine ⟨rfl, by rw [List.length_drop]; omega, fun hp => ?_⟩
  obtain ⟨ad', e, hx⟩ := h3 (by omega)
  obtain rfl : ad = ad' := by rw [he] at e; exact Option.some.inj e
  refine ⟨_, rfl, fun j p hj => ?_⟩
  rw [List.getElem?_drop] at hj
  obtain ⟨cc, q1, q2, q3⟩ := hx (c + j) p hj
  refine ⟨cc, q1, q2, fun i u hu => ?_⟩
  have := q3 i u hu
  have e2 : (Kd.int IntKind.i64).sz = 1 := rfl
  rw [e2] at this ⊢
  rw [add_add']
  rw [show (c + j) * 1 + i = c + (j * 1 + i) by omega] at this
  exact this
theorem C_nil (w : World) (A : Option Addr) : Kd.C (Kd.int .i64) w A ([] : List Int).length [] := ⟨rfl, by simp, fun h => absurd h (by simp)⟩
def slL (k : Nat) (x : List Int) : List Int := (x.take 200).map (fun v => v % (k : Int))
theorem slL_err (k : Nat) (c : Bool) (x : List Int) (hk : 1 ≤ k) (i : Int) (hi : i ∈ slL k x) : errI (newSh k c) i = 0 := by
  unfold slL at hi
  obtain ⟨v, _, rfl⟩ := List.mem_map.1 hi
  have e : (newSh k c).sc.length = k := by simp [newSh]
  have h0 := Int.emod_nonneg v (show (k : Int) ≠ 0 by omega)
  have h1 := Int.emod_lt_of_pos v (show (0 : Int) < k by omega)
  rw [errI_of _ k e, if_neg (by omega), if_neg (by omega)]
end Go.Proofs.Ytjjnglngldfglaa.P
