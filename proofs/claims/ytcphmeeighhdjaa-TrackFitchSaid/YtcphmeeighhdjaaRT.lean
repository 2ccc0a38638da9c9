/- Small tools for plain laws: rounds that are enough, loops that count up. -/
import Derived.Test.YtcphmeeighhdjaaPK
import Derived.OpenShut
import Derived.IntWalk
namespace Go.Proofs.Ytcphmeeighhdjaa.Pure
open Go Go.Proofs Go.RowKit Go.Proofs.Ytcphmeeighhdjaa.P Go.Proofs.YtcphmeeighhdjaaW.PrintWords Go.Proofs.YtcphmeeighhdjaaW.PrintLast

theorem ev_pos {α : Type} {g f : Nat → Option α} {c : Prop} [Decidable c] {r : α} (hc : c) (h : Ev g r) : Ev (fun k => if c then g k else f k) r := Ev.congr (fun _ => if_pos hc) h
theorem ev_neg {α : Type} {g f : Nat → Option α} {c : Prop} [Decidable c] {r : α} (hc : ¬ c) (h : Ev f r) : Ev (fun k => if c then g k else f k) r := Ev.congr (fun _ => if_neg hc) h
theorem ev_val {α : Type} {x : Option α} {r : α} (h : x = some r) : Ev (fun _ => x) r := ⟨0, fun _ _ => h⟩
theorem ev_from {α : Type} {g : Nat → Option α} {r : α} (K : Nat) (h : ∀ k, K < k → g k = some r) : Ev g r := ⟨K + 1, fun k hk => h k hk⟩
theorem ev_call {α β : Type} {x : Option α} {a : α} {f : Nat → α → Option β} {r : β} (hx : x = some a) (h : Ev (fun k => f k a) r) : Ev (fun k => x.bind (f k)) r := by
  subst hx; exact h
theorem ev_eq {α : Type} {g : Nat → Option α} {r r' : α} (h : Ev g r) (e : r = r') : Ev g r' := e ▸ h
theorem ev_some {α : Type} {g : Nat → Option α} {r r' : α} (h : Ev g r) (h' : Ev g r') : r = r' := by
  obtain ⟨K, h⟩ := h
  obtain ⟨K', h'⟩ := h'
  have a := h (max K K') (Nat.le_max_left _ _)
  have b := h' (max K K') (Nat.le_max_right _ _)
  rw [a] at b
  exact Option.some.inj b
/-- A loop that counts up. -/
theorem up_ind (P : Nat → Prop) (n : Nat) (he : P n) (hs : ∀ i, i < n → P (i + 1) → P i) : P 0 := by
  have h : ∀ d i, i + d = n → P i := by
    intro d
    induction d with
    | zero => intro i h; rw [show i = n from h]; exact he
    | succ d ih => intro i h; exact hs i (by omega) (ih (i + 1) (by omega))
  exact h n 0 (by omega)
theorem up_from (P : Nat → Prop) (m n : Nat) (hm : m ≤ n) (he : P n) (hs : ∀ i, m ≤ i → i < n → P (i + 1) → P i) : P m := by
  have h : ∀ d i, m ≤ i → i + d = n → P i := by
    intro d
    induction d with
    | zero => intro i _ h; rw [show i = n from h]; exact he
    | succ d ih => intro i hi h; exact hs i hi (by omega) (ih (i + 1) (by omega) (by omega))
  exact h (n - m) m (Nat.le_refl _) (by omega)
theorem succ_w (i : Nat) (h : i ≤ 4611686018427387904) : wrap64 ((i : Int) + 1) = ((i + 1 : Nat) : Int) := by rw [IntWalk.wrap64_in _ (by omega)]; rfl
theorem pred_w (i : Nat) (h : i ≤ 4611686018427387904) : wrap64 (((i + 1 : Nat) : Int) - 1) = (i : Int) := by rw [IntWalk.wrap64_in _ (by omega)]; omega
theorem rd_nat (l : List Int) (i : Nat) (h : i < l.length) : rd l i = l[i] := by
  unfold rd; rw [Int.toNat_natCast, List.getD_eq_getElem?_getD, List.getElem?_eq_getElem h]; rfl
theorem cut_take {α : Type} (l : List α) (c : Int) (hc : 0 ≤ c) : l.take (mn (l.length : Int) c).toNat = l.take c.toNat := by
  unfold mn
  by_cases h : c < (l.length : Int)
  · rw [if_pos h]
  · rw [if_neg h, Int.toNat_natCast, List.take_length, List.take_of_length_le (by omega)]
theorem mn_cut (n : Nat) (c : Int) (hc : 0 ≤ c) : 0 ≤ mn (n : Int) c ∧ mn (n : Int) c ≤ (n : Int) := by unfold mn; split <;> omega
theorem take_up {α : Type} (l : List α) (i : Nat) (h : i < l.length) : l.take (i + 1) = l.take i ++ [l[i]] := by rw [List.take_append_getElem h]
theorem range_succ_map {α : Type} (f : Nat → α) (i : Nat) : (List.range (i + 1)).map f = (List.range i).map f ++ [f i] := by rw [List.range_succ, List.map_append]; rfl

end Go.Proofs.Ytcphmeeighhdjaa.Pure
