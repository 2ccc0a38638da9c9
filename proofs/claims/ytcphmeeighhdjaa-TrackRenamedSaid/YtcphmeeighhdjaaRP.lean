/- Plain facts: Cost of valid arguments; costs out of arbitrary numbers. -/
import Derived.Test.YtcphmeeighhdjaaGK
import Derived.Test.YtcphmeeighhdjaaRN
import Derived.Test.YtcphmeeighhdjaaRB
namespace Go.Proofs.Ytcphmeeighhdjaa.Pure
open Go Go.Proofs Go.RowKit Go.Proofs.Ytcphmeeighhdjaa.P Go.Proofs.YtcphmeeighhdjaaW.PrintWords Go.Proofs.YtcphmeeighhdjaaW.PrintLast
set_option linter.unusedVariables false

section
variable {n : Nat} {J : List S67} {C : List (List Int)} {L : List Int}
theorem sum_is (ht : TreeOk n J) (hc : CostsOk C) (hs : StatesOk n C.length L) (F : List Int) (hF : StatesOk J.length C.length F) : sumTo (J.length + 1) J C (L ++ F) J.length = totalOf n J C L (xOf F) := by
  have hn8 := ht.2.1
  have hn2 := ht.1
  have hJ := ht.2.2.1
  have hl : F.length = J.length := by have := hF.2; omega
  have hFr : ∀ i, i < J.length → 0 ≤ rd F i ∧ rd F i < C.length := by
    intro i hi
    rw [rd_nat F i (by omega)]
    exact hF.1 _ (List.getElem_mem _)
  have hn : J.length + 1 = n := by omega
  unfold totalOf
  have key : ∀ m, m ≤ J.length → sumTo (J.length + 1) J C (L ++ F) m = TT.total n (aOf J) (bOf J) (cOf C) (lOf L) (xOf F) m := by
    intro m
    induction m with
    | zero => intro _; rfl
    | succ m ih =>
      intro hm
      have ih := ih (by omega)
      obtain ⟨⟨a0, a1, _⟩, b0, b1, _⟩ := ht.2.2.2 m (by omega)
      have ea : (rd_T67 J m).f0 = ((aOf J m : Nat) : Int) := by unfold aOf; omega
      have eb : (rd_T67 J m).f1 = ((bOf J m : Nat) : Int) := by unfold bOf; omega
      have la : aOf J m < n + J.length := by omega
      have lb : bOf J m < n + J.length := by omega
      obtain ⟨ra, sa⟩ := all_rd hs F hl hFr (aOf J m) la
      obtain ⟨rb, sb⟩ := all_rd hs F hl hFr (bOf J m) lb
      obtain ⟨rx, sx⟩ := all_rd hs F hl hFr (n + m) (by omega)
      have ex : TT.st n (lOf L) (xOf F) (n + m) = xOf F m := by unfold TT.st; rw [if_neg (by omega), Nat.add_sub_cancel_left]
      rw [ex] at rx sx
      have bd := total_bd ht hc hs F hl hFr m (by omega)
      have c1 := costs_of hc _ _ sx sa
      have c2 := costs_of hc _ _ sx sb
      have W1 := wsum (TT.total n (aOf J) (bOf J) (cOf C) (lOf L) (xOf F) m) _ _ (show 0 ≤ TT.total n (aOf J) (bOf J) (cOf C) (lOf L) (xOf F) m ∧ TT.total n (aOf J) (bOf J) (cOf C) (lOf L) (xOf F) m ≤ 100000 by omega) c1 c2
      simp only [sumTo]
      rw [ih, hn, rx, ea, eb, ra, rb]
      exact W1
  exact key _ (Nat.le_refl _)
theorem Cost_ev (ht : TreeOk n J) (hc : CostsOk C) (hs : StatesOk n C.length L) (F : List Int) (hF : StatesOk J.length C.length F) : Ev (fun k => track_Cost.f k n J C L F) (totalOf n J C L (xOf F), 0) := by
  have hJ : J.length ≤ 99 := by have := ht.2.2.1; have := ht.2.1; omega
  have h := read_ev n J C L hJ
  rw [errOf_0 ht hc hs] at h
  unfold track_Cost.f
  refine Ev.bind h (ev_val ?_)
  rw [if_pos rfl, states_f, @decide_eq_true _ (_) hF, sum_is ht hc hs F hF]
  rfl
theorem Cost_ev2 (ht : TreeOk n J) (hc : CostsOk C) (hs : StatesOk n C.length L) (F : List Int) (hF : ¬ StatesOk J.length C.length F) : Ev (fun k => track_Cost.f k n J C L F) (0, 2) := by
  have hJ : J.length ≤ 99 := by have := ht.2.2.1; have := ht.2.1; omega
  have h := read_ev n J C L hJ
  rw [errOf_0 ht hc hs] at h
  unfold track_Cost.f
  refine Ev.bind h (ev_val ?_)
  rw [if_pos rfl, states_f, @decide_eq_false _ (_) hF]
  rfl
end
theorem Cost_bad {n : Int} {J : List S67} {C : List (List Int)} {L F : List Int} (hJ : J.length ≤ 99) (h : errOf n J C L ≠ 0) : Ev (fun k => track_Cost.f k n J C L F) (0, errOf n J C L) := by
  unfold track_Cost.f
  exact Ev.bind (read_ev n J C L hJ) (ev_val (if_neg h))
end Go.Proofs.Ytcphmeeighhdjaa.Pure
