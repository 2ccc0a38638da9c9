/- A word that the print of TrackFitch's walk names. -/
import Derived.Test.YtcphmeeighhdjaaGS
namespace Go.Proofs.Ytcphmeeighhdjaa.P
open Go Go.RowKit Go.Proofs.YtcphmeeighhdjaaW.PrintWords
theorem Kd.S_elderB {α : Type} {d : Kd α} {e : Nat} {w : World} {base : Nat} {ok : Nat → Prop} {v : Value} {xs : List α} (h : Kd.S d e w base ok v xs) (g : Nat) (hg : w.heap.size ≤ g) : Kd.S d e w base (fun k => ok k ∧ k ≠ g) v xs :=
  Kd.S_mono (Kd.S_bound h) (fun k hk => ⟨hk.1, by have := hk.2.2.1; omega⟩)
theorem Kd.S_far {α : Type} {d : Kd α} {e : Nat} {w : World} {base : Nat} {ok : Nat → Prop} {v : Value} {xs : List α} (h : Kd.S d e w base ok v xs) {p : Addr} (hok : ∀ k, ok k → k ≠ p.block) (u : Value) : Kd.S d e (w.setCell p u) base ok v xs :=
  Kd.S_step h (fun k ho _ => Below.heap_setCell w p u k (hok k ho))
theorem Kd.S_types {α : Type} {d : Kd α} {e : Nat} {w : World} {base : Nat} {ok : Nat → Prop} {v : Value} {xs : List α} (h : Kd.S d e w base ok v xs) {g t : Nat} {cells : Array Value} (hb : w.heap[g]? = some (.cells cells t (0, 0))) (ht : ∀ q, q ∈ e :: d.E → q ≠ t) : Kd.S d e w base (fun k => ok k ∧ k ≠ g) v xs := by
  obtain ⟨f, h⟩ := h
  exact ⟨f, Kd.R_types h hb ht⟩
theorem blk_far {w : World} {g : Nat} {t : TypeId} {cs : Array Value} (h : w.heap[g]? = some (.cells cs t (0, 0))) {p : Addr} (hp : g ≠ p.block) (u : Value) : (w.setCell p u).heap[g]? = some (.cells cs t (0, 0)) :=
  (Below.heap_setCell w p u g hp).trans h
end Go.Proofs.Ytcphmeeighhdjaa.P
