/- What the listed package variable gives: the cells of beacon's `none`. -/
import Derived.Test.YtbeimdngghedjaaDoorRows
import Derived.Test.YtbeimdngghedjaaDoorBZ
import Derived.ProofKit
import Derived.LaidMore
import Derived.OpenShut
import Derived.Stop.Joined
import Derived.ChangeArms
namespace Go.Proofs.YtbeimdngghedjaaDoor
open Go.ChangeShapes Go.WideShapes Go.ChangeAt Go.WideMaps Go.WideElems Go.RowKit
theorem two_of {α : Type} {l : List α} (h : l.length = 2) : ∃ c d, l = [c, d] := by
  cases l with
  | nil => simp at h
  | cons c l =>
    cases l with
    | nil => simp at h
    | cons d l =>
      cases l with
      | nil => exact ⟨c, d, rfl⟩
      | cons e l => simp at h
theorem gNone : Tryd.prog.globalNamed "woggle/beacon.none" = some 0 := by kernel_rfl
theorem tNone : (Tryd.prog.globals[0]?).map (·.type) = some 47 := by kernel_rfl
abbrev laidList : List (String × DataW Unit) := [("woggle/beacon.none", Rows.laid_woggle_beacon_none)]
theorem door_of {W : World} (h : laidMetH Tryd.prog laidList W) : P.Door W := by
  rw [MakeChecks.laidMetH_plain _ _ _ (by kernel_rfl)] at h
  obtain ⟨ps, ⟨g0, t0, cs0, f0, p0, q0, hg0, ht0, hv0, hd0, _, _⟩, _, _⟩ := h
  obtain rfl := Option.some.inj (gNone.symm.trans hg0)
  obtain rfl := Option.some.inj (tNone.symm.trans ht0)
  obtain ⟨xs, m, rfl, hx, hlen, hn, hel⟩ := DataW.trod_struct Tryd.underlying47 hd0
  have c3 : Tryd.prog.cellsOf 3 = 1 := by kernel_rfl
  have c47 : Tryd.prog.cellsOf 47 = 2 := by kernel_rfl
  have e0 := hel 0 _ rfl
  have e1 := hel 1 _ rfl
  simp only [Prod.mk.injEq, Rows.laid_woggle_beacon_none, DataW.agg.injEq] at hx
  match xs, hn, hx, e0, e1 with
  | [x0, x1], _, hx, e0, e1 =>
    simp only [List.map_cons, List.map_nil, List.cons.injEq] at hx
    obtain ⟨k0, a1, a2, _⟩ := DataW.trod_int Tryd.underlying3 (show DataW.trod _ Tryd.prog W 0 _ false m 3 _ = some x0 from e0)
    obtain ⟨k1, b1, b2, _⟩ := DataW.trod_int Tryd.underlying3 (show DataW.trod _ Tryd.prog W 0 _ false m 3 _ = some x1 from e1)
    have hk0 : k0 = -1 := by rw [a2] at hx; simpa using hx.1.1.symm
    have hk1 : k1 = -1 := by rw [b2] at hx; simpa using hx.1.2.1.symm
    subst hk0
    subst hk1
    have v0 := World.var?_cell hg0 hv0 0
    have v1 := World.var?_cell hg0 hv0 1
    obtain ⟨l1⟩ := cs0
    rw [c47] at hlen
    replace a1 : (l1.drop 0).take (Tryd.prog.cellsOf 3) = [.int .i64 (-1)] := a1
    replace b1 : (l1.drop 1).take (Tryd.prog.cellsOf 3) = [.int .i64 (-1)] := b1
    rw [c3] at a1 b1
    have hl2 : l1.length = 2 := hlen
    obtain ⟨c, d, rfl⟩ := two_of hl2
    clear hv0 hd0 hel hlen e0 e1
    simp only [List.drop_zero, List.take_succ_cons, List.take_zero, List.drop_succ_cons, List.cons.injEq, and_true] at a1 b1
    subst a1
    subst b1
    exact ⟨by simpa using v0, by simpa using v1⟩
/-- The door's own heap meets the condition. -/
theorem door_met (os : Os) (args : Array Value) : laidMetH Tryd.prog laidList ((World.doorLaid Tryd.prog 400 os).forCall (fun _ _ => 0) ⟨#[], args, []⟩).memory :=
  laidMetH_of_parts3 (fuel := 8) (laidMet_of_run' 8 (by kernel_rfl) (by kernel_rfl)) (by kernel_rfl) (by kernel_rfl)
end Go.Proofs.YtbeimdngghedjaaDoor
