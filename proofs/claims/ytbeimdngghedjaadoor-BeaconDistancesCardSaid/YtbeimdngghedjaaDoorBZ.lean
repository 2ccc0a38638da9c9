/- What the package variable `none` holds, kept while nothing writes it. -/
import Derived.Test.YtbeimdngghedjaaDoorPK
namespace Go.Proofs.YtbeimdngghedjaaDoor.P
open Go Go.RowKit Go.Proofs.YtbeimdngghedjaaDoorW.PrintWords Go.Proofs.YtbeimdngghedjaaDoorW.PrintLast Go.Proofs.YtbeimdngghedjaaDoorW.PrintMore
structure Door (W : World) : Prop where
  c0 : W.cell? ⟨0, 0, none⟩ = some (.int .i64 (-1))
  c1 : W.cell? ⟨0, 1, none⟩ = some (.int .i64 (-1))
theorem Door.below {w W : World} (h : Door w) (hb : Below w.heap.size w W) : Door W :=
  ⟨(hb.cell (World.block_lt_of_cell? _ _ h.c0)).trans h.c0, (hb.cell (World.block_lt_of_cell? _ _ h.c1)).trans h.c1⟩
theorem Door.alloc {W : World} (h : Door W) (o : Obj) : Door (W.alloc o) := h.below (below_alloc (Below.refl _ _) o)
theorem Door.drew {W : World} (h : Door W) : Door W.drew := ⟨h.c0, h.c1⟩
theorem Door.drewN {W : World} (h : Door W) (n : Nat) : Door (W.drewN n) := ⟨h.c0, h.c1⟩
end Go.Proofs.YtbeimdngghedjaaDoor.P
