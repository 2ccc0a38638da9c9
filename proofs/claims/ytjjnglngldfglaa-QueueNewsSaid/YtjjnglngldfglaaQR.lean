/- The contract of Step at read. -/
import Derived.Test.YtjjnglngldfglaaQH
namespace Go.Proofs.Ytjjnglngldfglaa.P
set_option linter.unusedVariables false
open Go Go.RowKit Go.Proofs.YtjjnglngldfglaaW.PrintWords Go.Proofs.YtjjnglngldfglaaW.PrintLast Go.Proofs.YtjjnglngldfglaaW.PrintMore

set_option maxRecDepth 100000 in
set_option maxHeartbeats 8000000 in
theorem step_read_more (W : World) (b g gs : Nat) (sh : Sh) (h : Shp W b g gs sh) (k : Nat) (hk : k < sh.sc.length) (j : Nat) (seen : Int) (hj : j + 1 < sh.sc.length) (hs : (scAt sh k).st = .read j seen) (hb : b ≤ W.heap.size) : Calls Try.prog 19 #[.pointer (some ⟨g, 0, none⟩), .int .i64 k] W fun e w' => e = .returned (.tuple #[.bool true, .int .i64 0]) ∧ Shp w' b g gs (upd sh k (scAt sh k).ch (scAt sh k).no (.read ((j : Int) + 1) (if seen < (scAt sh j).no then (scAt sh j).no else seen))) ∧ Moved W w' b g gs := by
  have hc := Aside0.mk (check_calls W b g gs sh h k)
  have c : errI sh k = 0 := by unfold errI; rw [if_neg (by omega), if_neg (by omega)]
  have c0 := h.c0
  obtain ⟨x0, x1, x2⟩ := h.at_ k hk
  have p1 : decide (k < sh.sc.length) = true := decide_eq_true hk
  have p2 : ((k : Int) < (sh.sc.length : Int)) = True := eq_true (by omega)
  obtain ⟨w1, hw1⟩ : ∃ w1, W.alloc (.cells #[.int .i64 (j : Int), .int .i64 seen] 83) = w1 := ⟨_, rfl⟩
  obtain ⟨gt, hgt⟩ : ∃ gt, W.heap.size = gt := ⟨_, rfl⟩
  have hb1 : Below W.heap.size W w1 := by rw [← hw1]; exact below_alloc (Below.refl _ _) _
  have h1 := h.below hb1
  have d0 := h1.c0
  have d1 := h1.c1
  have d2 := h1.c2
  have q0 : w1.cell? ⟨gt, 0, none⟩ = some (.int .i64 (j : Int)) := by rw [← hw1, ← hgt]; simp
  obtain ⟨y0, y1, y2⟩ := h1.at_ k hk
  have f2 := (h1.fz (k * 3 + 2)).2
  have f3 := (h1.fz 2).1
  have q1 : w1.cell? ⟨gt, 1, none⟩ = some (.int .i64 seen) := by rw [← hw1, ← hgt]; simp
  have q2 : w1.frozen? ⟨gt, 1, none⟩ = false := by rw [← hw1, ← hgt]; simp
  have q3 : w1.frozen? ⟨gt, 0, none⟩ = false := by rw [← hw1, ← hgt]; simp
  obtain ⟨z0, z1, z2⟩ := h1.at_ j (by omega)
  have j5 : decide (j < sh.sc.length) = true := decide_eq_true (by omega)
  have j6 : ((j : Int) < (sh.sc.length : Int)) = True := eq_true (by omega)
  have few := h.few
  have jw : wrap64 ((j : Int) + 1) = (j : Int) + 1 := by unfold wrap64; omega
  obtain ⟨M, hM⟩ : ∃ M, (if seen < (scAt sh j).no then (scAt sh j).no else seen) = M := ⟨_, rfl⟩
  try rw [hM]
  have jq : ((j : Int) + 1 == (sh.sc.length : Int)) = false := by first | exact beq_iff_eq.2 (by omega) | exact beq_eq_false_iff_ne.2 (by omega)
  have ng1 : (g = gt) = False := eq_false (by have := h.lt; omega)
  have ng2 : (gt = g) = False := eq_false (by have := h.lt; omega)
  have ns1 : (gs = gt) = False := eq_false (by have := h.lts; omega)
  have ns2 : (gt = gs) = False := eq_false (by have := h.lts; omega)
  have HB2 := Aside0.mk (fun v u => ((hb1.setCell (p := ⟨gt, 1, none⟩) (by show _ ≤ gt; omega) v).drew).setCell (p := ⟨gt, 0, none⟩) (by show _ ≤ gt; omega) u)
  have HDS := Aside0.mk (fun w4 (hw4 : Below W.heap.size W w4) => And.intro ((h.below hw4).st2 k hk (.read ((j : Int) + 1) M)) (Moved.of_below (b := b) (g := g) (gs := gs) hw4 hb))
  clear hj z2 few
  have HU := Aside0.mk (And.intro h1 (Moved.refl w1 b g gs))
  have HM := Aside0.mk (Moved.of_below (b := b) (g := g) (gs := gs) hb1 hb)
  rw [c] at hc
  rw [hs] at x2 y2
  replace x2 : W.cell? ⟨gs, k * 3 + 2, none⟩ = some (.iface 83 (.agg #[.int .i64 (j : Int), .int .i64 seen])) := x2
  replace y2 : w1.cell? ⟨gs, k * 3 + 2, none⟩ = some (.iface 83 (.agg #[.int .i64 (j : Int), .int .i64 seen])) := y2
  have t0 := ta_83_80
  have t1 := ta_83_81
  have t2 := ta_83_83
  clear h hk c hb hs hb1 h1
  go_enter Try.func19, Try.ntmps19
  go_wp2_with (fail)
  refine hc.out.mono ?_
  rintro e w' ⟨rfl, rfl⟩
  go_wp2_with (fail)
  go_region
  try rw [hM]
  generalize hw2 : (w1.setCell ⟨gt, 1, none⟩ (Value.int IntKind.i64 M)).drew = w2
  have u1 : w2.cell? ⟨gt, 1, none⟩ = some (.int .i64 M) := by rw [← hw2]; exact World.cell?_setCell_same _ _ _ q1
  have u0 : w2.cell? ⟨gt, 0, none⟩ = some (.int .i64 (j : Int)) := by rw [← hw2]; exact (World.cell?_setCell_other _ _ _ _ (by simp)).trans q0
  have u3 : w2.frozen? ⟨gt, 0, none⟩ = false := by rw [← hw2]; simp [q3]
  have v0 : w2.cell? ⟨gs, k * 3 + 2, none⟩ = some (.iface 83 (.agg #[.int .i64 (j : Int), .int .i64 seen])) := by rw [← hw2]; exact (World.cell?_setCell_other _ _ _ _ (by simp)).trans y2
  have v1 : w2.frozen? ⟨gs, k * 3 + 2, none⟩ = false := by rw [← hw2]; simp [f2]
  have v2 : w2.cell? ⟨g, 0, none⟩ = some (.slice (some ⟨gs, 0, none⟩) sh.sc.length sh.cp) := by rw [← hw2]; exact (World.cell?_setCell_other _ _ _ _ (by simp)).trans d0
  have HB3 := Aside0.mk (fun u => HB2.out (Value.int IntKind.i64 M) u)
  rw [hw2] at HB3
  clear HB2 hw2 q0 q1 q2 q3 y0 y1 y2 d0 d1 d2 f2 f3 z0 z1
  go_wp2
  go_ret2
  exact ⟨rfl, (HDS.out _ (HB3.out _)).1.1, (HDS.out _ (HB3.out _)).2.trans (HDS.out _ (HB3.out _)).1.2⟩
set_option maxRecDepth 100000 in
set_option maxHeartbeats 8000000 in
theorem step_read_last (W : World) (b g gs : Nat) (sh : Sh) (h : Shp W b g gs sh) (k : Nat) (hk : k < sh.sc.length) (j : Nat) (seen : Int) (hj : j + 1 = sh.sc.length) (hs : (scAt sh k).st = .read j seen) (hb : b ≤ W.heap.size) : Calls Try.prog 19 #[.pointer (some ⟨g, 0, none⟩), .int .i64 k] W fun e w' => e = .returned (.tuple #[.bool true, .int .i64 0]) ∧ Shp w' b g gs (upd sh k (scAt sh k).ch (scAt sh k).no (.take (if seen < (scAt sh j).no then (scAt sh j).no else seen))) ∧ Moved W w' b g gs := by
  have hc := Aside0.mk (check_calls W b g gs sh h k)
  have c : errI sh k = 0 := by unfold errI; rw [if_neg (by omega), if_neg (by omega)]
  have c0 := h.c0
  obtain ⟨x0, x1, x2⟩ := h.at_ k hk
  have p1 : decide (k < sh.sc.length) = true := decide_eq_true hk
  have p2 : ((k : Int) < (sh.sc.length : Int)) = True := eq_true (by omega)
  obtain ⟨w1, hw1⟩ : ∃ w1, W.alloc (.cells #[.int .i64 (j : Int), .int .i64 seen] 83) = w1 := ⟨_, rfl⟩
  obtain ⟨gt, hgt⟩ : ∃ gt, W.heap.size = gt := ⟨_, rfl⟩
  have hb1 : Below W.heap.size W w1 := by rw [← hw1]; exact below_alloc (Below.refl _ _) _
  have h1 := h.below hb1
  have d0 := h1.c0
  have d1 := h1.c1
  have d2 := h1.c2
  have q0 : w1.cell? ⟨gt, 0, none⟩ = some (.int .i64 (j : Int)) := by rw [← hw1, ← hgt]; simp
  obtain ⟨y0, y1, y2⟩ := h1.at_ k hk
  have f2 := (h1.fz (k * 3 + 2)).2
  have f3 := (h1.fz 2).1
  have q1 : w1.cell? ⟨gt, 1, none⟩ = some (.int .i64 seen) := by rw [← hw1, ← hgt]; simp
  have q2 : w1.frozen? ⟨gt, 1, none⟩ = false := by rw [← hw1, ← hgt]; simp
  have q3 : w1.frozen? ⟨gt, 0, none⟩ = false := by rw [← hw1, ← hgt]; simp
  obtain ⟨z0, z1, z2⟩ := h1.at_ j (by omega)
  have j5 : decide (j < sh.sc.length) = true := decide_eq_true (by omega)
  have j6 : ((j : Int) < (sh.sc.length : Int)) = True := eq_true (by omega)
  have few := h.few
  have jw : wrap64 ((j : Int) + 1) = (j : Int) + 1 := by unfold wrap64; omega
  obtain ⟨M, hM⟩ : ∃ M, (if seen < (scAt sh j).no then (scAt sh j).no else seen) = M := ⟨_, rfl⟩
  try rw [hM]
  have jq : ((j : Int) + 1 == (sh.sc.length : Int)) = true := by first | exact beq_iff_eq.2 (by omega) | exact beq_eq_false_iff_ne.2 (by omega)
  have ng1 : (g = gt) = False := eq_false (by have := h.lt; omega)
  have ng2 : (gt = g) = False := eq_false (by have := h.lt; omega)
  have ns1 : (gs = gt) = False := eq_false (by have := h.lts; omega)
  have ns2 : (gt = gs) = False := eq_false (by have := h.lts; omega)
  have HB2 := Aside0.mk (fun v u => ((hb1.setCell (p := ⟨gt, 1, none⟩) (by show _ ≤ gt; omega) v).drew).setCell (p := ⟨gt, 0, none⟩) (by show _ ≤ gt; omega) u)
  have HDS := Aside0.mk (fun w4 (hw4 : Below W.heap.size W w4) => And.intro ((h.below hw4).st2 k hk (.take M)) (Moved.of_below (b := b) (g := g) (gs := gs) hw4 hb))
  clear hj z2 few
  have HU := Aside0.mk (And.intro h1 (Moved.refl w1 b g gs))
  have HM := Aside0.mk (Moved.of_below (b := b) (g := g) (gs := gs) hb1 hb)
  rw [c] at hc
  rw [hs] at x2 y2
  replace x2 : W.cell? ⟨gs, k * 3 + 2, none⟩ = some (.iface 83 (.agg #[.int .i64 (j : Int), .int .i64 seen])) := x2
  replace y2 : w1.cell? ⟨gs, k * 3 + 2, none⟩ = some (.iface 83 (.agg #[.int .i64 (j : Int), .int .i64 seen])) := y2
  have t0 := ta_83_80
  have t1 := ta_83_81
  have t2 := ta_83_83
  clear h hk c hb hs hb1 h1
  go_enter Try.func19, Try.ntmps19
  go_wp2_with (fail)
  refine hc.out.mono ?_
  rintro e w' ⟨rfl, rfl⟩
  go_wp2_with (fail)
  go_region
  try rw [hM]
  generalize hw2 : (w1.setCell ⟨gt, 1, none⟩ (Value.int IntKind.i64 M)).drew = w2
  have u1 : w2.cell? ⟨gt, 1, none⟩ = some (.int .i64 M) := by rw [← hw2]; exact World.cell?_setCell_same _ _ _ q1
  have u0 : w2.cell? ⟨gt, 0, none⟩ = some (.int .i64 (j : Int)) := by rw [← hw2]; exact (World.cell?_setCell_other _ _ _ _ (by simp)).trans q0
  have u3 : w2.frozen? ⟨gt, 0, none⟩ = false := by rw [← hw2]; simp [q3]
  have v0 : w2.cell? ⟨gs, k * 3 + 2, none⟩ = some (.iface 83 (.agg #[.int .i64 (j : Int), .int .i64 seen])) := by rw [← hw2]; exact (World.cell?_setCell_other _ _ _ _ (by simp)).trans y2
  have v1 : w2.frozen? ⟨gs, k * 3 + 2, none⟩ = false := by rw [← hw2]; simp [f2]
  have v2 : w2.cell? ⟨g, 0, none⟩ = some (.slice (some ⟨gs, 0, none⟩) sh.sc.length sh.cp) := by rw [← hw2]; exact (World.cell?_setCell_other _ _ _ _ (by simp)).trans d0
  have HB3 := Aside0.mk (fun u => HB2.out (Value.int IntKind.i64 M) u)
  rw [hw2] at HB3
  clear HB2 hw2 q0 q1 q2 q3 y0 y1 y2 d0 d1 d2 f2 f3 z0 z1
  go_wp2
  go_ret2
  exact ⟨rfl, (HDS.out _ (HB3.out _)).1.1, (HDS.out _ (HB3.out _)).2.trans (HDS.out _ (HB3.out _)).1.2⟩
end Go.Proofs.Ytjjnglngldfglaa.P
