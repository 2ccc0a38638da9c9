/- The contract of Step at choice (to turn) and at turn. -/
import Derived.Test.YtjjnglngldfglaaQG
namespace Go.Proofs.Ytjjnglngldfglaa.P
set_option linter.unusedVariables false
open Go Go.RowKit Go.Proofs.YtjjnglngldfglaaW.PrintWords Go.Proofs.YtjjnglngldfglaaW.PrintLast Go.Proofs.YtjjnglngldfglaaW.PrintMore

set_option maxRecDepth 100000 in
set_option maxHeartbeats 8000000 in
theorem step_choice_turn (W : World) (b g gs : Nat) (sh : Sh) (h : Shp W b g gs sh) (k : Nat) (hk : k < sh.sc.length) (j : Nat) (hj : j < sh.sc.length) (hjk : j ≠ k) (hch : (scAt sh j).ch = false) (hs : (scAt sh k).st = .choice j) (hb : b ≤ W.heap.size) : Calls Try.prog 19 #[.pointer (some ⟨g, 0, none⟩), .int .i64 k] W fun e w' => e = .returned (.tuple #[.bool true, .int .i64 0]) ∧ Shp w' b g gs (upd sh k (scAt sh k).ch (scAt sh k).no (.turn j)) ∧ Moved W w' b g gs := by
  have hc := Aside0.mk (check_calls W b g gs sh h k)
  have c : errI sh k = 0 := by unfold errI; rw [if_neg (by omega), if_neg (by omega)]
  have c0 := h.c0
  obtain ⟨x0, x1, x2⟩ := h.at_ k hk
  have p1 : decide (k < sh.sc.length) = true := decide_eq_true hk
  have p2 : ((k : Int) < (sh.sc.length : Int)) = True := eq_true (by omega)
  obtain ⟨w1, hw1⟩ : ∃ w1, W.alloc (.cells #[.int .i64 (j : Int)] 88) = w1 := ⟨_, rfl⟩
  obtain ⟨gt, hgt⟩ : ∃ gt, W.heap.size = gt := ⟨_, rfl⟩
  have hb1 : Below W.heap.size W w1 := by rw [← hw1]; exact below_alloc (Below.refl _ _) _
  have h1 := h.below hb1
  have d0 := h1.c0
  have d1 := h1.c1
  have d2 := h1.c2
  have q0 : w1.cell? ⟨gt, 0, none⟩ = some (.int .i64 (j : Int)) := by rw [← hw1, ← hgt]; simp
  obtain ⟨y0, y1, y2⟩ := h1.at_ k hk
  have f2 := (h1.fz (k * 3 + 2)).2
  have f3 := (h1.fz 2).1
  have j1 : ((j : Int) == (sh.sc.length : Int)) = false := beq_eq_false_iff_ne.2 (by omega)
  have j2 : (j == sh.sc.length) = false := beq_eq_false_iff_ne.2 (by omega)
  have j3 : ((j : Int) == (k : Int)) = false := beq_eq_false_iff_ne.2 (by omega)
  have j4 : (j == k) = false := beq_eq_false_iff_ne.2 hjk
  obtain ⟨z0, z1, z2⟩ := h1.at_ j hj
  have j5 : decide (j < sh.sc.length) = true := decide_eq_true hj
  have j6 : ((j : Int) < (sh.sc.length : Int)) = True := eq_true (by omega)
  rw [hch] at z0
  have hdr := fun nd => (pw_below_drewN (Below.refl w1.heap.size w1) nd)
  have HDS := Aside0.mk (fun nd => (h1.below (hdr nd)).st2 k hk (.turn j))
  have HMD := Aside0.mk (fun nd => Moved.of_below (b := b) (g := g) (gs := gs) (hdr nd) (by have := below_size hb1; omega))
  clear hdr
  clear hj hjk hch z2
  have HU := Aside0.mk (And.intro h1 (Moved.refl w1 b g gs))
  have HBB := Aside0.mk hb
  have HM := Aside0.mk (Moved.of_below (b := b) (g := g) (gs := gs) hb1 hb)
  rw [c] at hc
  rw [hs] at x2 y2
  replace x2 : W.cell? ⟨gs, k * 3 + 2, none⟩ = some (.iface 88 (.agg #[.int .i64 (j : Int)])) := x2
  replace y2 : w1.cell? ⟨gs, k * 3 + 2, none⟩ = some (.iface 88 (.agg #[.int .i64 (j : Int)])) := y2
  have t0 := ta_88_80
  have t1 := ta_88_81
  have t2 := ta_88_83
  have t3 := ta_88_85
  have t4 := ta_88_86
  have t5 := ta_88_88
  clear h hk c hb hs hb1 h1
  go_enter Try.func19, Try.ntmps19
  go_wp2_with (fail)
  refine hc.out.mono ?_
  rintro e w' ⟨rfl, rfl⟩
  go_wp2_with (fail)
  go_quiet (fail)
  go_wp2
  go_ret2
  exact ⟨rfl, (HDS.out _).1, HM.out.trans ((HMD.out _).trans (HDS.out _).2)⟩
set_option maxRecDepth 100000 in
set_option maxHeartbeats 8000000 in
theorem step_choice_careless (W : World) (b g gs : Nat) (sh : Sh) (h : Shp W b g gs sh) (k : Nat) (hk : k < sh.sc.length) (j : Nat) (hj : j < sh.sc.length) (hjk : j ≠ k) (hch : (scAt sh j).ch = true) (hcl : sh.cl = true) (hs : (scAt sh k).st = .choice j) (hb : b ≤ W.heap.size) : Calls Try.prog 19 #[.pointer (some ⟨g, 0, none⟩), .int .i64 k] W fun e w' => e = .returned (.tuple #[.bool true, .int .i64 0]) ∧ Shp w' b g gs (upd sh k (scAt sh k).ch (scAt sh k).no (.turn j)) ∧ Moved W w' b g gs := by
  have hc := Aside0.mk (check_calls W b g gs sh h k)
  have c : errI sh k = 0 := by unfold errI; rw [if_neg (by omega), if_neg (by omega)]
  have c0 := h.c0
  obtain ⟨x0, x1, x2⟩ := h.at_ k hk
  have p1 : decide (k < sh.sc.length) = true := decide_eq_true hk
  have p2 : ((k : Int) < (sh.sc.length : Int)) = True := eq_true (by omega)
  obtain ⟨w1, hw1⟩ : ∃ w1, W.alloc (.cells #[.int .i64 (j : Int)] 88) = w1 := ⟨_, rfl⟩
  obtain ⟨gt, hgt⟩ : ∃ gt, W.heap.size = gt := ⟨_, rfl⟩
  have hb1 : Below W.heap.size W w1 := by rw [← hw1]; exact below_alloc (Below.refl _ _) _
  have h1 := h.below hb1
  have d0 := h1.c0
  have d1 := h1.c1
  have d2 := h1.c2
  have q0 : w1.cell? ⟨gt, 0, none⟩ = some (.int .i64 (j : Int)) := by rw [← hw1, ← hgt]; simp
  obtain ⟨y0, y1, y2⟩ := h1.at_ k hk
  have f2 := (h1.fz (k * 3 + 2)).2
  have f3 := (h1.fz 2).1
  have j1 : ((j : Int) == (sh.sc.length : Int)) = false := beq_eq_false_iff_ne.2 (by omega)
  have j2 : (j == sh.sc.length) = false := beq_eq_false_iff_ne.2 (by omega)
  have j3 : ((j : Int) == (k : Int)) = false := beq_eq_false_iff_ne.2 (by omega)
  have j4 : (j == k) = false := beq_eq_false_iff_ne.2 hjk
  obtain ⟨z0, z1, z2⟩ := h1.at_ j hj
  have j5 : decide (j < sh.sc.length) = true := decide_eq_true hj
  have j6 : ((j : Int) < (sh.sc.length : Int)) = True := eq_true (by omega)
  rw [hch] at z0
  rw [hcl] at d1
  have hdr := fun nd => (pw_below_drewN (Below.refl w1.heap.size w1) nd)
  have HDS := Aside0.mk (fun nd => (h1.below (hdr nd)).st2 k hk (.turn j))
  have HMD := Aside0.mk (fun nd => Moved.of_below (b := b) (g := g) (gs := gs) (hdr nd) (by have := below_size hb1; omega))
  clear hdr
  clear hj hjk hch hcl z2
  have HU := Aside0.mk (And.intro h1 (Moved.refl w1 b g gs))
  have HBB := Aside0.mk hb
  have HM := Aside0.mk (Moved.of_below (b := b) (g := g) (gs := gs) hb1 hb)
  rw [c] at hc
  rw [hs] at x2 y2
  replace x2 : W.cell? ⟨gs, k * 3 + 2, none⟩ = some (.iface 88 (.agg #[.int .i64 (j : Int)])) := x2
  replace y2 : w1.cell? ⟨gs, k * 3 + 2, none⟩ = some (.iface 88 (.agg #[.int .i64 (j : Int)])) := y2
  have t0 := ta_88_80
  have t1 := ta_88_81
  have t2 := ta_88_83
  have t3 := ta_88_85
  have t4 := ta_88_86
  have t5 := ta_88_88
  clear h hk c hb hs hb1 h1
  go_enter Try.func19, Try.ntmps19
  go_wp2_with (fail)
  refine hc.out.mono ?_
  rintro e w' ⟨rfl, rfl⟩
  go_wp2_with (fail)
  go_quiet (fail)
  go_wp2
  go_ret2
  exact ⟨rfl, (HDS.out _).1, HM.out.trans ((HMD.out _).trans (HDS.out _).2)⟩
set_option maxRecDepth 100000 in
set_option maxHeartbeats 8000000 in
theorem step_turn_wait (W : World) (b g gs : Nat) (sh : Sh) (h : Shp W b g gs sh) (k : Nat) (hk : k < sh.sc.length) (j : Nat) (hj : j < sh.sc.length) (hf : firstOf sh j k = true) (hs : (scAt sh k).st = .turn j) (hb : b ≤ W.heap.size) : Calls Try.prog 19 #[.pointer (some ⟨g, 0, none⟩), .int .i64 k] W fun e w' => e = .returned (.tuple #[.bool false, .int .i64 0]) ∧ Shp w' b g gs (sh) ∧ Moved W w' b g gs := by
  have hc := Aside0.mk (check_calls W b g gs sh h k)
  have c : errI sh k = 0 := by unfold errI; rw [if_neg (by omega), if_neg (by omega)]
  have c0 := h.c0
  obtain ⟨x0, x1, x2⟩ := h.at_ k hk
  have p1 : decide (k < sh.sc.length) = true := decide_eq_true hk
  have p2 : ((k : Int) < (sh.sc.length : Int)) = True := eq_true (by omega)
  obtain ⟨w1, hw1⟩ : ∃ w1, W.alloc (.cells #[.int .i64 (j : Int)] 89) = w1 := ⟨_, rfl⟩
  obtain ⟨gt, hgt⟩ : ∃ gt, W.heap.size = gt := ⟨_, rfl⟩
  have hb1 : Below W.heap.size W w1 := by rw [← hw1]; exact below_alloc (Below.refl _ _) _
  have h1 := h.below hb1
  have d0 := h1.c0
  have d1 := h1.c1
  have d2 := h1.c2
  have q0 : w1.cell? ⟨gt, 0, none⟩ = some (.int .i64 (j : Int)) := by rw [← hw1, ← hgt]; simp
  obtain ⟨y0, y1, y2⟩ := h1.at_ k hk
  have f2 := (h1.fz (k * 3 + 2)).2
  have f3 := (h1.fz 2).1
  have HF := Aside0.mk (first_calls w1 b g gs sh h1 j k hj hk)
  rw [hf] at HF
  have hdr := fun nd => (pw_below_drewN (Below.refl w1.heap.size w1) nd)
  have HDS := Aside0.mk (fun nd => (And.intro (h1.below (hdr nd)) (Moved.refl (w1.drewN nd) b g gs)))
  have HMD := Aside0.mk (fun nd => Moved.of_below (b := b) (g := g) (gs := gs) (hdr nd) (by have := below_size hb1; omega))
  clear hdr hj hf
  have HU := Aside0.mk (And.intro h1 (Moved.refl w1 b g gs))
  have HBB := Aside0.mk hb
  have HM := Aside0.mk (Moved.of_below (b := b) (g := g) (gs := gs) hb1 hb)
  rw [c] at hc
  rw [hs] at x2 y2
  replace x2 : W.cell? ⟨gs, k * 3 + 2, none⟩ = some (.iface 89 (.agg #[.int .i64 (j : Int)])) := x2
  replace y2 : w1.cell? ⟨gs, k * 3 + 2, none⟩ = some (.iface 89 (.agg #[.int .i64 (j : Int)])) := y2
  have t0 := ta_89_80
  have t1 := ta_89_81
  have t2 := ta_89_83
  have t3 := ta_89_85
  have t4 := ta_89_86
  have t5 := ta_89_88
  have t6 := ta_89_89
  clear h hk c hb hs hb1 h1
  go_enter Try.func19, Try.ntmps19
  go_wp2_with (fail)
  refine hc.out.mono ?_
  rintro e w' ⟨rfl, rfl⟩
  go_wp2_with (fail)
  refine HF.out.mono ?_
  rintro e w' ⟨rfl, nd, rfl⟩
  go_wp2
  go_ret2
  exact ⟨rfl, (HDS.out _).1, HM.out.trans ((HMD.out _).trans (HDS.out _).2)⟩
set_option maxRecDepth 100000 in
set_option maxHeartbeats 8000000 in
theorem step_turn_go (W : World) (b g gs : Nat) (sh : Sh) (h : Shp W b g gs sh) (k : Nat) (hk : k < sh.sc.length) (j : Nat) (hj : j < sh.sc.length) (hf : firstOf sh j k = false) (hs : (scAt sh k).st = .turn j) (hb : b ≤ W.heap.size) : Calls Try.prog 19 #[.pointer (some ⟨g, 0, none⟩), .int .i64 k] W fun e w' => e = .returned (.tuple #[.bool true, .int .i64 0]) ∧ Shp w' b g gs (upd sh k (scAt sh k).ch (scAt sh k).no (.choice (wrap64 ((j : Int) + 1)))) ∧ Moved W w' b g gs := by
  have hc := Aside0.mk (check_calls W b g gs sh h k)
  have c : errI sh k = 0 := by unfold errI; rw [if_neg (by omega), if_neg (by omega)]
  have c0 := h.c0
  obtain ⟨x0, x1, x2⟩ := h.at_ k hk
  have p1 : decide (k < sh.sc.length) = true := decide_eq_true hk
  have p2 : ((k : Int) < (sh.sc.length : Int)) = True := eq_true (by omega)
  obtain ⟨w1, hw1⟩ : ∃ w1, W.alloc (.cells #[.int .i64 (j : Int)] 89) = w1 := ⟨_, rfl⟩
  obtain ⟨gt, hgt⟩ : ∃ gt, W.heap.size = gt := ⟨_, rfl⟩
  have hb1 : Below W.heap.size W w1 := by rw [← hw1]; exact below_alloc (Below.refl _ _) _
  have h1 := h.below hb1
  have d0 := h1.c0
  have d1 := h1.c1
  have d2 := h1.c2
  have q0 : w1.cell? ⟨gt, 0, none⟩ = some (.int .i64 (j : Int)) := by rw [← hw1, ← hgt]; simp
  obtain ⟨y0, y1, y2⟩ := h1.at_ k hk
  have f2 := (h1.fz (k * 3 + 2)).2
  have f3 := (h1.fz 2).1
  have HF := Aside0.mk (first_calls w1 b g gs sh h1 j k hj hk)
  rw [hf] at HF
  have hdr := fun nd => (pw_below_drewN (Below.refl w1.heap.size w1) nd)
  have HDS := Aside0.mk (fun nd => (h1.below (hdr nd)).st2 k hk (.choice (wrap64 ((j : Int) + 1))))
  have HMD := Aside0.mk (fun nd => Moved.of_below (b := b) (g := g) (gs := gs) (hdr nd) (by have := below_size hb1; omega))
  clear hdr
  clear hj hf
  have HU := Aside0.mk (And.intro h1 (Moved.refl w1 b g gs))
  have HBB := Aside0.mk hb
  have HM := Aside0.mk (Moved.of_below (b := b) (g := g) (gs := gs) hb1 hb)
  rw [c] at hc
  rw [hs] at x2 y2
  replace x2 : W.cell? ⟨gs, k * 3 + 2, none⟩ = some (.iface 89 (.agg #[.int .i64 (j : Int)])) := x2
  replace y2 : w1.cell? ⟨gs, k * 3 + 2, none⟩ = some (.iface 89 (.agg #[.int .i64 (j : Int)])) := y2
  have t0 := ta_89_80
  have t1 := ta_89_81
  have t2 := ta_89_83
  have t3 := ta_89_85
  have t4 := ta_89_86
  have t5 := ta_89_88
  have t6 := ta_89_89
  clear h hk c hb hs hb1 h1
  go_enter Try.func19, Try.ntmps19
  go_wp2_with (fail)
  refine hc.out.mono ?_
  rintro e w' ⟨rfl, rfl⟩
  go_wp2_with (fail)
  refine HF.out.mono ?_
  rintro e w' ⟨rfl, nd, rfl⟩
  go_wp2
  go_ret2
  exact ⟨rfl, (HDS.out _).1, HM.out.trans ((HMD.out _).trans (HDS.out _).2)⟩
end Go.Proofs.Ytjjnglngldfglaa.P
