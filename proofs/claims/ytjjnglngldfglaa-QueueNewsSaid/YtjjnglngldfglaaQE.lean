/- The contract of Step, stage by stage. -/
import Derived.Test.YtjjnglngldfglaaQF
import Derived.Outline
namespace Go.Proofs.Ytjjnglngldfglaa.P
set_option linter.unusedVariables false
open Go Go.RowKit Go.Proofs.YtjjnglngldfglaaW.PrintWords Go.Proofs.YtjjnglngldfglaaW.PrintLast Go.Proofs.YtjjnglngldfglaaW.PrintMore

def upd (sh : Sh) (k : Nat) (c : Bool) (m : Int) (s : St) : Sh := { sh with sc := sh.sc.set k ⟨c, m, s⟩ }
theorem upd_len (sh : Sh) (k : Nat) (c : Bool) (m : Int) (s : St) : (upd sh k c m s).sc.length = sh.sc.length := List.length_set
theorem upd_at (sh : Sh) (k : Nat) (c : Bool) (m : Int) (s : St) (hk : k < sh.sc.length) : scAt (upd sh k c m s) k = ⟨c, m, s⟩ := by
  rw [scAt_nat _ k (by rw [upd_len]; exact hk)]
  simp [upd]
theorem upd_upd (sh : Sh) (k : Nat) (c c' : Bool) (m m' : Int) (s s' : St) : upd (upd sh k c m s) k c' m' s' = upd sh k c' m' s' := by
  unfold upd; simp
section
variable {W : World} {b g gs : Nat} {sh : Sh}
theorem Shp.ch2 (h : Shp W b g gs sh) (k : Nat) (hk : k < sh.sc.length) (c : Bool) : Shp (W.setCell ⟨gs, k * 3, none⟩ (.bool c)) b g gs (upd sh k c (scAt sh k).no (scAt sh k).st) ∧ Moved W (W.setCell ⟨gs, k * 3, none⟩ (.bool c)) b g gs := by
  rw [scAt_nat sh k hk]; exact h.ch k hk c
theorem Shp.no2 (h : Shp W b g gs sh) (k : Nat) (hk : k < sh.sc.length) (m : Int) : Shp (W.setCell ⟨gs, k * 3 + 1, none⟩ (.int .i64 m)) b g gs (upd sh k (scAt sh k).ch m (scAt sh k).st) ∧ Moved W (W.setCell ⟨gs, k * 3 + 1, none⟩ (.int .i64 m)) b g gs := by
  rw [scAt_nat sh k hk]; exact h.no k hk m
theorem Shp.st2 (h : Shp W b g gs sh) (k : Nat) (hk : k < sh.sc.length) (s : St) : Shp (W.setCell ⟨gs, k * 3 + 2, none⟩ s.val) b g gs (upd sh k (scAt sh k).ch (scAt sh k).no s) ∧ Moved W (W.setCell ⟨gs, k * 3 + 2, none⟩ s.val) b g gs := by
  rw [scAt_nat sh k hk]; exact h.st k hk s
/-- The choosing mark and the stage. -/
theorem Shp.chst (h : Shp W b g gs sh) (k : Nat) (hk : k < sh.sc.length) (c : Bool) (s : St) : Shp ((W.setCell ⟨gs, k * 3, none⟩ (.bool c)).setCell ⟨gs, k * 3 + 2, none⟩ s.val) b g gs (upd sh k c (scAt sh k).no s) ∧ Moved W ((W.setCell ⟨gs, k * 3, none⟩ (.bool c)).setCell ⟨gs, k * 3 + 2, none⟩ s.val) b g gs := by
  obtain ⟨a, m⟩ := h.ch2 k hk c
  obtain ⟨a2, m2⟩ := a.st2 k (by rw [upd_len]; exact hk) s
  rw [upd_at _ _ _ _ _ hk, upd_upd] at a2
  exact ⟨a2, m.trans m2⟩
/-- The number and the stage. -/
theorem Shp.nost (h : Shp W b g gs sh) (k : Nat) (hk : k < sh.sc.length) (m : Int) (s : St) : Shp ((W.setCell ⟨gs, k * 3 + 1, none⟩ (.int .i64 m)).setCell ⟨gs, k * 3 + 2, none⟩ s.val) b g gs (upd sh k (scAt sh k).ch m s) ∧ Moved W ((W.setCell ⟨gs, k * 3 + 1, none⟩ (.int .i64 m)).setCell ⟨gs, k * 3 + 2, none⟩ s.val) b g gs := by
  obtain ⟨a, m1⟩ := h.no2 k hk m
  obtain ⟨a2, m2⟩ := a.st2 k (by rw [upd_len]; exact hk) s
  rw [upd_at _ _ _ _ _ hk, upd_upd] at a2
  exact ⟨a2, m1.trans m2⟩
end
set_option maxRecDepth 100000 in
set_option maxHeartbeats 8000000 in
theorem step_idle (W : World) (b g gs : Nat) (sh : Sh) (h : Shp W b g gs sh) (k : Nat) (hk : k < sh.sc.length) (hs : (scAt sh k).st = .idle) (hb : b ≤ W.heap.size) : Calls Try.prog 19 #[.pointer (some ⟨g, 0, none⟩), .int .i64 k] W fun e w' => e = .returned (.tuple #[.bool false, .int .i64 5]) ∧ Shp w' b g gs sh ∧ Moved W w' b g gs := by
  have hc := Aside0.mk (check_calls W b g gs sh h k)
  have c : errI sh k = 0 := by unfold errI; rw [if_neg (by omega), if_neg (by omega)]
  have c0 := h.c0
  obtain ⟨x0, x1, x2⟩ := h.at_ k hk
  have p1 : decide (k < sh.sc.length) = true := decide_eq_true hk
  have p2 : ((k : Int) < (sh.sc.length : Int)) = True := eq_true (by omega)
  have H0 := Aside0.mk (And.intro h hb)
  rw [c] at hc
  rw [hs] at x2
  replace x2 : W.cell? ⟨gs, k * 3 + 2, none⟩ = some (.iface 80 (.agg #[])) := x2
  have t1 := ta_80_80
  clear h hk c x0 x1 hb hs
  go_enter Try.func19, Try.ntmps19
  go_wp2_with (fail)
  refine hc.out.mono ?_
  rintro e w' ⟨rfl, rfl⟩
  go_wp2
  go_ret2
  have hb := below_alloc (Below.refl W.heap.size W) (.cells #[] 80)
  exact ⟨rfl, H0.out.1.below hb, Moved.of_below hb H0.out.2⟩
set_option maxRecDepth 100000 in
set_option maxHeartbeats 8000000 in
theorem step_announce (W : World) (b g gs : Nat) (sh : Sh) (h : Shp W b g gs sh) (k : Nat) (hk : k < sh.sc.length) (hs : (scAt sh k).st = .announce) (hb : b ≤ W.heap.size) : Calls Try.prog 19 #[.pointer (some ⟨g, 0, none⟩), .int .i64 k] W fun e w' => e = .returned (.tuple #[.bool true, .int .i64 0]) ∧ Shp w' b g gs (upd sh k true (scAt sh k).no (.read 0 0)) ∧ Moved W w' b g gs := by
  have hc := Aside0.mk (check_calls W b g gs sh h k)
  have c : errI sh k = 0 := by unfold errI; rw [if_neg (by omega), if_neg (by omega)]
  have c0 := h.c0
  obtain ⟨x0, x1, x2⟩ := h.at_ k hk
  have p1 : decide (k < sh.sc.length) = true := decide_eq_true hk
  have p2 : ((k : Int) < (sh.sc.length : Int)) = True := eq_true (by omega)
  obtain ⟨w1, hw1⟩ : ∃ w1, W.alloc (.cells #[] 81) = w1 := ⟨_, rfl⟩
  obtain ⟨gt, hgt⟩ : ∃ gt, W.heap.size = gt := ⟨_, rfl⟩
  have hb1 : Below W.heap.size W w1 := by rw [← hw1]; exact below_alloc (Below.refl _ _) _
  have h1 := h.below hb1
  have d0 := h1.c0
  have d2 := h1.c2
  obtain ⟨y0, y1, y2⟩ := h1.at_ k hk
  have f0 := (h1.fz (k * 3)).2
  have f1 := (h1.fz (k * 3 + 1)).2
  have f2 := (h1.fz (k * 3 + 2)).2
  have HU := Aside0.mk (h1.chst k hk true (.read 0 0))
  have HM := Aside0.mk (Moved.of_below (b := b) (g := g) (gs := gs) hb1 hb)
  rw [c] at hc
  rw [hs] at x2 y2
  replace x2 : W.cell? ⟨gs, k * 3 + 2, none⟩ = some (.iface 81 (.agg #[])) := x2
  replace y2 : w1.cell? ⟨gs, k * 3 + 2, none⟩ = some (.iface 81 (.agg #[])) := y2
  have t0 := ta_81_80
  have t1 := ta_81_81
  clear h hk c hb hs hb1 h1
  go_enter Try.func19, Try.ntmps19
  go_wp2_with (fail)
  refine hc.out.mono ?_
  rintro e w' ⟨rfl, rfl⟩
  go_wp2
  go_ret2
  exact ⟨rfl, HU.out.1, HM.out.trans HU.out.2⟩
set_option maxRecDepth 100000 in
set_option maxHeartbeats 8000000 in
theorem step_announced (W : World) (b g gs : Nat) (sh : Sh) (h : Shp W b g gs sh) (k : Nat) (hk : k < sh.sc.length) (hs : (scAt sh k).st = .announced) (hb : b ≤ W.heap.size) : Calls Try.prog 19 #[.pointer (some ⟨g, 0, none⟩), .int .i64 k] W fun e w' => e = .returned (.tuple #[.bool true, .int .i64 0]) ∧ Shp w' b g gs (upd sh k false (scAt sh k).no (.choice 0)) ∧ Moved W w' b g gs := by
  have hc := Aside0.mk (check_calls W b g gs sh h k)
  have c : errI sh k = 0 := by unfold errI; rw [if_neg (by omega), if_neg (by omega)]
  have c0 := h.c0
  obtain ⟨x0, x1, x2⟩ := h.at_ k hk
  have p1 : decide (k < sh.sc.length) = true := decide_eq_true hk
  have p2 : ((k : Int) < (sh.sc.length : Int)) = True := eq_true (by omega)
  obtain ⟨w1, hw1⟩ : ∃ w1, W.alloc (.cells #[] 86) = w1 := ⟨_, rfl⟩
  obtain ⟨gt, hgt⟩ : ∃ gt, W.heap.size = gt := ⟨_, rfl⟩
  have hb1 : Below W.heap.size W w1 := by rw [← hw1]; exact below_alloc (Below.refl _ _) _
  have h1 := h.below hb1
  have d0 := h1.c0
  have d2 := h1.c2
  obtain ⟨y0, y1, y2⟩ := h1.at_ k hk
  have f0 := (h1.fz (k * 3)).2
  have f1 := (h1.fz (k * 3 + 1)).2
  have f2 := (h1.fz (k * 3 + 2)).2
  have HU := Aside0.mk (h1.chst k hk false (.choice 0))
  have HM := Aside0.mk (Moved.of_below (b := b) (g := g) (gs := gs) hb1 hb)
  rw [c] at hc
  rw [hs] at x2 y2
  replace x2 : W.cell? ⟨gs, k * 3 + 2, none⟩ = some (.iface 86 (.agg #[])) := x2
  replace y2 : w1.cell? ⟨gs, k * 3 + 2, none⟩ = some (.iface 86 (.agg #[])) := y2
  have t0 := ta_86_80
  have t1 := ta_86_81
  have t2 := ta_86_83
  have t3 := ta_86_85
  have t4 := ta_86_86
  clear h hk c hb hs hb1 h1
  go_enter Try.func19, Try.ntmps19
  go_wp2_with (fail)
  refine hc.out.mono ?_
  rintro e w' ⟨rfl, rfl⟩
  go_wp2
  go_ret2
  exact ⟨rfl, HU.out.1, HM.out.trans HU.out.2⟩
set_option maxRecDepth 100000 in
set_option maxHeartbeats 8000000 in
theorem step_inside (W : World) (b g gs : Nat) (sh : Sh) (h : Shp W b g gs sh) (k : Nat) (hk : k < sh.sc.length) (hs : (scAt sh k).st = .inside) (hb : b ≤ W.heap.size) : Calls Try.prog 19 #[.pointer (some ⟨g, 0, none⟩), .int .i64 k] W fun e w' => e = .returned (.tuple #[.bool true, .int .i64 0]) ∧ Shp w' b g gs (upd sh k (scAt sh k).ch 0 .idle) ∧ Moved W w' b g gs := by
  have hc := Aside0.mk (check_calls W b g gs sh h k)
  have c : errI sh k = 0 := by unfold errI; rw [if_neg (by omega), if_neg (by omega)]
  have c0 := h.c0
  obtain ⟨x0, x1, x2⟩ := h.at_ k hk
  have p1 : decide (k < sh.sc.length) = true := decide_eq_true hk
  have p2 : ((k : Int) < (sh.sc.length : Int)) = True := eq_true (by omega)
  obtain ⟨w1, hw1⟩ : ∃ w1, W.alloc (.cells #[] 78) = w1 := ⟨_, rfl⟩
  obtain ⟨gt, hgt⟩ : ∃ gt, W.heap.size = gt := ⟨_, rfl⟩
  have hb1 : Below W.heap.size W w1 := by rw [← hw1]; exact below_alloc (Below.refl _ _) _
  have h1 := h.below hb1
  have d0 := h1.c0
  have d2 := h1.c2
  obtain ⟨y0, y1, y2⟩ := h1.at_ k hk
  have f0 := (h1.fz (k * 3)).2
  have f1 := (h1.fz (k * 3 + 1)).2
  have f2 := (h1.fz (k * 3 + 2)).2
  have HU := Aside0.mk (h1.nost k hk 0 .idle)
  have HM := Aside0.mk (Moved.of_below (b := b) (g := g) (gs := gs) hb1 hb)
  rw [c] at hc
  rw [hs] at x2 y2
  replace x2 : W.cell? ⟨gs, k * 3 + 2, none⟩ = some (.iface 78 (.agg #[])) := x2
  replace y2 : w1.cell? ⟨gs, k * 3 + 2, none⟩ = some (.iface 78 (.agg #[])) := y2
  have t0 := ta_78_80
  have t1 := ta_78_81
  have t2 := ta_78_83
  have t3 := ta_78_85
  have t4 := ta_78_86
  have t5 := ta_78_88
  have t6 := ta_78_89
  have t7 := ta_78_78
  clear h hk c hb hs hb1 h1
  go_enter Try.func19, Try.ntmps19
  go_wp2_with (fail)
  refine hc.out.mono ?_
  rintro e w' ⟨rfl, rfl⟩
  go_wp2
  go_ret2
  exact ⟨rfl, HU.out.1, HM.out.trans HU.out.2⟩
set_option maxRecDepth 100000 in
set_option maxHeartbeats 8000000 in
theorem step_take (W : World) (b g gs : Nat) (sh : Sh) (h : Shp W b g gs sh) (k : Nat) (hk : k < sh.sc.length) (seen : Int) (hs : (scAt sh k).st = .take seen) (hb : b ≤ W.heap.size) : Calls Try.prog 19 #[.pointer (some ⟨g, 0, none⟩), .int .i64 k] W fun e w' => e = .returned (.tuple #[.bool true, .int .i64 0]) ∧ Shp w' b g gs (upd sh k (scAt sh k).ch (wrap64 (seen + 1)) .announced) ∧ Moved W w' b g gs := by
  have hc := Aside0.mk (check_calls W b g gs sh h k)
  have c : errI sh k = 0 := by unfold errI; rw [if_neg (by omega), if_neg (by omega)]
  have c0 := h.c0
  obtain ⟨x0, x1, x2⟩ := h.at_ k hk
  have p1 : decide (k < sh.sc.length) = true := decide_eq_true hk
  have p2 : ((k : Int) < (sh.sc.length : Int)) = True := eq_true (by omega)
  obtain ⟨w1, hw1⟩ : ∃ w1, W.alloc (.cells #[.int .i64 seen] 85) = w1 := ⟨_, rfl⟩
  obtain ⟨gt, hgt⟩ : ∃ gt, W.heap.size = gt := ⟨_, rfl⟩
  have hb1 : Below W.heap.size W w1 := by rw [← hw1]; exact below_alloc (Below.refl _ _) _
  have h1 := h.below hb1
  have d0 := h1.c0
  have d2 := h1.c2
  have q0 : w1.cell? ⟨gt, 0, none⟩ = some (.int .i64 seen) := by rw [← hw1, ← hgt]; simp
  obtain ⟨y0, y1, y2⟩ := h1.at_ k hk
  have f0 := (h1.fz (k * 3)).2
  have f1 := (h1.fz (k * 3 + 1)).2
  have f2 := (h1.fz (k * 3 + 2)).2
  have HU := Aside0.mk (h1.nost k hk (wrap64 (seen + 1)) .announced)
  have HM := Aside0.mk (Moved.of_below (b := b) (g := g) (gs := gs) hb1 hb)
  rw [c] at hc
  rw [hs] at x2 y2
  replace x2 : W.cell? ⟨gs, k * 3 + 2, none⟩ = some (.iface 85 (.agg #[.int .i64 seen])) := x2
  replace y2 : w1.cell? ⟨gs, k * 3 + 2, none⟩ = some (.iface 85 (.agg #[.int .i64 seen])) := y2
  have t0 := ta_85_80
  have t1 := ta_85_81
  have t2 := ta_85_83
  have t3 := ta_85_85
  clear h hk c hb hs hb1 h1
  go_enter Try.func19, Try.ntmps19
  go_wp2_with (fail)
  refine hc.out.mono ?_
  rintro e w' ⟨rfl, rfl⟩
  go_wp2
  go_ret2
  exact ⟨rfl, HU.out.1, HM.out.trans HU.out.2⟩
end Go.Proofs.Ytjjnglngldfglaa.P
