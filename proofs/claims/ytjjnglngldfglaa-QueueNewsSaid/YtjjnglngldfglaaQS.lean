/- lives answers true. -/
import Derived.Test.YtjjnglngldfglaaQP
namespace Go.Proofs.Ytjjnglngldfglaa.P
set_option linter.unusedVariables false
open Go Go.RowKit Go.Proofs.YtjjnglngldfglaaW.PrintWords Go.Proofs.YtjjnglngldfglaaW.PrintLast Go.Proofs.YtjjnglngldfglaaW.PrintMore

theorem C_cells (w : World) (B : Nat) (l : List Int) (h : w.heap[B]? = some (.cells (l.map (Value.int .i64)).toArray 3 (0, 0))) (hl : l.length ≤ 4000) : Kd.C (Kd.int .i64) w (some ⟨B, 0, none⟩) l.length l := by
  refine ⟨rfl, by omega, fun _ => ⟨_, rfl, fun j p hp => ⟨[.int .i64 p], rfl, rfl, fun i u hu => ?_⟩⟩⟩
  cases i with
  | succ i => simp at hu
  | zero =>
    have hu' : Value.int .i64 p = u := by simpa using hu
    subst hu'
    have e : (⟨B, 0, none⟩ : Addr).add (j * 1 + 0) = ⟨B, j, none⟩ := by cases j <;> simp [Addr.add]
    have e2 : (Kd.int IntKind.i64).sz = 1 := rfl
    rw [e2, e]
    simp [World.cell?, h, hp]
theorem C_keep (W : World) (b g gs B : Nat) (l : List Int) (h : W.heap[B]? = some (.cells (l.map (Value.int .i64)).toArray 3 (0, 0))) (hl : l.length ≤ 4000) (h1 : B ≠ g) (h2 : B ≠ gs) : ∀ w', Moved W w' b g gs → Kd.C (Kd.int .i64) w' (some ⟨B, 0, none⟩) l.length l :=
  fun w' m => C_cells w' B l ((m.keep B (Array.getElem?_eq_some_iff.1 h).1 h1 h2).trans h) hl
theorem Shp.keep {W W1 : World} {b g gs b' g' gs' : Nat} {sh : Sh} (h : Shp W b g gs sh) (m : Moved W W1 b' g' gs') (h1 : g ≠ g') (h2 : g ≠ gs') (h3 : gs ≠ g') (h4 : gs ≠ gs') : Shp W1 b g gs sh :=
  ⟨(m.keep g h.lt h1 h2).trans h.hg, (by obtain ⟨r, h0⟩ := h.hs; exact ⟨r, (m.keep gs h.lts h3 h4).trans h0⟩), h.bg, h.bs, h.pos, h.few⟩
theorem okSh_new (n : Nat) (c : Bool) (h : n ≤ 4) : okSh (newSh n c) := by
  refine ⟨by simpa [newSh] using h, fun k hk => ?_⟩
  rw [scAt_nat _ k hk]
  simp [newSh, sc0, okSt]
def lv1 : Sh := ⟨[⟨false, 1, .inside⟩], false, 1, 1⟩
def lv2 : Sh := ⟨[⟨false, 1, .choice 0⟩, sc0], false, 0, 2⟩
theorem lv1_run : runS (newSh 1 false) [0, 0, 0, 0, 0, 0, 0] = (lv1, 1) := by decide +kernel
theorem lv2_run : runS (newSh 2 false) [0, 0, 0, 0, 0, 0] = (lv2, 0) := by decide +kernel
set_option maxRecDepth 100000 in
set_option maxHeartbeats 400000 in
theorem lives_calls (W : World) : Calls Try.prog 14 #[] W fun e w' => e = .returned (.bool true) ∧ Below W.heap.size W w' := by
  go_enter Try.func14, Try.ntmps14
  go_wp2_with (fail)
  refine (New_calls 1 false W (by omega) (by omega)).mono ?_
  rintro e w1 ⟨g, gs, rfl, hs, hb⟩
  have S1 := Aside0.mk hs
  have B1 := Aside0.mk hb
  clear hs hb
  go_wp2_with (fail)
  refine (Run_calls _ W.heap.size g gs (newSh 1 false) (S1.out.below (below_alloc (Below.refl _ _) _)) (okSh_new 1 false (by omega)) (by have := B1.out.size; simp; omega) (some ⟨w1.heap.size, 0, none⟩) 7 [0, 0, 0, 0, 0, 0, 0] (C_keep _ _ _ _ _ _ (alloc_at _ _) (by decide) (by have := S1.out.lt; omega) (by have := S1.out.lts; omega)) (by decide) (by decide)).mono ?_
  rw [lv1_run]
  rintro e w2 ⟨rfl, hs, hm⟩
  have S2 := Aside0.mk hs
  have M2 := Aside0.mk (hm.bel W.heap.size W (below_alloc B1.out _) (Nat.le_refl _))
  clear hs hm
  go_wp2_with (fail)
  refine (New_calls 2 false w2 (by omega) (by omega)).mono ?_
  rintro e w3 ⟨g', gs', rfl, hs, hb⟩
  have T3 := Aside0.mk hs
  have S3 := Aside0.mk (S2.out.below hb)
  have B3 := Aside0.mk (M2.out.trans (hb.mono M2.out.size))
  have LT := Aside0.mk (And.intro S2.out.lt (And.intro S2.out.lts (And.intro hs.bg (And.intro hs.bs hb.size))))
  clear hs hb
  go_wp2_with (fail)
  refine (Run_calls _ w2.heap.size g' gs' (newSh 2 false) (T3.out.below (below_alloc (Below.refl _ _) _)) (okSh_new 2 false (by omega)) (by have := LT.out; simp; omega) (some ⟨w3.heap.size, 0, none⟩) 6 [0, 0, 0, 0, 0, 0] (C_keep _ _ _ _ _ _ (alloc_at _ _) (by decide) (by have := T3.out.lt; omega) (by have := T3.out.lts; omega)) (by decide) (by decide)).mono ?_
  rw [lv2_run]
  rintro e w4 ⟨rfl, hs, hm⟩
  have T4 := Aside0.mk hs
  have S4 := Aside0.mk ((S3.out.below (below_alloc (Below.refl _ _) _)).keep hm (by have := LT.out; omega) (by have := LT.out; omega) (by have := LT.out; omega) (by have := LT.out; omega))
  have B4 := Aside0.mk (hm.bel W.heap.size W (below_alloc B3.out _) M2.out.size)
  clear hs hm
  go_wp2_with (fail)
  refine (Inside_calls w4 W.heap.size g gs lv1 S4.out).mono ?_
  rintro e w5 ⟨v, rfl, hR, hb5⟩
  obtain ⟨A5, c5, rfl, hc5, hC5⟩ := Kd.R_reads hR
  have HC5 := Aside0.mk hC5
  have S5 := Aside0.mk (S4.out.below hb5)
  have T5 := Aside0.mk (T4.out.below hb5)
  have B5 := Aside0.mk (B4.out.trans (hb5.mono B4.out.size))
  have hi1 : insL lv1 = [0] := by decide +kernel
  rw [hi1] at HC5 hc5
  have N5 := Aside0.mk hc5
  clear hR hC5 hb5 hc5
  rw [show (insL lv1).length = 1 from by rw [hi1]; rfl]
  clear hi1
  go_wp2_with (fail)
  have hq := Aside0.mk (woggleref01_Same.calls 10 A5 c5 [0] (some ⟨w5.heap.size, 0, none⟩) 1 [0] true (w5.alloc (.cells #[.int .i64 0] 3)) (Kd.C_below HC5.out (below_alloc (Below.refl _ _) _)) N5.out (C_cells _ _ [0] (alloc_at _ _) (by decide)) (by decide) (by decide +kernel))
  refine hq.out.mono ?_
  rintro e w6 ⟨rfl, hd⟩
  have S6 := Aside0.mk ((S5.out.below (below_alloc (Below.refl _ _) (.cells #[.int .i64 0] 3))).below hd.below)
  have T6 := Aside0.mk ((T5.out.below (below_alloc (Below.refl _ _) (.cells #[.int .i64 0] 3))).below hd.below)
  have B6 := Aside0.mk ((below_alloc B5.out (.cells #[.int .i64 0] 3)).trans (hd.below.mono (below_alloc B5.out (.cells #[.int .i64 0] 3)).size))
  clear hd hq
  go_wp2_with (fail)
  refine (Taken_calls w6 W.heap.size g gs lv1 S6.out).mono ?_
  rintro e w7 ⟨rfl, rfl⟩
  rw [show lv1.tk = 1 from rfl]
  go_wp2_with (fail)
  refine (Stage_calls w6 w2.heap.size g' gs' lv2 T6.out 0).mono ?_
  rintro e w7 ⟨rfl, hb⟩
  rw [show stOf lv2 0 = 5 from by decide +kernel]
  have T7 := Aside0.mk (T6.out.below hb)
  have B7 := Aside0.mk (B6.out.trans (hb.mono B6.out.size))
  clear hb
  go_wp2_with (fail)
  refine (Number_calls w7 w2.heap.size g' gs' lv2 T7.out 0).mono ?_
  rintro e w8 ⟨rfl, rfl⟩
  rw [show noOf lv2 0 = 1 from by decide +kernel]
  go_wp2_with (fail)
  refine (Want_calls w7 w2.heap.size g' gs' lv2 T7.out 0).mono ?_
  rintro e w8 ⟨rfl, -, hm⟩
  rw [show wantE lv2 0 = 7 from by decide +kernel]
  have B8 := Aside0.mk (hm.bel W.heap.size W B7.out M2.out.size)
  clear hm
  go_wp2
  go_ret
  exact ⟨rfl, B8.out⟩
end Go.Proofs.Ytjjnglngldfglaa.P
