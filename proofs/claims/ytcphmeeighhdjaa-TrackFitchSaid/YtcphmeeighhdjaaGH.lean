/- The contracts of free, Least and Ways, and of Label. -/
import Derived.Test.YtcphmeeighhdjaaGG
import Derived.Test.YtcphmeeighhdjaaRA
import Derived.Outline
namespace Go.Proofs.Ytcphmeeighhdjaa.P
set_option linter.unusedVariables false
open Go Go.RowKit Go.Proofs.YtcphmeeighhdjaaW.PrintWords Go.Proofs.YtcphmeeighhdjaaW.PrintLast Go.Proofs.YtcphmeeighhdjaaW.PrintMore

theorem Blk.R {w : World} {b g : Nat} {xs : List Int} (h : Blk w b g (ints xs)) (hm : xs.length ≤ 1000) : Kd.R (Kd.int .i64) 3 w b (fun _ => True) (.slice (some ⟨g, 0, none⟩) xs.length xs.length) xs := by
  refine Kd.R_of_own ⟨by simp [encs], .inr ⟨g, xs.length, (xs.map (Value.int .i64)).toArray, rfl, h.2, h.1, Nat.le_refl _, by unfold maxLen; omega, by simp, ?_⟩⟩ (fun _ _ => trivial)
  simp only [encs, Nat.mul_one]
  exact List.take_of_length_le (by simp)
set_option maxRecDepth 100000 in
set_option maxHeartbeats 4000000 in
theorem free_calls (w : World) (G : Nat) (m : Nat) (AJ : Option Addr) (cJ : Nat) (J : List S67) (AL : Option Addr) (cL : Nat) (L : List Int) (k : Nat) (B : Nat) (AC : Option Addr) (cC : Nat) (C : List (List Int))
    (hp : Prob w G ((m + 1 : Nat) : Int) AJ cJ J AL cL L k B AC cC C) (hm : m ≤ 8) :
    Calls Try.prog 56 #[.pointer (some ⟨G, 0, none⟩)] w fun e w' => ∃ g, e = .returned (.slice (some ⟨g, 0, none⟩) m m) ∧ Blk w' w.heap.size g (ints (List.replicate m (-1))) ∧ Below w.heap.size w w' := by
  have x0 := hp.c0
  obtain ⟨w1, hw1⟩ : ∃ w1, w.alloc (.cells #[.int .i64 (-1)] 3) = w1 := ⟨_, rfl⟩
  have hb1 : Below w.heap.size w w1 := by rw [← hw1]; exact below_alloc (Below.refl _ _) _
  have y0 := (hb1.cell (World.block_lt_of_cell? _ _ x0)).trans x0
  have hl : w1.cell? ⟨w.heap.size, 0, none⟩ = some (.int .i64 (-1)) := by rw [← hw1]; simp
  have HR := Aside0.mk (repeat_calls (-1) m hm (some ⟨w.heap.size, 0, none⟩) 1 w1 (lit1 w1 _ _ hl))
  have HB := Aside0.mk hb1
  have hsub : wrap64 (((m + 1 : Nat) : Int) - 1) = m := by unfold wrap64; omega
  clear hp hb1 hl
  go_enter Try.func56, Try.ntmps56
  go_wp2_with (fail)
  refine HR.out.mono ?_
  rintro e w2 ⟨g, rfl, hR, hb2, hO, hg⟩
  have HB2 := Aside0.mk (And.intro (HB.out.trans (hb2.mono HB.out.size)) (And.intro hO (Nat.le_trans HB.out.size hg)))
  clear hR hb2 hO hg
  go_wp2
  go_ret
  exact ⟨g, rfl, ⟨HB2.out.2.1, HB2.out.2.2⟩, HB2.out.1⟩

/-- What is known when read says yes. -/
structure Good (n : Int) (J : List S67) (C : List (List Int)) (L : List Int) : Prop where
  nJ : n = ((J.length + 1 : Nat) : Int)
  nL : (L.length : Int) = n
  k4 : C.length ≤ 4
  k0 : 1 ≤ C.length
  j7 : J.length ≤ 7
  hL : (∀ s ∈ L, 0 ≤ s ∧ s < (C.length : Int)) ∧ L.length ≤ 100
  hC : C.length = C.length ∧ ∀ i : Nat, i < C.length → (rd_L3 C i).length = C.length
  hJ : (∀ i : Nat, i < J.length → 0 ≤ (rd_T67 J i).f0 ∧ (rd_T67 J i).f0 < L.length + i ∧ 0 ≤ (rd_T67 J i).f1 ∧ (rd_T67 J i).f1 < L.length + i) ∧ J.length ≤ 100
theorem good_of {n : Int} {J : List S67} {C : List (List Int)} {L : List Int} (ht : Pure.TreeOk n J) (hc : Pure.CostsOk C) (hs : Pure.StatesOk n C.length L) : Good n J C L := by
  obtain ⟨t1, t2, t3, t4⟩ := ht
  obtain ⟨s1, s2⟩ := hs
  refine ⟨by omega, s2, hc.2.2, hc.2.1, by omega, ⟨s1, by omega⟩, ⟨rfl, fun i hi => ?_⟩, ⟨fun i hi => ?_, by omega⟩⟩
  · rw [Pure.rd_L3_nat C i hi]; exact (hc.1 _ (List.getElem_mem hi)).1
  · obtain ⟨⟨a0, a1, _⟩, b0, b1, _⟩ := t4 i hi
    omega
theorem read_zero {k : Nat} {n : Int} {J : List S67} {C : List (List Int)} {L : List Int} (h : readErr k n J C L = some 0) : Good n J C L := by
  have hl : J.length ≤ 99 := by
    unfold readErr at h
    obtain ⟨b, ht, h⟩ := Option.bind_eq_some_iff.mp h
    cases b with
    | true => exact Pure.tree_len ht
    | false => rw [if_neg (by decide)] at h; exact absurd (Option.some.inj h) (by decide)
  obtain ⟨a, b, c⟩ := Pure.errOf_zero (Pure.ev_some (Ev.of (fun k => readErr_mono k n J C L) h) (Pure.read_ev n J C L hl)).symm
  exact good_of a b c
theorem Good.hk {n : Int} {J : List S67} {C : List (List Int)} {L : List Int} (h : Good n J C L) : C.length ≤ 8 := by have := h.k4; omega
theorem Good.pos {n : Int} {J : List S67} {C : List (List Int)} {L : List Int} (h : Good n J C L) : 0 < L.length := by have := h.nL; have := h.nJ; omega
/-- Nothing is fixed. -/
def none_ (J : List S67) : List Int := List.replicate J.length (-1)
/-- What Least answers, and its error. -/
def track_Least.f (k : Nat) (n : Int) (J : List S67) (C : List (List Int)) (L : List Int) : Option (Int × Int) :=
  (readErr k n J C L).bind fun x => if x = 0 then some ((leastOf C.length C (none_ J) J L).1, 0) else some (0, x)
theorem track_Least.mono : ∀ n J C L k, LeO (track_Least.f k n J C L) (track_Least.f (k + 1) n J C L) := by
  intro n J C L k
  unfold track_Least.f
  exact LeO.bind (readErr_mono _ _ _ _ _) (fun _ => LeO.refl _)
def track_Ways.f (k : Nat) (n : Int) (J : List S67) (C : List (List Int)) (L : List Int) : Option (Int × Int) :=
  (readErr k n J C L).bind fun x => if x = 0 then some ((leastOf C.length C (none_ J) J L).2, 0) else some (0, x)
theorem track_Ways.mono : ∀ n J C L k, LeO (track_Ways.f k n J C L) (track_Ways.f (k + 1) n J C L) := by
  intro n J C L k
  unfold track_Ways.f
  exact LeO.bind (readErr_mono _ _ _ _ _) (fun _ => LeO.refl _)
/-- free and then least. -/
theorem free_least {n : Int} {J : List S67} {C : List (List Int)} {L : List Int} (g : Good n J C L) (w : World) (G : Nat) (AJ : Option Addr) (cJ : Nat) (AL : Option Addr) (cL : Nat) (B : Nat) (AC : Option Addr) (cC : Nat)
    (hp : Prob w G n AJ cJ J AL cL L C.length B AC cC C) : Calls Try.prog 56 #[.pointer (some ⟨G, 0, none⟩)] w fun e w' => ∃ q, e = .returned (.slice (some ⟨q, 0, none⟩) J.length J.length) ∧ Below w.heap.size w w' ∧
      Calls Try.prog 57 #[.pointer (some ⟨G, 0, none⟩), .slice (some ⟨q, 0, none⟩) J.length J.length] w' fun e2 w2 => e2 = .returned (.tuple #[.int .i64 (leastOf C.length C (none_ J) J L).1, .int .i64 (leastOf C.length C (none_ J) J L).2]) ∧ Below w.heap.size w w2 := by
  have hp' := hp
  rw [g.nJ] at hp'
  refine (free_calls w G J.length AJ cJ J AL cL L C.length B AC cC C hp' (by have := g.j7; omega)).mono ?_
  rintro e w' ⟨q, rfl, hB, hb⟩
  refine ⟨q, rfl, hb, ?_⟩
  have hlen : (none_ J).length = J.length := List.length_replicate
  have hrr := hB.R (by rw [List.length_replicate]; have := g.j7; omega)
  rw [List.length_replicate] at hrr
  have hr := (Kd.R_reads' hrr).2.2
  have := least_calls w' G n AJ cJ J AL cL L C.length B AC cC C (hp.below hb) g.hk g.hL (some ⟨q, 0, none⟩) J.length (none_ J) (by rw [List.length_replicate] at hr; rw [hlen]; exact hr) hlen g.hC g.hJ g.pos
  rw [hlen] at this
  refine this.mono ?_
  rintro e2 w2 ⟨rfl, hb2⟩
  exact ⟨rfl, hb.trans (hb2.mono hb.size)⟩
set_option maxRecDepth 100000 in
set_option maxHeartbeats 8000000 in
theorem track_Least.calls (k : Nat) (a0 : Int) (A1 : Option Addr) (c1 : Nat) (l1 : List S67) (A2 : Option Addr) (c2 : Nat) (l2 : List (List Int)) (A3 : Option Addr) (c3 : Nat) (l3 : List Int) (r1 r2 : Int) (w : World)
    (hr1 : Kd.C k67 w A1 l1.length l1) (hc1 : l1.length ≤ c1) (hr2 : Kd.C (Kd.slice 3 (Kd.int .i64)) w A2 l2.length l2) (hc2 : l2.length ≤ c2) (hr3 : Kd.C (Kd.int .i64) w A3 l3.length l3) (hc3 : l3.length ≤ c3) (h : track_Least.f k a0 l1 l2 l3 = some (r1, r2)) :
    Calls Try.prog 32 #[.int .i64 a0, .slice A1 l1.length c1, .slice A2 l2.length c2, .slice A3 l3.length c3] w fun e w' => e = .returned (.tuple #[.int .i64 r1, .int .i64 r2]) ∧ Below w.heap.size w w' := by
  unfold track_Least.f at h
  obtain ⟨x, hx, h⟩ := Option.bind_eq_some_iff.mp h
  have HR := Aside0.mk (read_calls k a0 A1 c1 l1 A2 c2 l2 A3 c3 l3 x w hr1 hc1 hr2 hc2 hr3 hc3 hx)
  by_cases x0 : x = 0
  · subst x0
    have HG := Aside0.mk (read_zero hx)
    rw [if_pos rfl] at h
    obtain ⟨rfl, rfl⟩ : (leastOf l2.length l2 (none_ l1) l1 l3).1 = r1 ∧ (0 : Int) = r2 := by simpa using h
    have HF := Aside0.mk (fun (w : World) (G : Nat) (AJ : Option Addr) (cJ : Nat) (AL : Option Addr) (cL : Nat) (B : Nat) (AC : Option Addr) (cC : Nat) hp => free_least HG.out w G AJ cJ AL cL B AC cC hp)
    generalize leastOf l2.length l2 (none_ l1) l1 l3 = res at *
    clear hx h hr1 hc1 hr2 hc2 hr3 hc3
    go_enter Try.func32, Try.ntmps32
    go_wp2_with (fail)
    refine HR.out.mono ?_
    rintro e w1 ⟨A, rfl, hb1, hz⟩
    obtain ⟨G, rfl, hp⟩ := (by first | exact hz trivial | exact hz rfl)
    have HP := Aside0.mk (And.intro hb1 hp)
    clear hb1 hz hp HR
    go_wp2_with (fail)
    refine (HF.out w1 G _ _ _ _ _ _ _ HP.out.2).mono ?_
    rintro e w2 ⟨q, rfl, hb2, hc⟩
    have HC := Aside0.mk hc
    have HB2 := Aside0.mk (And.intro HP.out.1 hb2)
    clear hb2 hc HF
    go_wp2_with (fail)
    refine HC.out.mono ?_
    rintro e w3 ⟨rfl, hb3⟩
    clear HC
    go_wp2
    go_ret2
    exact ⟨rfl, HB2.out.1.trans (hb3.mono HB2.out.1.size)⟩
  · have xb : (x != 0) = true := bne_iff_ne.2 x0
    rw [if_neg x0] at h
    obtain ⟨rfl, rfl⟩ : (0 : Int) = r1 ∧ x = r2 := by simpa using h
    clear hx h hr1 hc1 hr2 hc2 hr3 hc3 x0
    go_enter Try.func32, Try.ntmps32
    go_wp2_with (fail)
    refine HR.out.mono ?_
    rintro e w1 ⟨A, rfl, hb1, hz⟩
    clear hz
    go_wp2
    go_ret2
    exact ⟨rfl, hb1⟩
set_option maxRecDepth 100000 in
set_option maxHeartbeats 8000000 in
theorem track_Ways.calls (k : Nat) (a0 : Int) (A1 : Option Addr) (c1 : Nat) (l1 : List S67) (A2 : Option Addr) (c2 : Nat) (l2 : List (List Int)) (A3 : Option Addr) (c3 : Nat) (l3 : List Int) (r1 r2 : Int) (w : World)
    (hr1 : Kd.C k67 w A1 l1.length l1) (hc1 : l1.length ≤ c1) (hr2 : Kd.C (Kd.slice 3 (Kd.int .i64)) w A2 l2.length l2) (hc2 : l2.length ≤ c2) (hr3 : Kd.C (Kd.int .i64) w A3 l3.length l3) (hc3 : l3.length ≤ c3) (h : track_Ways.f k a0 l1 l2 l3 = some (r1, r2)) :
    Calls Try.prog 33 #[.int .i64 a0, .slice A1 l1.length c1, .slice A2 l2.length c2, .slice A3 l3.length c3] w fun e w' => e = .returned (.tuple #[.int .i64 r1, .int .i64 r2]) ∧ Below w.heap.size w w' := by
  unfold track_Ways.f at h
  obtain ⟨x, hx, h⟩ := Option.bind_eq_some_iff.mp h
  have HR := Aside0.mk (read_calls k a0 A1 c1 l1 A2 c2 l2 A3 c3 l3 x w hr1 hc1 hr2 hc2 hr3 hc3 hx)
  by_cases x0 : x = 0
  · subst x0
    have HG := Aside0.mk (read_zero hx)
    rw [if_pos rfl] at h
    obtain ⟨rfl, rfl⟩ : (leastOf l2.length l2 (none_ l1) l1 l3).2 = r1 ∧ (0 : Int) = r2 := by simpa using h
    have HF := Aside0.mk (fun (w : World) (G : Nat) (AJ : Option Addr) (cJ : Nat) (AL : Option Addr) (cL : Nat) (B : Nat) (AC : Option Addr) (cC : Nat) hp => free_least HG.out w G AJ cJ AL cL B AC cC hp)
    generalize leastOf l2.length l2 (none_ l1) l1 l3 = res at *
    clear hx h hr1 hc1 hr2 hc2 hr3 hc3
    go_enter Try.func33, Try.ntmps33
    go_wp2_with (fail)
    refine HR.out.mono ?_
    rintro e w1 ⟨A, rfl, hb1, hz⟩
    obtain ⟨G, rfl, hp⟩ := (by first | exact hz trivial | exact hz rfl)
    have HP := Aside0.mk (And.intro hb1 hp)
    clear hb1 hz hp HR
    go_wp2_with (fail)
    refine (HF.out w1 G _ _ _ _ _ _ _ HP.out.2).mono ?_
    rintro e w2 ⟨q, rfl, hb2, hc⟩
    have HC := Aside0.mk hc
    have HB2 := Aside0.mk (And.intro HP.out.1 hb2)
    clear hb2 hc HF
    go_wp2_with (fail)
    refine HC.out.mono ?_
    rintro e w3 ⟨rfl, hb3⟩
    clear HC
    go_wp2
    go_ret2
    exact ⟨rfl, HB2.out.1.trans (hb3.mono HB2.out.1.size)⟩
  · have xb : (x != 0) = true := bne_iff_ne.2 x0
    rw [if_neg x0] at h
    obtain ⟨rfl, rfl⟩ : (0 : Int) = r1 ∧ x = r2 := by simpa using h
    clear hx h hr1 hc1 hr2 hc2 hr3 hc3 x0
    go_enter Try.func33, Try.ntmps33
    go_wp2_with (fail)
    refine HR.out.mono ?_
    rintro e w1 ⟨A, rfl, hb1, hz⟩
    clear hz
    go_wp2
    go_ret2
    exact ⟨rfl, hb1⟩
end Go.Proofs.Ytcphmeeighhdjaa.P
