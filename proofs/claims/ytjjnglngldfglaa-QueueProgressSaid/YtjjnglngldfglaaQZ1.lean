/- advance of the laws; a row of numbers beside a shop; bits of small numbers. -/
import Derived.Test.YtjjnglngldfglaaQW1
import Derived.Laws.BitsLemmas
import Derived.RegionTactic
import Derived.BigRegion
namespace Go.Proofs.Ytjjnglngldfglaa.P
set_option linter.unusedVariables false
open Go Go.RowKit Go.Proofs.YtjjnglngldfglaaW.PrintWords Go.Proofs.YtjjnglngldfglaaW.PrintLast Go.Proofs.YtjjnglngldfglaaW.PrintMore

theorem okSh_at {sh : Sh} (h : okSh sh) (k : Nat) (hk : k < sh.sc.length) : okSt sh.sc.length (scAt sh k).st := h.2 k hk
theorem errI_nat {sh : Sh} {k : Nat} (hk : k < sh.sc.length) : errI sh k = 0 := by unfold errI; rw [if_neg (by omega), if_neg (by omega)]
theorem stOf_nat {sh : Sh} {k : Nat} (hk : k < sh.sc.length) : stOf sh k = (scAt sh k).st.num := by unfold stOf; rw [if_pos (errI_nat hk)]
theorem noOf_nat {sh : Sh} {k : Nat} (hk : k < sh.sc.length) : noOf sh k = (scAt sh k).no := by unfold noOf; rw [if_pos (errI_nat hk)]
theorem num_idle (s : St) : s.isIdle = true ↔ s.num = 0 := by cases s <;> simp [St.isIdle, St.num]
theorem stepR_busy {sh : Sh} {k : Nat} (h : ¬ (scAt sh k).st.isIdle = true) : stepR sh k = 0 := by
  unfold stepR
  cases hs : (scAt sh k).st <;> first | rfl | (rw [hs] at h; exact absurd rfl h)
set_option maxRecDepth 100000 in
set_option maxHeartbeats 400000 in
theorem advance_calls (W : World) (b g gs : Nat) (sh : Sh) (h : Shp W b g gs sh) (hok : okSh sh) (hb : b ≤ W.heap.size) (k : Nat) (hk : k < sh.sc.length) :
    Calls Try.prog 18 #[.pointer (some ⟨g, 0, none⟩), .int .i64 k] W fun e w' => e = .returned (.bool true) ∧ Shp w' b g gs (adv sh k) ∧ Moved W w' b g gs := by
  have HS := Aside0.mk (Stage_calls W b g gs sh h k)
  rw [stOf_nat hk] at HS
  have H := Aside0.mk h
  have HK := Aside0.mk (And.intro hk hb)
  have HO := Aside0.mk hok
  clear h hok hk hb
  by_cases c : (scAt sh k).st.isIdle = true
  · have c0 := (num_idle _).1 c
    obtain ⟨q1, q2⟩ := want_idle HK.out.1 c
    rw [c0] at HS
    have HQ := Aside0.mk (And.intro q1 q2)
    clear c0 c q1 q2
    go_enter Try.func18, Try.ntmps18
    go_wp2_with (fail)
    with_reducible refine HS.out.mono ?_
    rintro e w1 ⟨rfl, hb1⟩
    have H1 := Aside0.mk (H.out.below hb1)
    have M1 := Aside0.mk (Moved.of_below (g := g) (gs := gs) hb1 HK.out.2)
    clear hb1
    go_wp2_with (fail)
    with_reducible refine (Want_calls w1 b g gs sh H1.out k).mono ?_
    rintro e w2 ⟨rfl, hs, hm⟩
    rw [HQ.out.2] at hs
    have H2 := Aside0.mk hs
    have M2 := Aside0.mk (M1.out.trans hm)
    rw [HQ.out.1]
    clear hs hm
    go_wp2
    go_ret
    exact ⟨rfl, H2.out, M2.out⟩
  · have c0 : (scAt sh k).st.num ≠ 0 := fun e => c ((num_idle _).2 e)
    have c1 : ((scAt sh k).st.num == 0) = false := beq_eq_false_iff_ne.2 c0
    have HQ := Aside0.mk (And.intro (want_busy HK.out.1 c).2.2 (stepR_busy c))
    generalize (scAt sh k).st.num = nn at *
    clear c0 c
    go_enter Try.func18, Try.ntmps18
    go_wp2_with (fail)
    with_reducible refine HS.out.mono ?_
    rintro e w1 ⟨rfl, hb1⟩
    have H1 := Aside0.mk (H.out.below hb1)
    have M1 := Aside0.mk (Moved.of_below (g := g) (gs := gs) hb1 HK.out.2)
    have Z1 := Aside0.mk (Nat.le_trans HK.out.2 hb1.size)
    clear hb1
    go_wp2_with (fail)
    with_reducible refine (Step_calls w1 b g gs sh H1.out k HK.out.1 (okSh_at HO.out k HK.out.1) Z1.out).mono ?_
    rintro e w2 ⟨rfl, hs, hm⟩
    rw [← HQ.out.1] at hs
    have H2 := Aside0.mk hs
    have M2 := Aside0.mk (M1.out.trans hm)
    rw [HQ.out.2]
    clear hs hm
    go_wp2
    go_ret
    exact ⟨rfl, H2.out, M2.out⟩

/-- A block that holds a row of numbers. -/
def Blk (w : World) (ga : Nat) (ah : List Int) : Prop := w.heap[ga]? = some (.cells (ah.map (Value.int .i64)).toArray 3 (0, 0))
section
variable {W W1 : World} {b g gs ga : Nat} {sh : Sh} {ah : List Int}
theorem Blk.lt (h : Blk W ga ah) : ga < W.heap.size := (Array.getElem?_eq_some_iff.1 h).1
theorem Blk.cell (h : Blk W ga ah) (j : Nat) (hj : j < ah.length) : W.cell? ⟨ga, j, none⟩ = some (.int .i64 (rd ah j)) := by
  unfold Blk at h
  simp only [World.cell?, h]
  unfold rd
  simp [hj]
theorem Blk.fz (h : Blk W ga ah) (j : Nat) : W.frozen? ⟨ga, j, none⟩ = false := by
  unfold Blk at h
  simp [World.frozen?, h]
theorem Blk.set (h : Blk W ga ah) (j : Nat) (x : Int) : Blk (W.setCell ⟨ga, j, none⟩ (.int .i64 x)) ga (ah.set j x) := by
  unfold Blk at *
  rw [heap_setCell_same W ga _ _ 3 _ h]
  simp [List.map_set]
theorem Blk.drew (h : Blk W ga ah) : Blk W.drew ga ah := h
theorem Blk.ne (h : Blk W ga ah) (hs : Shp W b g gs sh) : ga ≠ g ∧ ga ≠ gs := by
  unfold Blk at h
  refine ⟨fun e => ?_, fun e => ?_⟩
  · have h0 := hs.hg
    rw [← e, h] at h0
    have := Option.some.inj h0
    injection this with _ e2 _
    exact absurd e2 (by decide)
  · obtain ⟨_, h0⟩ := hs.hs
    rw [← e, h] at h0
    have := Option.some.inj h0
    injection this with _ e2 _
    exact absurd e2 (by decide)
theorem Blk.below (h : Blk W ga ah) (hb : Below W.heap.size W W1) : Blk W1 ga ah := (hb.block ga h.lt).trans h
theorem Blk.moved (h : Blk W ga ah) (hs : Shp W b g gs sh) (m : Moved W W1 b g gs) : Blk W1 ga ah := (m.keep ga h.lt (h.ne hs).1 (h.ne hs).2).trans h
theorem Shp.drew (h : Shp W b g gs sh) : Shp W.drew b g gs sh := ⟨h.hg, h.hs, h.bg, h.bs, h.pos, h.few⟩
theorem Shp.set (hs : Shp W b g gs sh) (h : Blk W ga ah) (j : Nat) (x : Value) : Shp (W.setCell ⟨ga, j, none⟩ x) b g gs sh := by
  obtain ⟨n1, n2⟩ := h.ne hs
  obtain ⟨r, h0⟩ := hs.hs
  exact ⟨(Below.heap_setCell W _ _ g (Ne.symm n1)).trans hs.hg, ⟨r, (Below.heap_setCell W _ _ gs (Ne.symm n2)).trans h0⟩, hs.bg, hs.bs, hs.pos, hs.few⟩
end
theorem rd_set (l : List Int) (j i : Nat) (x : Int) (hj : j < l.length) : rd (l.set j x) i = if i = j then x else rd l i := by
  unfold rd
  by_cases e : i = j
  · subst e; rw [if_pos rfl]; simp [hj]
  · rw [if_neg e]; simp [List.getD_eq_getElem?_getD, List.getElem?_set_ne (Ne.symm e)]
/-- A bit of a small number. -/
def hasb (x : Int) (c : Nat) : Bool := decide (x / 2 ^ c % 2 = 1)
theorem or_tab : ∀ x ∈ List.range 16, ∀ c ∈ List.range 4, 0 ≤ bits .or .i64 (x : Nat) (2 ^ c : Int) ∧ bits .or .i64 (x : Nat) (2 ^ c : Int) < 16 ∧ ∀ d ∈ List.range 4, hasb (bits .or .i64 (x : Nat) (2 ^ c : Int)) d = (hasb (x : Nat) d || decide (d = c)) := by decide +kernel
theorem an_tab : ∀ x ∈ List.range 16, ∀ c ∈ List.range 4, 0 ≤ bits .andNot .i64 (x : Nat) (2 ^ c : Int) ∧ bits .andNot .i64 (x : Nat) (2 ^ c : Int) < 16 ∧ ∀ d ∈ List.range 4, hasb (bits .andNot .i64 (x : Nat) (2 ^ c : Int)) d = (hasb (x : Nat) d && decide (d ≠ c)) := by decide +kernel
theorem zero_tab : ∀ x ∈ List.range 16, (∀ d ∈ List.range 4, hasb (x : Nat) d = false) → x = 0 := by decide +kernel
theorem bit_or {x : Int} (h0 : 0 ≤ x) (h1 : x < 16) {c : Nat} (hc : c < 4) : 0 ≤ bits .or .i64 x (2 ^ c : Int) ∧ bits .or .i64 x (2 ^ c : Int) < 16 ∧ ∀ d, d < 4 → hasb (bits .or .i64 x (2 ^ c : Int)) d = (hasb x d || decide (d = c)) := by
  obtain ⟨n, rfl⟩ := Int.eq_ofNat_of_zero_le h0
  obtain ⟨a, b, c'⟩ := or_tab n (List.mem_range.2 (by omega)) c (List.mem_range.2 hc)
  exact ⟨a, b, fun d hd => c' d (List.mem_range.2 hd)⟩
theorem bit_an {x : Int} (h0 : 0 ≤ x) (h1 : x < 16) {c : Nat} (hc : c < 4) : 0 ≤ bits .andNot .i64 x (2 ^ c : Int) ∧ bits .andNot .i64 x (2 ^ c : Int) < 16 ∧ ∀ d, d < 4 → hasb (bits .andNot .i64 x (2 ^ c : Int)) d = (hasb x d && decide (d ≠ c)) := by
  obtain ⟨n, rfl⟩ := Int.eq_ofNat_of_zero_le h0
  obtain ⟨a, b, c'⟩ := an_tab n (List.mem_range.2 (by omega)) c (List.mem_range.2 hc)
  exact ⟨a, b, fun d hd => c' d (List.mem_range.2 hd)⟩
theorem bit_zero {x : Int} (h0 : 0 ≤ x) (h1 : x < 16) (h : ∀ d, d < 4 → hasb x d = false) : x = 0 := by
  obtain ⟨n, rfl⟩ := Int.eq_ofNat_of_zero_le h0
  have := zero_tab n (List.mem_range.2 (by omega)) (fun d hd => h d (List.mem_range.1 hd))
  omega
theorem hasb_zero (d : Nat) : hasb 0 d = false := by simp [hasb]

/-- What a step does to its scout. -/
def AdvAt (n : Int) (a x : Sc) (hi : Int → Int) : Prop :=
  match a.st with
  | .idle => x = ⟨a.ch, a.no, .announce⟩
  | .announce => x = ⟨true, a.no, .read 0 0⟩
  | .read j seen => ∃ s, seen ≤ s ∧ hi j ≤ s ∧ (s = seen ∨ s = hi j) ∧ ((j + 1 = n ∧ x = ⟨a.ch, a.no, .take s⟩) ∨ (j + 1 ≠ n ∧ x = ⟨a.ch, a.no, .read (j + 1) s⟩))
  | .take seen => x = ⟨a.ch, seen + 1, .announced⟩
  | .announced => x = ⟨false, a.no, .choice 0⟩
  | .choice j => x.no = a.no ∧ ((j = n ∧ x.st = .inside) ∨ (j ≠ n ∧ ∃ i, x.st = .choice i ∨ x.st = .turn i))
  | .turn _ => x.no = a.no ∧ ∃ i, x.st = .choice i ∨ x.st = .turn i
  | .inside => x = ⟨a.ch, 0, .idle⟩
theorem adv_ne (sh : Sh) (m i : Nat) (him : i ≠ m) (hi : i < sh.sc.length) : scAt (adv sh m) i = scAt sh i := by
  have e : ∀ (c : Bool) (no : Int) (s : St) (t : Int), scAt { upd sh m c no s with tk := t } i = scAt sh i := fun c no s t => scAt_upd_ne sh m i him hi c no s
  have e' : ∀ (c : Bool) (no : Int) (s : St), scAt (upd sh m c no s) i = scAt sh i := fun c no s => scAt_upd_ne sh m i him hi c no s
  unfold adv
  split
  · exact e' _ _ _
  · unfold stepS
    split <;> (try split) <;> (try split) <;> (try split) <;> first | rfl | exact e' _ _ _ | exact e _ _ _ _
theorem adv_at {sh : Sh} {t : Int} (h : Bak sh t) (ht : t < 1000000) (m : Nat) (hm : m < sh.sc.length) : AdvAt sh.sc.length (scAt sh m) (scAt (adv sh m) m) (fun j => (scAt sh j).no) := by
  have hw := h.wf m hm
  have h4 := h.few
  have e' : ∀ (c : Bool) (no : Int) (s : St), scAt (upd sh m c no s) m = ⟨c, no, s⟩ := fun c no s => upd_at sh m c no s hm
  have e : ∀ (c : Bool) (no : Int) (s : St) (t : Int), scAt { upd sh m c no s with tk := t } m = ⟨c, no, s⟩ := fun c no s t => e' c no s
  unfold adv
  by_cases c : (scAt sh m).st.isIdle = true
  · rw [if_pos c, e']
    have hs : (scAt sh m).st = .idle := by
      cases hs : (scAt sh m).st <;> rw [hs] at c <;> first | rfl | exact absurd c (by simp [St.isIdle])
    unfold AdvAt
    rw [hs]
  · rw [if_neg c]
    unfold AdvAt stepS
    unfold Wf at hw
    cases hs : (scAt sh m).st with
    | idle => rw [hs] at c; exact absurd rfl c
    | announce => exact e' _ _ _
    | read j seen =>
      simp only [e']
      refine ⟨(if seen < (scAt sh j).no then (scAt sh j).no else seen), by split <;> omega, by split <;> omega, by split <;> simp, ?_⟩
      by_cases q : j + 1 = sh.sc.length
      · exact .inl ⟨q, by simp only [if_pos q]⟩
      · exact .inr ⟨q, by simp only [if_neg q]⟩
    | take seen =>
      rw [hs] at hw
      obtain ⟨-, -, w3, w4⟩ := hw
      have ew : wrap64 (seen + 1) = seen + 1 := by unfold wrap64; omega
      simp only [e', ew]
    | announced => exact e' _ _ _
    | choice j =>
      rw [hs] at hw
      obtain ⟨-, -, -, w4, w5⟩ := hw
      by_cases q : j = sh.sc.length
      · simp only [if_pos q, e]
        exact ⟨trivial, .inl ⟨q, trivial⟩⟩
      · simp only [if_neg q]
        by_cases q2 : j = m
        · simp only [if_pos q2, e']
          exact ⟨trivial, .inr ⟨q, _, .inl rfl⟩⟩
        · simp only [if_neg q2]
          by_cases q3 : (scAt sh j).ch = true ∧ sh.cl = false
          · simp only [if_pos q3]
            exact ⟨trivial, .inr ⟨q, j, .inl hs⟩⟩
          · simp only [if_neg q3, e']
            exact ⟨trivial, .inr ⟨q, _, .inr rfl⟩⟩
    | turn j =>
      by_cases q : firstOf sh j m = true
      · simp only [if_pos q]
        exact ⟨trivial, j, .inr hs⟩
      · simp only [if_neg q, e']
        exact ⟨trivial, _, .inl rfl⟩
    | inside => exact e' _ _ _
theorem sh_small (a : Nat) (h : a < 4) : wrap64 ((2 : Int) ^ min a 64) = (2 : Int) ^ a := by
  obtain rfl | rfl | rfl | rfl : a = 0 ∨ a = 1 ∨ a = 2 ∨ a = 3 := by omega
  all_goals decide +kernel
/-- Elder blocks are left alone, but for the shop's. -/
def Fr (W w' : World) (g gs : Nat) : Prop := ∀ k, k < W.heap.size → k ≠ g → k ≠ gs → w'.heap[k]? = W.heap[k]?
section
variable {W W1 W2 : World} {b g gs ga : Nat} {sh : Sh} {ah l : List Int}
theorem Fr.refl (W : World) (g gs : Nat) : Fr W W g gs := fun _ _ _ _ => rfl
theorem Fr.below (h : Fr W W1 g gs) (hb : Below W1.heap.size W1 W2) (hz : W.heap.size ≤ W1.heap.size) : Fr W W2 g gs := fun k hk h1 h2 => (hb.block k (by omega)).trans (h k hk h1 h2)
theorem Fr.moved (h : Fr W W1 g gs) (hm : Moved W1 W2 b g gs) (hz : W.heap.size ≤ W1.heap.size) : Fr W W2 g gs := fun k hk h1 h2 => (hm.keep k (by omega) h1 h2).trans (h k hk h1 h2)
theorem Fr.set (h : Fr W W1 g gs) (hga : W.heap.size ≤ ga) (j : Nat) (x : Value) : Fr W (W1.setCell ⟨ga, j, none⟩ x) g gs := fun k hk h1 h2 => (Below.heap_setCell W1 _ _ k (by show k ≠ ga; omega)).trans (h k hk h1 h2)
theorem Fr.drew (h : Fr W W1 g gs) : Fr W W1.drew g gs := h
theorem R_kept {base : Nat} {ok : Nat → Prop} {v : Value} (h : Shp W b g gs sh) (hr : Kd.R (Kd.int .i64) 3 W base ok v l) :
    ∃ A c, v = .slice A l.length c ∧ l.length ≤ c ∧ ∀ w', Fr W w' g gs → Kd.C (Kd.int .i64) w' A l.length l := by
  obtain ⟨A, c, rfl, hc, hC⟩ := Kd.R_reads hr
  refine ⟨A, c, rfl, hc, fun w' m => ?_⟩
  obtain ⟨rest, h0⟩ := h.hs
  have h1 := Kd.R_types (Kd.R_types hr h.hg (by decide)) h0 (by decide)
  have h2 : Kd.R (Kd.int .i64) 3 w' base _ _ l := Kd.R_step h1 (fun k hk hlt => m k hlt hk.1.2 hk.2)
  obtain ⟨A', c', e, _, hC'⟩ := Kd.R_reads h2
  injection e with e1 _ _
  rw [e1]; exact hC'
theorem made_zero (k : Nat) : madeCells #[.int .i64 0] k = ((List.replicate k (0 : Int)).map (Value.int .i64)).toArray := by
  apply Array.ext'
  unfold madeCells
  simp
  apply List.ext_getElem
  · simp
  · intro i h1 h2; simp [Nat.mod_one]
end
theorem leave_one {sh : Sh} {t : Int} (hB : Bak sh t) (ht : t < 1000000) (v : Nat) (hv : v < sh.sc.length) (h0 : (scAt sh v).st.num = 1) : (scAt sh v).st = .announce ∧ (scAt (adv sh v) v).st.num = 2 := by
  have hat := adv_at hB ht v hv
  generalize scAt (adv sh v) v = x at *
  unfold AdvAt at hat
  cases hs : (scAt sh v).st <;> (rw [hs] at h0 hat) <;> simp [St.num] at h0
  subst hat
  exact ⟨rfl, rfl⟩
end Go.Proofs.Ytjjnglngldfglaa.P
