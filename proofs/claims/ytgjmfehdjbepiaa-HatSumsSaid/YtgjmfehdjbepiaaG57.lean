/- The contracts of slices.IndexFunc and slices.ContainsFunc at []int, for any predicate, and of hat.valid. -/
import Derived.Test.YtgjmfehdjbepiaaPK
import Derived.Shelf.Abstract
import Derived.Lib.Hide
namespace Go.Proofs.Ytgjmfehdjbepiaa.P
set_option linter.unusedVariables false
open Go.RowKit Go.Proofs.YtgjmfehdjbepiaaW.PrintWords Go.Proofs.YtgjmfehdjbepiaaW.PrintLast Go.Proofs.YtgjmfehdjbepiaaW.PrintMore

/-- Where the first element with p is; -1: there is none. -/
def firstIdx (p : Int → Bool) (l : List Int) : Int := match l.findIdx? p with | some i => (i : Int) | none => -1
theorem firstIdx_hit {p : Int → Bool} {l : List Int} {k : Nat} (hk : k < l.length) (hp : p (rd l k) = true) (hn : ∀ j : Nat, j < k → p (rd l j) = false) : firstIdx p l = k := by
  have h : l.findIdx? p = some k := by
    rw [List.findIdx?_eq_some_iff_getElem]
    refine ⟨hk, ?_, fun j hj => ?_⟩
    · have : rd l k = l[k] := by unfold rd; simp [hk]
      rw [← this]; exact hp
    · have : rd l j = l[j] := by unfold rd; simp [Nat.lt_trans hj hk]
      rw [← this]; simp [hn j hj]
  unfold firstIdx; rw [h]
theorem firstIdx_miss {p : Int → Bool} {l : List Int} (hn : ∀ j : Nat, j < l.length → p (rd l j) = false) : firstIdx p l = -1 := by
  have h : l.findIdx? p = none := by
    rw [List.findIdx?_eq_none_iff]
    intro x hx
    obtain ⟨j, hj, rfl⟩ := List.getElem_of_mem hx
    have : rd l j = l[j] := by unfold rd; simp [hj]
    rw [← this]; exact hn j hj
  unfold firstIdx; rw [h]
theorem firstIdx_any (p : Int → Bool) (l : List Int) : decide (0 ≤ firstIdx p l) = l.any p := by
  unfold firstIdx
  cases h : l.findIdx? p with
  | none =>
    rw [List.findIdx?_eq_none_iff] at h
    symm; simp; exact h
  | some i =>
    obtain ⟨hi, hp, _⟩ := List.findIdx?_eq_some_iff_getElem.1 h
    symm; simp; exact ⟨_, List.getElem_mem hi, hp⟩

set_option maxRecDepth 100000 in
set_option maxHeartbeats 2000000 in
theorem idxFunc.calls (p : Int → Bool) (g : Nat) (lb : Array Value) (eg : ∀ args w, (callFunc g args).run Try.prog w = .ok (.enter g args) w) (A : Option Addr) (c : Nat) (l : List Int) (w : World)
    (hr : Kd.C (Kd.int .i64) w A l.length l)
    (hp : ∀ W x, Below w.heap.size w W → Calls Try.prog g (#[.int .i64 x] ++ lb) W fun e w' => e = .returned (.bool (p x)) ∧ Below w.heap.size w w') :
    Calls Try.prog 85 #[.slice A l.length c, .func (.func g) #[] lb] w fun e w' => e = .returned (.int .i64 (firstIdx p l)) ∧ Below w.heap.size w w' := by
  have hlen : l.length ≤ 9223372036854775807 := hr.2.1
  have HR := Aside0.mk hr
  clear hr
  go_enter Try.func85, Try.ntmps85
  go_wp2
  go_loopg [5, 8] l.length (fun gg _ s8 wr => ∃ kk : Nat, kk ≤ l.length ∧ l.length - kk ≤ gg ∧ s8 = .int .i64 kk ∧ Aside0 (Below w.heap.size w wr) ∧ Aside0 (∀ j : Nat, j < kk → p (rd l j) = false))
  case atStart => exact ⟨0, Nat.zero_le _, by omega, rfl, ⟨Below.refl _ w⟩, ⟨fun j hj => absurd hj (Nat.not_lt_zero _)⟩⟩
  case round =>
    obtain ⟨kk, hkk, hg, rfl, BW, A0⟩ := hrel
    by_cases hlt : kk < l.length
    · have hltz : (kk : Int) < (l.length : Int) := by omega
      obtain ⟨ad, e1, hx⟩ := Kd.at_int HR.out kk (by omega) hltz
      have hcall := hp wr (rd l kk) BW.out
      replace hx := (BW.out.cell (World.block_lt_of_cell? w _ hx)).trans hx
      rw [Int.toNat_natCast] at hx
      cases e1
      clear hp
      generalize hy : rd l kk = y at hx hcall
      have B : Aside0 (rd l kk = y) := ⟨hy⟩
      clear hy
      cases hq : p y with
      | true =>
        rw [hq] at hcall
        go_wp2_with (go_at_fn g; refine hcall.mono ?_; rintro e w' ⟨rfl, hb'⟩)
        go_ret
        refine ⟨?_, hb'⟩
        rw [firstIdx_hit hlt (by rw [B.out]; exact hq) A0.out]; rfl
      | false =>
        rw [hq] at hcall
        go_wp2_with (go_at_fn g; refine hcall.mono ?_; rintro e w' ⟨rfl, hb'⟩)
        go_roundg (l.length - (kk + 1))
        case measure => omega
        case rel =>
          refine ⟨kk + 1, by omega, by omega, by go_num, ⟨hb'⟩, ⟨fun j hj => ?_⟩⟩
          by_cases e : j = kk
          · subst e
            rw [B.out]; exact hq
          · exact A0.out j (by omega)
    · have hk := Aside0.mk (show kk = l.length by omega)
      have hltz : decide (kk < l.length) = false := decide_eq_false (by omega)
      clear hlt hg hkk hlen
      go_wp2
      go_ret
      refine ⟨?_, BW.out⟩
      rw [firstIdx_miss (fun j hj => A0.out j (by have := hk.out; omega))]; rfl

theorem containsFunc.calls (p : Int → Bool) (g : Nat) (lb : Array Value) (eg : ∀ args w, (callFunc g args).run Try.prog w = .ok (.enter g args) w) (A : Option Addr) (c : Nat) (l : List Int) (w : World)
    (hr : Kd.C (Kd.int .i64) w A l.length l)
    (hp : ∀ W x, Below w.heap.size w W → Calls Try.prog g (#[.int .i64 x] ++ lb) W fun e w' => e = .returned (.bool (p x)) ∧ Below w.heap.size w w') :
    Calls Try.prog 78 #[.slice A l.length c, .func (.func g) #[] lb] w fun e w' => e = .returned (.bool (l.any p)) ∧ Below w.heap.size w w' := by
  have hcall := idxFunc.calls p g lb eg A c l w hr hp
  clear hp hr eg
  rw [← firstIdx_any]
  go_enter Try.func78, Try.ntmps78
  go_wp2_with (go_at_call 85; refine hcall.mono ?_; rintro e w' ⟨rfl, hb'⟩)
  go_ret
  exact ⟨rfl, hb'⟩

/-- The predicate of hat.valid's function literal. -/
def outside (q c : Int) : Bool := decide (c < 0) || decide (c ≥ q)
theorem valid_lit (q : Int) (B : Nat) (W : World) (x : Int) (hc : W.cell? ⟨B, 0, none⟩ = some (.int .i64 q)) :
    Calls Try.prog 79 #[.int .i64 x, .pointer (some ⟨B, 0, none⟩)] W fun e w' => e = .returned (.bool (outside q x)) ∧ Drawn0 W w' := by
  by_cases h1 : x < 0
  · have h1b : decide (x < 0) = true := decide_eq_true h1
    have hf : Aside0 (outside q x = true) := ⟨by simp [outside, h1]⟩
    clear h1
    go_enter Try.func79, Try.ntmps79
    go_wp2
    repeat (go_quiet (fail); try go_wp2)
    go_ret
    exact ⟨by rw [hf.out]; rfl, by repeat (first | exact Drawn0.refl _ | apply Drawn0.step)⟩
  · have h1b : decide (x < 0) = false := decide_eq_false h1
    have hf : Aside0 (outside q x = decide (q ≤ x)) := ⟨by simp [outside, h1]⟩
    clear h1
    go_enter Try.func79, Try.ntmps79
    go_wp2
    repeat (go_quiet (fail); try go_wp2)
    go_ret
    exact ⟨by rw [hf.out]; rfl, by repeat (first | exact Drawn0.refl _ | apply Drawn0.step)⟩

/-- What hat.valid answers. -/
def hat_valid.f (kind : Int) (hats : List Int) (n q : Int) : Option Bool :=
  if kind = 1 then (if hats.length = 1 ∨ hats.length = 3 ∨ hats.length = 7 then some (!(hats.any (outside 2))) else some false)
  else if kind = 2 then (if 1 ≤ hats.length ∧ hats.length ≤ 12 then some (!(hats.any (outside q))) else some false)
  else if (hats.length : Int) = n then some (!(hats.any (outside q))) else some false

theorem valid_tail (A : Option Addr) (c : Nat) (l : List Int) (w : World) (hr : Kd.C (Kd.int .i64) w A l.length l) (W : World) (qq : Int) (hb : Below w.heap.size w W) (hs : w.heap.size < W.heap.size)
    (hc : W.cell? ⟨w.heap.size, 0, none⟩ = some (.int .i64 qq)) :
    Calls Try.prog 78 #[.slice A l.length c, .func (.func 79) #[] #[.pointer (some ⟨w.heap.size, 0, none⟩)]] W fun e w' => e = .returned (.bool (l.any (outside qq))) ∧ Below w.heap.size w w' := by
  refine (containsFunc.calls (outside qq) 79 #[.pointer (some ⟨w.heap.size, 0, none⟩)] (Go.Proofs.enters_of Try.func79 (by kernel_rfl) rfl) A c l W (Kd.C_below hr hb) ?_).mono ?_
  · intro W2 x hb2
    refine (valid_lit qq w.heap.size W2 x ((hb2.cell (p := ⟨w.heap.size, 0, none⟩) hs).trans hc)).mono ?_
    rintro e w' ⟨rfl, hd⟩
    exact ⟨rfl, hb2.trans (hd.below.mono hb2.size)⟩
  · rintro e w' ⟨rfl, hb2⟩
    exact ⟨rfl, hb.trans (hb2.mono hb.size)⟩

theorem valid_alloc (A : Option Addr) (c : Nat) (l : List Int) (w : World) (hr : Kd.C (Kd.int .i64) w A l.length l) (qq : Int) :
    Calls Try.prog 78 #[.slice A l.length c, .func (.func 79) #[] #[.pointer (some ⟨w.heap.size, 0, none⟩)]] (w.alloc (.cells #[.int .i64 qq] 3)) fun e w' => e = .returned (.bool (l.any (outside qq))) ∧ Below w.heap.size w w' :=
  valid_tail A c l w hr _ qq (below_alloc (Below.refl _ _) _) (by simp) (by simp)

set_option maxRecDepth 100000 in
set_option maxHeartbeats 4000000 in
theorem hat_valid.calls (a0 : Int) (A1 : Option Addr) (c1 : Nat) (l1 : List Int) (a2 : Int) (a3 : Int) (r : Bool) (w : World) (hr1 : Kd.C (Kd.int .i64) w A1 l1.length l1) (hc1 : l1.length ≤ c1) (h : hat_valid.f a0 l1 a2 a3 = some r) :
    Calls Try.prog 57 #[.int .i64 a0, .slice A1 l1.length c1, .int .i64 a2, .int .i64 a3] w fun e w' => e = .returned (.bool r) ∧ Below w.heap.size w w' := by
  have HT2 := Aside0.mk (valid_alloc A1 c1 l1 w hr1 2)
  have HT := Aside0.mk (valid_alloc A1 c1 l1 w hr1 a3)
  have HB := Aside0.mk (below_alloc (Below.refl w.heap.size w) (.cells #[.int .i64 a3] 3))
  have HB2 := Aside0.mk (below_alloc (Below.refl w.heap.size w) (.cells #[.int .i64 2] 3))
  clear hr1 hc1
  unfold hat_valid.f at h
  have t0 : (l1.length == l1.length) = true := by simp
  by_cases k1 : a0 = 1
  · rw [if_pos k1] at h
    subst k1
    have t1 : ((l1.length : Int) != 1) = decide (l1.length ≠ 1) := by rw [Bool.eq_iff_iff]; simp; omega
    have t3 : ((l1.length : Int) != 3) = decide (l1.length ≠ 3) := by rw [Bool.eq_iff_iff]; simp; omega
    have t7 : ((l1.length : Int) != 7) = decide (l1.length ≠ 7) := by rw [Bool.eq_iff_iff]; simp; omega
    by_cases n1 : l1.length = 1
    · rw [if_pos (.inl n1)] at h
      obtain rfl := Option.some.inj h
      rw [decide_eq_false (by omega)] at t1; clear n1 t3 t7
      go_enter Try.func57, Try.ntmps57
      go_wp2_with (go_at_call 78; refine HT2.out.mono ?_; rintro e w' ⟨rfl, hb'⟩)
      go_ret
      exact ⟨rfl, hb'⟩
    · by_cases n3 : l1.length = 3
      · rw [if_pos (.inr (.inl n3))] at h
        obtain rfl := Option.some.inj h
        rw [decide_eq_true n1] at t1; rw [decide_eq_false (by omega)] at t3; clear n1 n3 t7
        go_enter Try.func57, Try.ntmps57
        go_wp2_with (go_at_call 78; refine HT2.out.mono ?_; rintro e w' ⟨rfl, hb'⟩)
        go_ret
        exact ⟨rfl, hb'⟩
      · by_cases n7 : l1.length = 7
        · rw [if_pos (.inr (.inr n7))] at h
          obtain rfl := Option.some.inj h
          rw [decide_eq_true n1] at t1; rw [decide_eq_true n3] at t3; rw [decide_eq_false (by omega)] at t7; clear n1 n3 n7
          go_enter Try.func57, Try.ntmps57
          go_wp2_with (go_at_call 78; refine HT2.out.mono ?_; rintro e w' ⟨rfl, hb'⟩)
          go_ret
          exact ⟨rfl, hb'⟩
        · rw [if_neg (by omega)] at h
          obtain rfl := Option.some.inj h
          rw [decide_eq_true n1] at t1; rw [decide_eq_true n3] at t3; rw [decide_eq_true n7] at t7; clear n1 n3 n7
          go_enter Try.func57, Try.ntmps57
          go_wp2
          go_ret
          exact ⟨rfl, HB2.out⟩
  · rw [if_neg k1] at h
    have k1b : (a0 == 1) = false := beq_eq_false_iff_ne.2 k1
    by_cases k2 : a0 = 2
    · rw [if_pos k2] at h
      subst k2
      clear k1
      by_cases n1 : l1.length < 1
      · rw [if_neg (by omega)] at h
        obtain rfl := Option.some.inj h
        have n1b : decide ((l1.length : Int) < 1) = true := decide_eq_true (by omega)
        have n1c : decide (l1.length < 1) = true := decide_eq_true n1
        clear n1
        go_enter Try.func57, Try.ntmps57
        go_wp2
        go_ret
        exact ⟨rfl, HB.out⟩
      · have n1b : decide ((l1.length : Int) < 1) = false := decide_eq_false (by omega)
        have n1c : decide (l1.length < 1) = false := decide_eq_false n1
        by_cases n2 : l1.length > 12
        · rw [if_neg (by omega)] at h
          obtain rfl := Option.some.inj h
          have n2b : decide (12 < (l1.length : Int)) = true := decide_eq_true (by omega)
          have n2c : decide (12 < l1.length) = true := decide_eq_true n2
          clear n1 n2
          go_enter Try.func57, Try.ntmps57
          go_wp2
          go_ret
          exact ⟨rfl, HB.out⟩
        · rw [if_pos (by omega)] at h
          obtain rfl := Option.some.inj h
          have n2b : decide (12 < (l1.length : Int)) = false := decide_eq_false (by omega)
          have n2c : decide (12 < l1.length) = false := decide_eq_false n2
          clear n1 n2
          go_enter Try.func57, Try.ntmps57
          go_wp2_with (go_at_call 78; refine HT.out.mono ?_; rintro e w' ⟨rfl, hb'⟩)
          go_ret
          exact ⟨rfl, hb'⟩
    · rw [if_neg k2] at h
      have k2b : (a0 == 2) = false := beq_eq_false_iff_ne.2 k2
      clear k1 k2
      by_cases n1 : (l1.length : Int) = a2
      · rw [if_pos n1] at h
        obtain rfl := Option.some.inj h
        have n1b : ((l1.length : Int) == a2) = true := beq_iff_eq.2 n1
        clear n1
        go_enter Try.func57, Try.ntmps57
        go_wp2_with (go_at_call 78; refine HT.out.mono ?_; rintro e w' ⟨rfl, hb'⟩)
        go_ret
        exact ⟨rfl, hb'⟩
      · rw [if_neg n1] at h
        obtain rfl := Option.some.inj h
        have n1b : ((l1.length : Int) == a2) = false := beq_eq_false_iff_ne.2 n1
        clear n1
        go_enter Try.func57, Try.ntmps57
        go_wp2
        go_ret
        exact ⟨rfl, HB.out⟩

end Go.Proofs.Ytgjmfehdjbepiaa.P
