/- The contracts of slices.IndexFunc and slices.ContainsFunc at []int and at [][]int, for any predicate, and of track.states. -/
import Derived.Test.YtcphmeeighhdjaaPK
import Derived.Shelf.Abstract
import Derived.Lib.Hide
namespace Go.Proofs.Ytcphmeeighhdjaa.P
set_option linter.unusedVariables false
open Go.RowKit Go.Proofs.YtcphmeeighhdjaaW.PrintWords Go.Proofs.YtcphmeeighhdjaaW.PrintLast Go.Proofs.YtcphmeeighhdjaaW.PrintMore

/-- Where the first element with p is; -1: there is none. -/
def firstIdx (p : Int → Bool) (l : List Int) : Int := match l.findIdx? p with | some i => (i : Int) | none => -1
theorem firstIdx_hit {p : Int → Bool} {l : List Int} {k : Nat} (hk : k < l.length) (hp : p (rd l k) = true) (hn : ∀ j : Nat, j < k → p (rd l j) = false) : firstIdx p l = k := by
  have h : l.findIdx? p = some k := by
    rw [List.findIdx?_eq_some_iff_getElem]
    refine ⟨hk, ?_, fun j hj => ?_⟩
    · have : rd l k = l[k] := by unfold rd; simp [hk]
      rw [← this]; exact hp
    · have : rd l j = l[j] := by unfold rd; simp [Nat.lt_trans hj hk]
      rw [← this]; simp [hn j hj]
  unfold firstIdx; rw [h]
theorem firstIdx_miss {p : Int → Bool} {l : List Int} (hn : ∀ j : Nat, j < l.length → p (rd l j) = false) : firstIdx p l = -1 := by
  have h : l.findIdx? p = none := by
    rw [List.findIdx?_eq_none_iff]
    intro x hx
    obtain ⟨j, hj, rfl⟩ := List.getElem_of_mem hx
    have : rd l j = l[j] := by unfold rd; simp [hj]
    rw [← this]; exact hn j hj
  unfold firstIdx; rw [h]
theorem firstIdx_any (p : Int → Bool) (l : List Int) : decide (0 ≤ firstIdx p l) = l.any p := by
  unfold firstIdx
  cases h : l.findIdx? p with
  | none =>
    rw [List.findIdx?_eq_none_iff] at h
    symm; simp; exact h
  | some i =>
    obtain ⟨hi, hp, _⟩ := List.findIdx?_eq_some_iff_getElem.1 h
    symm; simp; exact ⟨_, List.getElem_mem hi, hp⟩

set_option maxRecDepth 100000 in
set_option maxHeartbeats 2000000 in
theorem idxFunc.calls (p : Int → Bool) (g : Nat) (lb : Array Value) (eg : ∀ args w, (callFunc g args).run Try.prog w = .ok (.enter g args) w) (A : Option Addr) (c : Nat) (l : List Int) (w : World)
    (hr : Kd.C (Kd.int .i64) w A l.length l)
    (hp : ∀ W x, Below w.heap.size w W → Calls Try.prog g (#[.int .i64 x] ++ lb) W fun e w' => e = .returned (.bool (p x)) ∧ Below w.heap.size w w') :
    Calls Try.prog 81 #[.slice A l.length c, .func (.func g) #[] lb] w fun e w' => e = .returned (.int .i64 (firstIdx p l)) ∧ Below w.heap.size w w' := by
  have hlen : l.length ≤ 9223372036854775807 := hr.2.1
  have HR := Aside0.mk hr
  clear hr
  go_enter Try.func81, Try.ntmps81
  go_wp2
  go_loopg [5, 8] l.length (fun gg _ s8 wr => ∃ kk : Nat, kk ≤ l.length ∧ l.length - kk ≤ gg ∧ s8 = .int .i64 kk ∧ Aside0 (Below w.heap.size w wr) ∧ Aside0 (∀ j : Nat, j < kk → p (rd l j) = false))
  case atStart => exact ⟨0, Nat.zero_le _, by omega, rfl, ⟨Below.refl _ w⟩, ⟨fun j hj => absurd hj (Nat.not_lt_zero _)⟩⟩
  case round =>
    obtain ⟨kk, hkk, hg, rfl, BW, A0⟩ := hrel
    by_cases hlt : kk < l.length
    · have hltz : (kk : Int) < (l.length : Int) := by omega
      obtain ⟨ad, e1, hx⟩ := Kd.at_int HR.out kk (by omega) hltz
      have hcall := hp wr (rd l kk) BW.out
      replace hx := (BW.out.cell (World.block_lt_of_cell? w _ hx)).trans hx
      rw [Int.toNat_natCast] at hx
      cases e1
      clear hp
      generalize hy : rd l kk = y at hx hcall
      have B : Aside0 (rd l kk = y) := ⟨hy⟩
      clear hy
      cases hq : p y with
      | true =>
        rw [hq] at hcall
        go_wp2_with (go_at_fn g; refine hcall.mono ?_; rintro e w' ⟨rfl, hb'⟩)
        go_ret
        refine ⟨?_, hb'⟩
        rw [firstIdx_hit hlt (by rw [B.out]; exact hq) A0.out]; rfl
      | false =>
        rw [hq] at hcall
        go_wp2_with (go_at_fn g; refine hcall.mono ?_; rintro e w' ⟨rfl, hb'⟩)
        go_roundg (l.length - (kk + 1))
        case measure => omega
        case rel =>
          refine ⟨kk + 1, by omega, by omega, by go_num, ⟨hb'⟩, ⟨fun j hj => ?_⟩⟩
          by_cases e : j = kk
          · subst e
            rw [B.out]; exact hq
          · exact A0.out j (by omega)
    · have hk := Aside0.mk (show kk = l.length by omega)
      have hltz : decide (kk < l.length) = false := decide_eq_false (by omega)
      clear hlt hg hkk hlen
      go_wp2
      go_ret
      refine ⟨?_, BW.out⟩
      rw [firstIdx_miss (fun j hj => A0.out j (by have := hk.out; omega))]; rfl

theorem containsFunc.calls (p : Int → Bool) (g : Nat) (lb : Array Value) (eg : ∀ args w, (callFunc g args).run Try.prog w = .ok (.enter g args) w) (A : Option Addr) (c : Nat) (l : List Int) (w : World)
    (hr : Kd.C (Kd.int .i64) w A l.length l)
    (hp : ∀ W x, Below w.heap.size w W → Calls Try.prog g (#[.int .i64 x] ++ lb) W fun e w' => e = .returned (.bool (p x)) ∧ Below w.heap.size w w') :
    Calls Try.prog 67 #[.slice A l.length c, .func (.func g) #[] lb] w fun e w' => e = .returned (.bool (l.any p)) ∧ Below w.heap.size w w' := by
  have hcall := idxFunc.calls p g lb eg A c l w hr hp
  clear hp hr eg
  rw [← firstIdx_any]
  go_enter Try.func67, Try.ntmps67
  go_wp2_with (go_at_call 81; refine hcall.mono ?_; rintro e w' ⟨rfl, hb'⟩)
  go_ret
  exact ⟨rfl, hb'⟩

/-- The predicate of track.states' function literal. -/
def outside (q c : Int) : Bool := decide (c < 0) || decide (c ≥ q)
theorem valid_lit (q : Int) (B : Nat) (W : World) (x : Int) (hc : W.cell? ⟨B, 0, none⟩ = some (.int .i64 q)) :
    Calls Try.prog 68 #[.int .i64 x, .pointer (some ⟨B, 0, none⟩)] W fun e w' => e = .returned (.bool (outside q x)) ∧ Drawn0 W w' := by
  by_cases h1 : x < 0
  · have h1b : decide (x < 0) = true := decide_eq_true h1
    have hf : Aside0 (outside q x = true) := ⟨by simp [outside, h1]⟩
    clear h1
    go_enter Try.func68, Try.ntmps68
    go_wp2
    repeat (go_quiet (fail); try go_wp2)
    go_ret
    exact ⟨by rw [hf.out]; rfl, by repeat (first | exact Drawn0.refl _ | apply Drawn0.step)⟩
  · have h1b : decide (x < 0) = false := decide_eq_false h1
    have hf : Aside0 (outside q x = decide (q ≤ x)) := ⟨by simp [outside, h1]⟩
    clear h1
    go_enter Try.func68, Try.ntmps68
    go_wp2
    repeat (go_quiet (fail); try go_wp2)
    go_ret
    exact ⟨by rw [hf.out]; rfl, by repeat (first | exact Drawn0.refl _ | apply Drawn0.step)⟩

theorem valid_tail (A : Option Addr) (c : Nat) (l : List Int) (w : World) (hr : Kd.C (Kd.int .i64) w A l.length l) (W : World) (qq : Int) (hb : Below w.heap.size w W) (hs : w.heap.size < W.heap.size)
    (hc : W.cell? ⟨w.heap.size, 0, none⟩ = some (.int .i64 qq)) :
    Calls Try.prog 67 #[.slice A l.length c, .func (.func 68) #[] #[.pointer (some ⟨w.heap.size, 0, none⟩)]] W fun e w' => e = .returned (.bool (l.any (outside qq))) ∧ Below w.heap.size w w' := by
  refine (containsFunc.calls (outside qq) 68 #[.pointer (some ⟨w.heap.size, 0, none⟩)] (Go.Proofs.enters_of Try.func68 (by kernel_rfl) rfl) A c l W (Kd.C_below hr hb) ?_).mono ?_
  · intro W2 x hb2
    refine (valid_lit qq w.heap.size W2 x ((hb2.cell (p := ⟨w.heap.size, 0, none⟩) hs).trans hc)).mono ?_
    rintro e w' ⟨rfl, hd⟩
    exact ⟨rfl, hb2.trans (hd.below.mono hb2.size)⟩
  · rintro e w' ⟨rfl, hb2⟩
    exact ⟨rfl, hb.trans (hb2.mono hb.size)⟩

theorem valid_alloc (A : Option Addr) (c : Nat) (l : List Int) (w : World) (hr : Kd.C (Kd.int .i64) w A l.length l) (qq : Int) :
    Calls Try.prog 67 #[.slice A l.length c, .func (.func 68) #[] #[.pointer (some ⟨w.heap.size, 0, none⟩)]] (w.alloc (.cells #[.int .i64 qq] 3)) fun e w' => e = .returned (.bool (l.any (outside qq))) ∧ Below w.heap.size w w' :=
  valid_tail A c l w hr _ qq (below_alloc (Below.refl _ _) _) (by simp) (by simp)

/-- What track.states answers. -/
def track_states.f (l : List Int) (many k : Int) : Option Bool := if (l.length : Int) = many then some (!(l.any (outside k))) else some false
set_option maxRecDepth 100000 in
set_option maxHeartbeats 4000000 in
theorem track_states.calls (A0 : Option Addr) (c0 : Nat) (l0 : List Int) (a1 : Int) (a2 : Int) (r : Bool) (w : World) (hr0 : Kd.C (Kd.int .i64) w A0 l0.length l0) (hc0 : l0.length ≤ c0) (h : track_states.f l0 a1 a2 = some r) :
    Calls Try.prog 52 #[.slice A0 l0.length c0, .int .i64 a1, .int .i64 a2] w fun e w' => e = .returned (.bool r) ∧ Below w.heap.size w w' := by
  have HT := Aside0.mk (valid_alloc A0 c0 l0 w hr0 a2)
  have HB := Aside0.mk (below_alloc (Below.refl w.heap.size w) (.cells #[.int .i64 a2] 3))
  clear hr0 hc0
  unfold track_states.f at h
  by_cases n1 : (l0.length : Int) = a1
  · rw [if_pos n1] at h
    obtain rfl := Option.some.inj h
    have n1b : ((l0.length : Int) == a1) = true := beq_iff_eq.2 n1
    clear n1
    go_enter Try.func52, Try.ntmps52
    go_wp2_with (go_at_call 67; refine HT.out.mono ?_; rintro e w' ⟨rfl, hb'⟩)
    go_ret
    exact ⟨rfl, hb'⟩
  · rw [if_neg n1] at h
    obtain rfl := Option.some.inj h
    have n1b : ((l0.length : Int) == a1) = false := beq_eq_false_iff_ne.2 n1
    clear n1
    go_enter Try.func52, Try.ntmps52
    go_wp2
    go_ret
    exact ⟨rfl, HB.out⟩

theorem rdL_nat (l : List (List Int)) (k : Nat) (h : k < l.length) : rd_L3 l k = l[k] := by unfold rd_L3; simp [h]
def firstRow (p : List Int → Bool) (l : List (List Int)) : Int := match l.findIdx? p with | some i => (i : Int) | none => -1
theorem firstRow_hit {p : List Int → Bool} {l : List (List Int)} {k : Nat} (hk : k < l.length) (hp : p (rd_L3 l k) = true) (hn : ∀ j : Nat, j < k → p (rd_L3 l j) = false) : firstRow p l = k := by
  have h : l.findIdx? p = some k := by
    rw [List.findIdx?_eq_some_iff_getElem]
    refine ⟨hk, by rw [← rdL_nat l k hk]; exact hp, fun j hj => ?_⟩
    rw [← rdL_nat l j (by omega)]; simp [hn j hj]
  unfold firstRow; rw [h]
theorem firstRow_miss {p : List Int → Bool} {l : List (List Int)} (hn : ∀ j : Nat, j < l.length → p (rd_L3 l j) = false) : firstRow p l = -1 := by
  have h : l.findIdx? p = none := by
    rw [List.findIdx?_eq_none_iff]
    intro x hx
    obtain ⟨j, hj, rfl⟩ := List.getElem_of_mem hx
    rw [← rdL_nat l j hj]; exact hn j hj
  unfold firstRow; rw [h]

/-- What is asked of a predicate on rows, from the world w on: at each row of l it tells p. -/
def RowPred (g : Nat) (lb : Array Value) (p : List Int → Bool) (l : List (List Int)) (w : World) : Prop :=
  ∀ (W : World) (x : List Int) (A : Option Addr) (c : Nat), x ∈ l → Below w.heap.size w W → Kd.C (Kd.int .i64) W A x.length x → x.length ≤ c →
    Calls Try.prog g (#[.slice A x.length c] ++ lb) W fun e w' => e = .returned (.bool (p x)) ∧ Below W.heap.size W w'

set_option maxRecDepth 100000 in
set_option maxHeartbeats 2000000 in
theorem idxRow (p : List Int → Bool) (g : Nat) (lb : Array Value) (eg : ∀ args w, (callFunc g args).run Try.prog w = .ok (.enter g args) w) (A : Option Addr) (c : Nat) (l : List (List Int)) (w0 w : World) (hb0 : Below w0.heap.size w0 w)
    (hr : Kd.C (Kd.slice 3 (Kd.int .i64)) w A l.length l) (hp : RowPred g lb p l w0) :
    Calls Try.prog 82 #[.slice A l.length c, .func (.func g) #[] lb] w fun e w' => e = .returned (.int .i64 (firstRow p l)) ∧ Below w.heap.size w w' := by
  have hlen : l.length ≤ 9223372036854775807 := hr.2.1
  have HP := Aside0.mk hp
  have HB0 := Aside0.mk hb0
  have HR := Aside0.mk hr
  clear hr hp hb0
  go_enter Try.func82, Try.ntmps82
  go_wp2
  go_loopg [5, 8] l.length (fun gg _ s8 wr => ∃ kk : Nat, kk ≤ l.length ∧ l.length - kk ≤ gg ∧ s8 = .int .i64 kk ∧ Aside0 (Below w.heap.size w wr) ∧ Aside0 (∀ j : Nat, j < kk → p (rd_L3 l j) = false))
  case atStart => exact ⟨0, Nat.zero_le _, by omega, rfl, ⟨Below.refl _ w⟩, ⟨fun j hj => absurd hj (Nat.not_lt_zero _)⟩⟩
  case round =>
    obtain ⟨kk, hkk, hg, rfl, BW, A0⟩ := hrel
    by_cases hlt : kk < l.length
    · have hltz : (kk : Int) < (l.length : Int) := by omega
      obtain ⟨ad, A1, c1, e1, hx, hl1, hi1⟩ := at_L3 HR.out kk (by omega) hltz
      have hcall := HP.out wr (rd_L3 l kk) A1 c1 (by rw [rdL_nat l kk hlt]; exact List.getElem_mem hlt) (HB0.out.trans (BW.out.mono HB0.out.size)) (Kd.C_below hi1 BW.out) hl1
      replace hx := (BW.out.cell (World.block_lt_of_cell? w _ hx)).trans hx
      rw [Int.toNat_natCast] at hx
      cases e1
      clear hl1 hi1
      generalize hy : rd_L3 l kk = y at hx hcall
      have B : Aside0 (rd_L3 l kk = y) := ⟨hy⟩
      clear hy
      cases hq : p y with
      | true =>
        rw [hq] at hcall
        go_wp2_with (go_at_fn g; refine hcall.mono ?_; rintro e w' ⟨rfl, hb'⟩)
        go_ret
        refine ⟨?_, BW.out.trans (hb'.mono BW.out.size)⟩
        rw [firstRow_hit hlt (by rw [B.out]; exact hq) A0.out]; rfl
      | false =>
        rw [hq] at hcall
        go_wp2_with (go_at_fn g; refine hcall.mono ?_; rintro e w' ⟨rfl, hb'⟩)
        go_roundg (l.length - (kk + 1))
        case measure => omega
        case rel =>
          refine ⟨kk + 1, by omega, by omega, by go_num, ⟨BW.out.trans (hb'.mono BW.out.size)⟩, ⟨fun j hj => ?_⟩⟩
          by_cases e : j = kk
          · subst e
            rw [B.out]; exact hq
          · exact A0.out j (by omega)
    · have hk := Aside0.mk (show kk = l.length by omega)
      have hltz : decide (kk < l.length) = false := decide_eq_false (by omega)
      clear hlt hg hkk hlen
      go_wp2
      go_ret
      refine ⟨?_, BW.out⟩
      rw [firstRow_miss (fun j hj => A0.out j (by have := hk.out; omega))]; rfl

theorem containsRow (p : List Int → Bool) (g : Nat) (lb : Array Value) (eg : ∀ args w, (callFunc g args).run Try.prog w = .ok (.enter g args) w) (A : Option Addr) (c : Nat) (l : List (List Int)) (w0 w : World) (hb0 : Below w0.heap.size w0 w)
    (hr : Kd.C (Kd.slice 3 (Kd.int .i64)) w A l.length l) (hp : RowPred g lb p l w0) :
    Calls Try.prog 71 #[.slice A l.length c, .func (.func g) #[] lb] w fun e w' => e = .returned (.bool (decide (0 ≤ firstRow p l))) ∧ Below w.heap.size w w' := by
  have hcall := idxRow p g lb eg A c l w0 w hb0 hr hp
  clear hp hr eg hb0
  go_enter Try.func71, Try.ntmps71
  go_wp2_with (go_at_call 82; refine hcall.mono ?_; rintro e w' ⟨rfl, hb'⟩)
  go_ret
  exact ⟨rfl, hb'⟩
theorem firstRow_any (p : List Int → Bool) (l : List (List Int)) : decide (0 ≤ firstRow p l) = l.any p := by
  unfold firstRow
  cases h : l.findIdx? p with
  | none =>
    rw [List.findIdx?_eq_none_iff] at h
    symm; simp; exact h
  | some i =>
    obtain ⟨hi, hp, _⟩ := List.findIdx?_eq_some_iff_getElem.1 h
    symm; simp; exact ⟨_, List.getElem_mem hi, hp⟩

end Go.Proofs.Ytcphmeeighhdjaa.P
