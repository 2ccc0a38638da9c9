/- The contracts of slices.Clone, IndexFunc and DeleteFunc at rows of numbers. -/
import Derived.Test.YtgjmfehdjbepiaaPK
import Derived.Shelf.Abstract
import Derived.Lib.Hide
import Derived.Lib.SliceRun
import Derived.WalkSpells
import Derived.Outline
namespace Go.Proofs.Ytgjmfehdjbepiaa.P
set_option linter.unusedVariables false
open Go.RowKit Go.Proofs.YtgjmfehdjbepiaaW.PrintWords Go.Proofs.YtgjmfehdjbepiaaW.PrintLast Go.Proofs.YtgjmfehdjbepiaaW.PrintMore

/-- A row of rows of numbers. -/
abbrev rr : Kd (List Int) := Kd.slice 3 (Kd.int .i64)

set_option maxRecDepth 100000 in
set_option maxHeartbeats 2000000 in
theorem clone_rows (ok : Nat → Prop) (A : Option Addr) (c : Nat) (ls : List (List Int)) (w : World) (hF : Kd.F rr w ok A ls.length ls) (hl : ls.length ≤ 1000000) :
    Calls Try.prog 75 #[.slice A ls.length c] w fun e w' => ∃ v, e = .returned v ∧ Kd.N rr 37 w' w.heap.size (fun k => ok k ∨ w.heap.size ≤ k) v ls ∧ Below w.heap.size w w' := by
  have HF := Aside0.mk hF
  clear hF
  cases A with
  | none =>
    have hnil := fun W : World => Lib.run_eql_slice_nil (P := Try.prog) W 27 37 none ls.length c 0 0 Try.underlying27
    have h0 := Aside0.mk (show ls = [] by
      have := (Kd.F_now HF.out).2.2
      cases ls with
      | nil => rfl
      | cons x xs => obtain ⟨ad, h, _⟩ := this (by simp); cases h)
    go_enter Try.func75, Try.ntmps75
    go_wp2
    go_ret
    exact ⟨_, rfl, by rw [h0.out]; exact Kd.N_nil _ _ _ _ _, Below.refl _ _⟩
  | some ad =>
    have hnil := fun W : World => Lib.run_eql_slice_nil (P := Try.prog) W 27 37 (some ad) ls.length c 0 0 Try.underlying27
    go_enter Try.func75, Try.ntmps75
    go_wp2_with (first
      | ((with_reducible refine gate_dst (N := 5) rfl ?_); refine Kd.N_lit rr w.heap.size 37 ?hg (N' := 5) ?hd (xs := ([] : List (List Int))) (inner := []) (ok := fun k => ok k ∨ w.heap.size ≤ k) (okp := fun _ => False) ?hr ?hp (fun _ hk => hk.elim) (.inr (Nat.le_refl _)) (Below.refl _ _) (Nat.le_refl _) (by simp) ?_; (case hd => rfl); (case hg => rfl); (case hr => first | (go_simp; done) | (go_simp; rfl)); (case hp => exact Reps.none _ _); intro v1 w1 ho hb hg hat; have HO := Aside0.mk ho; have HB := Aside0.mk hb; clear ho hb hg hat)
      | ((with_reducible refine gate_builtin (b := .append) (xs := #[.tmp 5, .tmp 6]) rfl ?_); at_builtin; refine Kd.N_append_rows rr (w0 := w) w.heap.size rfl (.tmp 5) (.tmp 6) 27 37 (.slice none 0 0) 24 rfl Try.underlying27 info37 rfl (by decide) (by omega) v1 [] ls _ _ _ (fun k => ok k ∨ w.heap.size ≤ k) (fun k => ok k ∧ k < w.heap.size) rfl rfl ?aO ?aR ?aA ?aF ?aB ?aS ?aL ?_; (case aO => exact HO.out); (case aR => exact Kd.F_old HF.out HB.out); (case aA => exact fun k hk => ⟨.inl hk.1, fun e => by have := Kd.N_base HO.out k e.symm; omega⟩); (case aF => exact fun k hk => .inr (Nat.le_trans HB.out.size hk)); (case aB => exact HB.out); (case aS => exact HB.out.size); (case aL => simp; omega); intro v2 w2 ho hb hg hat))
    go_ret
    exact ⟨_, rfl, ho, hb⟩

theorem rdL_nat (l : List (List Int)) (k : Nat) (h : k < l.length) : rd_L2 l k = l[k] := by unfold rd_L2; simp [h]
def firstRow (p : List Int → Bool) (l : List (List Int)) : Int := match l.findIdx? p with | some i => (i : Int) | none => -1
theorem firstRow_hit {p : List Int → Bool} {l : List (List Int)} {k : Nat} (hk : k < l.length) (hp : p (rd_L2 l k) = true) (hn : ∀ j : Nat, j < k → p (rd_L2 l j) = false) : firstRow p l = k := by
  have h : l.findIdx? p = some k := by
    rw [List.findIdx?_eq_some_iff_getElem]
    refine ⟨hk, by rw [← rdL_nat l k hk]; exact hp, fun j hj => ?_⟩
    rw [← rdL_nat l j (by omega)]; simp [hn j hj]
  unfold firstRow; rw [h]
theorem firstRow_miss {p : List Int → Bool} {l : List (List Int)} (hn : ∀ j : Nat, j < l.length → p (rd_L2 l j) = false) : firstRow p l = -1 := by
  have h : l.findIdx? p = none := by
    rw [List.findIdx?_eq_none_iff]
    intro x hx
    obtain ⟨j, hj, rfl⟩ := List.getElem_of_mem hx
    rw [← rdL_nat l j hj]; exact hn j hj
  unfold firstRow; rw [h]

/-- What is asked of a predicate on rows, from the world w on: at each row of l it tells p. -/
def RowPred (g : Nat) (lb : Array Value) (p : List Int → Bool) (l : List (List Int)) (w : World) : Prop :=
  ∀ (W : World) (x : List Int) (A : Option Addr) (c : Nat), x ∈ l → Below w.heap.size w W → Kd.C (Kd.int .i64) W A x.length x → x.length ≤ c →
    Calls Try.prog g (#[.slice A x.length c] ++ lb) W fun e w' => e = .returned (.bool (p x)) ∧ Below W.heap.size W w'

set_option maxRecDepth 100000 in
set_option maxHeartbeats 2000000 in
theorem idxRow (p : List Int → Bool) (g : Nat) (lb : Array Value) (eg : ∀ args w, (callFunc g args).run Try.prog w = .ok (.enter g args) w) (A : Option Addr) (c : Nat) (l : List (List Int)) (w0 w : World) (hb0 : Below w0.heap.size w0 w)
    (hr : Kd.C rr w A l.length l) (hp : RowPred g lb p l w0) :
    Calls Try.prog 84 #[.slice A l.length c, .func (.func g) #[] lb] w fun e w' => e = .returned (.int .i64 (firstRow p l)) ∧ Below w.heap.size w w' := by
  have hlen : l.length ≤ 9223372036854775807 := hr.2.1
  have HP := Aside0.mk hp
  have HB0 := Aside0.mk hb0
  have HR := Aside0.mk hr
  clear hr hp hb0
  go_enter Try.func84, Try.ntmps84
  go_wp2
  go_loopg [5, 8] l.length (fun gg _ s8 wr => ∃ kk : Nat, kk ≤ l.length ∧ l.length - kk ≤ gg ∧ s8 = .int .i64 kk ∧ Aside0 (Below w.heap.size w wr) ∧ Aside0 (∀ j : Nat, j < kk → p (rd_L2 l j) = false))
  case atStart => exact ⟨0, Nat.zero_le _, by omega, rfl, ⟨Below.refl _ w⟩, ⟨fun j hj => absurd hj (Nat.not_lt_zero _)⟩⟩
  case round =>
    obtain ⟨kk, hkk, hg, rfl, BW, A0⟩ := hrel
    by_cases hlt : kk < l.length
    · have hltz : (kk : Int) < (l.length : Int) := by omega
      obtain ⟨ad, A1, c1, e1, hx, hl1, hi1⟩ := at_L2 HR.out kk (by omega) hltz
      have hcall := HP.out wr (rd_L2 l kk) A1 c1 (by rw [rdL_nat l kk hlt]; exact List.getElem_mem hlt) (HB0.out.trans (BW.out.mono HB0.out.size)) (Kd.C_below hi1 BW.out) hl1
      replace hx := (BW.out.cell (World.block_lt_of_cell? w _ hx)).trans hx
      rw [Int.toNat_natCast] at hx
      cases e1
      clear hl1 hi1
      generalize hy : rd_L2 l kk = y at hx hcall
      have B : Aside0 (rd_L2 l kk = y) := ⟨hy⟩
      clear hy
      cases hq : p y with
      | true =>
        rw [hq] at hcall
        go_wp2_with (go_at_fn g; refine hcall.mono ?_; rintro e w' ⟨rfl, hb'⟩)
        go_ret
        refine ⟨?_, BW.out.trans (hb'.mono BW.out.size)⟩
        rw [firstRow_hit hlt (by rw [B.out]; exact hq) A0.out]; rfl
      | false =>
        rw [hq] at hcall
        go_wp2_with (go_at_fn g; refine hcall.mono ?_; rintro e w' ⟨rfl, hb'⟩)
        go_roundg (l.length - (kk + 1))
        case measure => omega
        case rel =>
          refine ⟨kk + 1, by omega, by omega, by go_num, ⟨BW.out.trans (hb'.mono BW.out.size)⟩, ⟨fun j hj => ?_⟩⟩
          by_cases e : j = kk
          · subst e
            rw [B.out]; exact hq
          · exact A0.out j (by omega)
    · have hk := Aside0.mk (show kk = l.length by omega)
      have hltz : decide (kk < l.length) = false := decide_eq_false (by omega)
      clear hlt hg hkk hlen
      go_wp2
      go_ret
      refine ⟨?_, BW.out⟩
      rw [firstRow_miss (fun j hj => A0.out j (by have := hk.out; omega))]; rfl

end Go.Proofs.Ytgjmfehdjbepiaa.P
