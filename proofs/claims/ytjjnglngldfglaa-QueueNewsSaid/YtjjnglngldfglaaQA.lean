/- The shop of the queue in memory, and the contracts of the methods that only look at it. -/
import Derived.Test.YtjjnglngldfglaaPK
import Derived.Shelf.Abstract
import Derived.Lib.Hide
import Derived.Outline
namespace Go.Proofs.Ytjjnglngldfglaa.P
set_option linter.unusedVariables false
open Go Go.RowKit Go.Proofs.YtjjnglngldfglaaW.PrintWords Go.Proofs.YtjjnglngldfglaaW.PrintLast Go.Proofs.YtjjnglngldfglaaW.PrintMore

/-- Where a scout is. -/
inductive St where
  | idle | announce
  | read (j seen : Int)
  | take (seen : Int)
  | announced
  | choice (j : Int)
  | turn (j : Int)
  | inside
deriving DecidableEq
def St.val : St → Value
  | .idle => .iface 80 (.agg #[])
  | .announce => .iface 81 (.agg #[])
  | .read j seen => .iface 83 (.agg #[.int .i64 j, .int .i64 seen])
  | .take seen => .iface 85 (.agg #[.int .i64 seen])
  | .announced => .iface 86 (.agg #[])
  | .choice j => .iface 88 (.agg #[.int .i64 j])
  | .turn j => .iface 89 (.agg #[.int .i64 j])
  | .inside => .iface 78 (.agg #[])
def St.num : St → Int
  | .idle => 0 | .announce => 1 | .read _ _ => 2 | .take _ => 3 | .announced => 4 | .choice _ => 5 | .turn _ => 6 | .inside => 7
structure Sc where
  ch : Bool
  no : Int
  st : St
deriving DecidableEq
def sc0 : Sc := ⟨false, 0, .idle⟩
structure Sh where
  sc : List Sc
  cl : Bool
  tk : Int
  cp : Nat
deriving DecidableEq
def scV (l : List Sc) : List Value := l.flatMap (fun s => [.bool s.ch, .int .i64 s.no, s.st.val])
/-- A shop in memory: its block g, the block gs of its scouts. -/
structure Shp (W : World) (b g gs : Nat) (sh : Sh) : Prop where
  hg : W.heap[g]? = some (.cells #[.slice (some ⟨gs, 0, none⟩) sh.sc.length sh.cp, .bool sh.cl, .int .i64 sh.tk] 67 (0, 0))
  hs : ∃ rest : List Value, W.heap[gs]? = some (.cells (scV sh.sc ++ rest).toArray 76 (0, 0))
  bg : b ≤ g
  bs : b ≤ gs
  pos : 0 < sh.sc.length
  few : sh.sc.length ≤ 4
theorem scV_length (l : List Sc) : (scV l).length = 3 * l.length := by
  induction l with
  | nil => rfl
  | cons s l ih => simp only [scV, List.flatMap_cons, List.length_append, List.length_cons, List.length_nil] at ih ⊢; omega
theorem scV_at (l : List Sc) (i : Nat) (h : i < l.length) : (scV l)[3 * i]? = some (.bool l[i].ch) ∧ (scV l)[3 * i + 1]? = some (.int .i64 l[i].no) ∧ (scV l)[3 * i + 2]? = some l[i].st.val := by
  induction l generalizing i with
  | nil => simp at h
  | cons s l ih =>
    cases i with
    | zero => simp [scV]
    | succ i =>
      obtain ⟨a, b, c⟩ := ih i (by simpa using h)
      have e : scV (s :: l) = .bool s.ch :: .int .i64 s.no :: s.st.val :: scV l := rfl
      rw [e, show 3 * (i + 1) = 3 * i + 3 by omega]
      exact ⟨a, b, c⟩
section
variable {W W1 : World} {b g gs : Nat} {sh : Sh}
theorem Shp.lt (h : Shp W b g gs sh) : g < W.heap.size := (Array.getElem?_eq_some_iff.1 h.hg).1
theorem Shp.lts (h : Shp W b g gs sh) : gs < W.heap.size := by obtain ⟨_, h0⟩ := h.hs; exact (Array.getElem?_eq_some_iff.1 h0).1
theorem Shp.below (h : Shp W b g gs sh) (hb : Below W.heap.size W W1) : Shp W1 b g gs sh := ⟨(hb.block g h.lt).trans h.hg, (by obtain ⟨r, h0⟩ := h.hs; exact ⟨r, (hb.block gs h.lts).trans h0⟩), h.bg, h.bs, h.pos, h.few⟩
theorem Shp.c0 (h : Shp W b g gs sh) : W.cell? ⟨g, 0, none⟩ = some (.slice (some ⟨gs, 0, none⟩) sh.sc.length sh.cp) := by have := h.hg; simp [World.cell?, this]
theorem Shp.c1 (h : Shp W b g gs sh) : W.cell? ⟨g, 1, none⟩ = some (.bool sh.cl) := by have := h.hg; simp [World.cell?, this]
theorem Shp.c2 (h : Shp W b g gs sh) : W.cell? ⟨g, 2, none⟩ = some (.int .i64 sh.tk) := by have := h.hg; simp [World.cell?, this]
theorem Shp.sc (h : Shp W b g gs sh) (i : Nat) (hi : i < sh.sc.length) : W.cell? ⟨gs, i * 3, none⟩ = some (.bool sh.sc[i].ch) ∧ W.cell? ⟨gs, i * 3 + 1, none⟩ = some (.int .i64 sh.sc[i].no) ∧ W.cell? ⟨gs, i * 3 + 2, none⟩ = some sh.sc[i].st.val := by
  obtain ⟨rest, h0⟩ := h.hs
  obtain ⟨p, q, r⟩ := scV_at sh.sc i hi
  rw [Nat.mul_comm] at p q r
  have lft : ∀ j v, (scV sh.sc)[j]? = some v → (scV sh.sc ++ rest)[j]? = some v := fun j v hj => by
    rw [List.getElem?_append_left (List.getElem?_eq_some_iff.1 hj).1]; exact hj
  simp only [World.cell?, h0]
  simp [lft _ _ p, lft _ _ q, lft _ _ r]
theorem Shp.fz (h : Shp W b g gs sh) (i : Nat) : W.frozen? ⟨g, i, none⟩ = false ∧ W.frozen? ⟨gs, i, none⟩ = false := by
  have h0 := h.hg
  obtain ⟨_, h1⟩ := h.hs
  simp [World.frozen?, h0, h1]
end
/-- made: a shop was made. -/
theorem made_calls (W : World) (b g gs : Nat) (sh : Sh) (h : Shp W b g gs sh) : Calls Try.prog 34 #[.pointer (some ⟨g, 0, none⟩)] W fun e w' => e = .returned (.bool true) ∧ W = w' := by
  have c0 := h.c0
  have p := h.pos
  have p1 : decide (0 < sh.sc.length) = true := decide_eq_true p
  clear h
  go_enter Try.func34, Try.ntmps34
  go_wp2
  go_ret
  exact ⟨rfl, rfl⟩
/-- check: the error of a scout's number. -/
def errI (sh : Sh) (i : Int) : Int := if i < 0 then 1 else if i ≥ (sh.sc.length : Int) then 1 else 0
theorem check_calls (W : World) (b g gs : Nat) (sh : Sh) (h : Shp W b g gs sh) (i : Int) : Calls Try.prog 37 #[.pointer (some ⟨g, 0, none⟩), .int .i64 i] W fun e w' => e = .returned (.int .i64 (errI sh i)) ∧ W = w' := by
  have c0 := h.c0
  have hm := Aside0.mk (made_calls W b g gs sh h)
  unfold errI
  clear h
  by_cases k1 : i < 0
  · rw [if_pos k1]
    have k1b : decide (i < 0) = true := decide_eq_true k1
    clear k1
    go_enter Try.func37, Try.ntmps37
    go_wp2_with (fail)
    refine hm.out.mono ?_
    rintro e w' ⟨rfl, rfl⟩
    go_wp2
    go_ret
    exact ⟨rfl, rfl⟩
  · rw [if_neg k1]
    have k1b : decide (i < 0) = false := decide_eq_false k1
    by_cases k2 : i ≥ (sh.sc.length : Int)
    · rw [if_pos k2]
      have k2b : decide ((sh.sc.length : Int) ≤ i) = true := decide_eq_true k2
      clear k1 k2
      go_enter Try.func37, Try.ntmps37
      go_wp2_with (fail)
      refine hm.out.mono ?_
      rintro e w' ⟨rfl, rfl⟩
      go_wp2
      go_ret
      exact ⟨rfl, rfl⟩
    · rw [if_neg k2]
      have k2b : decide ((sh.sc.length : Int) ≤ i) = false := decide_eq_false k2
      clear k1 k2
      go_enter Try.func37, Try.ntmps37
      go_wp2_with (fail)
      refine hm.out.mono ?_
      rintro e w' ⟨rfl, rfl⟩
      go_wp2
      go_ret
      exact ⟨rfl, rfl⟩
end Go.Proofs.Ytjjnglngldfglaa.P
