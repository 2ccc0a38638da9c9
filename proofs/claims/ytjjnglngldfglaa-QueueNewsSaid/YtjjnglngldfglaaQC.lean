/- The shop in memory is changed: Want, Stage. -/
import Derived.Test.YtjjnglngldfglaaQB
import Derived.Test.YtjjnglngldfglaaWI
import Derived.Lib.IfaceEq
namespace Go.Proofs.Ytjjnglngldfglaa.P
set_option linter.unusedVariables false
open Go Go.RowKit Go.Proofs.YtjjnglngldfglaaW.PrintWords Go.Proofs.YtjjnglngldfglaaW.PrintLast Go.Proofs.YtjjnglngldfglaaW.PrintMore

theorem scV_cons (s : Sc) (l : List Sc) : scV (s :: l) = .bool s.ch :: .int .i64 s.no :: s.st.val :: scV l := rfl
theorem scV_set (l : List Sc) (k : Nat) (h : k < l.length) (c : Bool) (m : Int) (s : St) :
    (scV l).set (k * 3) (.bool c) = scV (l.set k ⟨c, l[k].no, l[k].st⟩) ∧ (scV l).set (k * 3 + 1) (.int .i64 m) = scV (l.set k ⟨l[k].ch, m, l[k].st⟩) ∧ (scV l).set (k * 3 + 2) s.val = scV (l.set k ⟨l[k].ch, l[k].no, s⟩) := by
  induction l generalizing k with
  | nil => simp at h
  | cons x l ih =>
    cases k with
    | zero => exact ⟨rfl, rfl, rfl⟩
    | succ k =>
      obtain ⟨a, b, c'⟩ := ih k (by simpa using h)
      rw [show (k + 1) * 3 = k * 3 + 1 + 1 + 1 by omega]
      simp only [List.set_cons_succ, scV_cons, List.getElem_cons_succ]
      exact ⟨by rw [a], by rw [b], by rw [c']⟩
/-- What is left alone. -/
structure Moved (W W1 : World) (b g gs : Nat) : Prop where
  size : W1.heap.size = W.heap.size ∨ W.heap.size ≤ W1.heap.size
  keep : ∀ k, k < W.heap.size → k ≠ g → k ≠ gs → W1.heap[k]? = W.heap[k]?
  bel : ∀ (B0 : Nat) (w0 : World), Below B0 w0 W → B0 ≤ b → Below B0 w0 W1
section
variable {W W1 W2 : World} {b g gs : Nat} {sh : Sh}
theorem Moved.refl (W : World) (b g gs : Nat) : Moved W W b g gs := ⟨.inl rfl, fun _ _ _ _ => rfl, fun _ _ h _ => h⟩
theorem Moved.le (h : Moved W W1 b g gs) : W.heap.size ≤ W1.heap.size := by rcases h.size with e | e <;> omega
theorem Moved.trans (h : Moved W W1 b g gs) (k : Moved W1 W2 b g gs) : Moved W W2 b g gs :=
  ⟨.inr (Nat.le_trans h.le k.le), fun i hi h1 h2 => (k.keep i (Nat.lt_of_lt_of_le hi h.le) h1 h2).trans (h.keep i hi h1 h2), fun B0 w0 hb hB => k.bel B0 w0 (h.bel B0 w0 hb hB) hB⟩
theorem Moved.of_below (hb : Below W.heap.size W W1) (hbw : b ≤ W.heap.size) : Moved W W1 b g gs := ⟨.inr hb.size, fun i hi _ _ => hb.block i hi, fun B0 w0 h hB => h.trans (hb.mono (by omega))⟩
theorem Shp.ne (h : Shp W b g gs sh) : g ≠ gs := by
  intro e
  have h0 := h.hg
  obtain ⟨_, h1⟩ := h.hs
  rw [e, h1] at h0
  have := Option.some.inj h0
  injection this with _ e2 _
  exact absurd e2 (by decide)
theorem Shp.put (h : Shp W b g gs sh) (k : Nat) (hk : k < sh.sc.length) (j : Nat) (hj : j < 3) (v : Value) (l : List Sc) (hl : (scV sh.sc).set (k * 3 + j) v = scV l) (hlen : l.length = sh.sc.length) :
    Shp (W.setCell ⟨gs, k * 3 + j, none⟩ v) b g gs { sh with sc := l } ∧ Moved W (W.setCell ⟨gs, k * 3 + j, none⟩ v) b g gs := by
  refine ⟨⟨?_, ?_, h.bg, h.bs, by rw [hlen]; exact h.pos, by rw [hlen]; exact h.few⟩, ⟨.inl (by simp [World.setCell]), fun i _ _ hn => Below.heap_setCell W _ v i hn, fun B0 w0 hb hB => hb.setCell (Nat.le_trans hB h.bs) _⟩⟩
  · rw [Below.heap_setCell W _ v g h.ne]
    rw [hlen]; exact h.hg
  · obtain ⟨rest, h1⟩ := h.hs
    refine ⟨rest, ?_⟩
    rw [heap_setCell_same W gs _ _ 76 v h1]
    simp only [List.setIfInBounds_toArray]
    rw [List.set_append_left _ _ (by rw [scV_length]; omega), hl]
theorem Shp.st (h : Shp W b g gs sh) (k : Nat) (hk : k < sh.sc.length) (s : St) : Shp (W.setCell ⟨gs, k * 3 + 2, none⟩ s.val) b g gs { sh with sc := sh.sc.set k ⟨sh.sc[k].ch, sh.sc[k].no, s⟩ } ∧ Moved W (W.setCell ⟨gs, k * 3 + 2, none⟩ s.val) b g gs :=
  h.put k hk 2 (by omega) _ _ (scV_set sh.sc k hk false 0 s).2.2 List.length_set
theorem Shp.no (h : Shp W b g gs sh) (k : Nat) (hk : k < sh.sc.length) (m : Int) : Shp (W.setCell ⟨gs, k * 3 + 1, none⟩ (.int .i64 m)) b g gs { sh with sc := sh.sc.set k ⟨sh.sc[k].ch, m, sh.sc[k].st⟩ } ∧ Moved W (W.setCell ⟨gs, k * 3 + 1, none⟩ (.int .i64 m)) b g gs :=
  h.put k hk 1 (by omega) _ _ (scV_set sh.sc k hk false m .idle).2.1 List.length_set
theorem Shp.ch (h : Shp W b g gs sh) (k : Nat) (hk : k < sh.sc.length) (c : Bool) : Shp (W.setCell ⟨gs, k * 3, none⟩ (.bool c)) b g gs { sh with sc := sh.sc.set k ⟨c, sh.sc[k].no, sh.sc[k].st⟩ } ∧ Moved W (W.setCell ⟨gs, k * 3, none⟩ (.bool c)) b g gs :=
  h.put k hk 0 (by omega) _ _ (scV_set sh.sc k hk c 0 .idle).1 List.length_set
theorem Shp.tk (h : Shp W b g gs sh) (m : Int) : Shp (W.setCell ⟨g, 2, none⟩ (.int .i64 m)) b g gs { sh with tk := m } ∧ Moved W (W.setCell ⟨g, 2, none⟩ (.int .i64 m)) b g gs := by
  refine ⟨⟨?_, ?_, h.bg, h.bs, h.pos, h.few⟩, ⟨.inl (by simp [World.setCell]), fun i _ hn _ => Below.heap_setCell W _ _ i hn, fun B0 w0 hb hB => hb.setCell (Nat.le_trans hB h.bg) _⟩⟩
  · rw [heap_setCell_same W g _ _ 67 _ h.hg]
    simp
  · rw [Below.heap_setCell W _ _ gs (Ne.symm h.ne)]
    exact h.hs
end
theorem eq_none (d : Nat) (tx : TypeId) (x y : Value) (w : World) (tc : TypeId) (h : tx ≠ tc) : (Op.equalIn (d + 2) 74 (.iface tx x) (.iface tc y)).run Try.prog w = .ok false w := by
  simp [Op.equalIn, run_underlying Try.underlying74, h]
theorem eq_idle_ (d : Nat) (w : World) : (Op.equalIn (d + 2) 74 (.iface 80 (.agg #[])) (.iface 80 (.agg #[]))).run Try.prog w = .ok true w := by
  have hc : (Try.prog.info? 80).map (·.comparable) = some true := by kernel_rfl
  cases hi : Try.prog.info? 80 with
  | none => simp [hi] at hc
  | some i =>
    have hcc : i.comparable = true := by simpa [hi] using hc
    simp [Op.equalIn, run_underlying Try.underlying74, run_underlying Try.underlying80, typeInfo, hi, hcc]
theorem eq_inside_ (d : Nat) (w : World) : (Op.equalIn (d + 2) 74 (.iface 78 (.agg #[])) (.iface 78 (.agg #[]))).run Try.prog w = .ok true w := by
  have hc : (Try.prog.info? 78).map (·.comparable) = some true := by kernel_rfl
  cases hi : Try.prog.info? 78 with
  | none => simp [hi] at hc
  | some i =>
    have hcc : i.comparable = true := by simpa [hi] using hc
    simp [Op.equalIn, run_underlying Try.underlying74, run_underlying Try.underlying78, typeInfo, hi, hcc]
def St.isIdle : St → Bool | .idle => true | _ => false
def St.isInside : St → Bool | .inside => true | _ => false
theorem neq_idle (W : World) (s : St) : (binOp .neq 74 s.val (.iface 80 (.agg #[]))).run Try.prog W = .ok (.bool (!s.isIdle)) W := by
  simp only [binOp]
  cases s <;> simp only [St.val, St.isIdle, Op.equal, Op.maxDepth] <;> first | (simp [eq_idle_ 9998]; done) | (simp [eq_none 9998]; done)
theorem guard_at (op : BinOp) (x y : Operand) (W : World) (s : St) (tc : TypeId) (v : Value) : (eqGuard op 74 x y s.val (.iface tc v)).run Try.prog W = .ok () W := by
  cases op <;> cases s <;> rfl
theorem eql_inside (W : World) (s : St) : (binOp .eql 74 s.val (.iface 78 (.agg #[]))).run Try.prog W = .ok (.bool s.isInside) W := by
  simp only [binOp]
  cases s <;> simp only [St.val, St.isInside, Op.equal, Op.maxDepth] <;> first | (simp [eq_inside_ 9998]; done) | (simp [eq_none 9998]; done)
/-- What Want answers, and what it does. -/
def wantE (sh : Sh) (i : Int) : Int := if errI sh i = 0 then (if (scAt sh i).st.isIdle = true then 0 else 7) else errI sh i
def wantS (sh : Sh) (i : Int) : Sh := if errI sh i = 0 then (if (scAt sh i).st.isIdle = true then { sh with sc := sh.sc.set i.toNat ⟨(scAt sh i).ch, (scAt sh i).no, .announce⟩ } else sh) else sh
set_option maxRecDepth 100000 in
theorem Want_calls (W : World) (b g gs : Nat) (sh : Sh) (h : Shp W b g gs sh) (i : Int) : Calls Try.prog 28 #[.pointer (some ⟨g, 0, none⟩), .int .i64 i] W fun e w' => e = .returned (.int .i64 (wantE sh i)) ∧ Shp w' b g gs (wantS sh i) ∧ Moved W w' b g gs := by
  have hc := Aside0.mk (check_calls W b g gs sh h i)
  unfold wantE wantS
  by_cases c : errI sh i = 0
  · rw [if_pos c, if_pos c]
    obtain ⟨k, rfl, hk⟩ := errI_ok c
    have c0 := h.c0
    obtain ⟨x0, x1, x2⟩ := h.at_ k hk
    have cb : (errI sh k != 0) = false := bne_eq_false_iff_eq.2 c
    have p1 : decide (k < sh.sc.length) = true := decide_eq_true hk
    have p2 : ((k : Int) < (sh.sc.length : Int)) = True := eq_true (by omega)
    have f2 := (h.fz (k * 3 + 2)).2
    have HS := Aside0.mk (h.st k hk .announce)
    have H0 := Aside0.mk h
    have es := scAt_nat sh k hk
    have hq := fun W : World => neq_idle W (scAt sh k).st
    have hq2 := fun (x y : Operand) (W : World) => guard_at .neq x y W (scAt sh k).st 80 (.agg #[])
    generalize errI sh k = er at *
    rw [← es] at HS
    generalize (scAt sh k).st.val = sv at *
    by_cases d : (scAt sh k).st.isIdle = true
    · rw [if_pos d, if_pos d, Int.toNat_natCast]
      rw [d] at hq
      clear h hk c x0 x1 es d
      go_enter Try.func28, Try.ntmps28
      go_wp2_with (fail)
      refine hc.out.mono ?_
      rintro e w' ⟨rfl, rfl⟩
      go_wp2
      go_ret
      exact ⟨rfl, HS.out.1, HS.out.2⟩
    · rw [if_neg d, if_neg d]
      rw [Bool.eq_false_iff.2 d] at hq
      clear h hk c x0 x1 es d
      go_enter Try.func28, Try.ntmps28
      go_wp2_with (fail)
      refine hc.out.mono ?_
      rintro e w' ⟨rfl, rfl⟩
      go_wp2
      go_ret
      exact ⟨rfl, H0.out, Moved.refl _ _ _ _⟩
  · rw [if_neg c, if_neg c]
    have cb : (errI sh i != 0) = true := bne_iff_ne.2 c
    have H0 := Aside0.mk h
    generalize errI sh i = er at *
    clear h c
    go_enter Try.func28, Try.ntmps28
    go_wp2_with (fail)
    refine hc.out.mono ?_
    rintro e w' ⟨rfl, rfl⟩
    go_wp2
    go_ret
    exact ⟨rfl, H0.out, Moved.refl _ _ _ _⟩
end Go.Proofs.Ytjjnglngldfglaa.P
