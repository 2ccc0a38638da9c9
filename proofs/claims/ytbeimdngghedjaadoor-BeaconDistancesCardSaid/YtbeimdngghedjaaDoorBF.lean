/- The contracts of slices.Clone at []int and of graph.smallest, for any predicate. -/
import Derived.Test.YtbeimdngghedjaaDoorBX
import Derived.Lib.SliceRun
import Derived.Shelf.Abstract
namespace Go.Proofs.YtbeimdngghedjaaDoor.P
set_option linter.unusedVariables false
set_option linter.unusedSimpArgs false
open Go Go.RowKit Go.Proofs.YtbeimdngghedjaaDoorW.PrintWords Go.Proofs.YtbeimdngghedjaaDoorW.PrintLast Go.Proofs.YtbeimdngghedjaaDoorW.PrintMore

def nums (l : List Int) : List Value := l.map (Value.int .i64)
/-- A row of numbers of the call's own. -/
abbrev OwnI (W : World) (base : Nat) (v : Value) (l : List Int) : Prop := W.ownsRow base 3 1 v l.length (nums l)
theorem OwnI.C {W : World} {base : Nat} {v : Value} {l : List Int} (h : OwnI W base v l) (hl : l.length ≤ 1000000) : ∃ A c, v = .slice A l.length c ∧ l.length ≤ c ∧ Kd.C (Kd.int .i64) W A l.length l ∧ (A = none → l = []) := by
  by_cases h0 : 0 < l.length
  · obtain ⟨g, c, rfl, _, hc, hh⟩ := own_cells h h0
    refine ⟨some ⟨g, 0, none⟩, c, rfl, hc, ⟨rfl, by omega, fun _ => ⟨⟨g, 0, none⟩, rfl, fun j p hj => ⟨[.int .i64 p], rfl, rfl, fun i u hi => ?_⟩⟩⟩, fun e => by cases e⟩
    have hi0 : i = 0 := by
      have := (List.getElem?_eq_some_iff.1 hi).1
      simpa using this
    subst hi0
    obtain rfl : Value.int .i64 p = u := by simpa using hi
    rw [show j * (Kd.int .i64).sz + 0 = j from by show j * 1 + 0 = j; omega, add_i]
    exact hh j _ (by unfold nums; rw [List.getElem?_map, hj]; rfl)
  · have hn : l = [] := List.eq_nil_of_length_eq_zero (by omega)
    subst hn
    rcases h.2 with ⟨rfl, _⟩ | ⟨g, cap, cur, rfl, _, _, _⟩
    · exact ⟨none, 0, rfl, Nat.le_refl _, ⟨rfl, by simp, fun h => absurd h (by simp)⟩, fun _ => rfl⟩
    · exact ⟨_, cap, rfl, Nat.zero_le _, ⟨rfl, by simp, fun h => absurd h (by simp)⟩, fun e => by cases e⟩
theorem OwnI.below {W W1 : World} {base : Nat} {v : Value} {l : List Int} (h : OwnI W base v l) (hb : Below W.heap.size W W1) : OwnI W1 base v l := GM.own_below h hb
set_option maxRecDepth 100000 in
set_option maxHeartbeats 2000000 in
theorem clone_calls (A : Option Addr) (c : Nat) (l : List Int) (w : World) (hr : Kd.C (Kd.int .i64) w A l.length l) (hl : l.length ≤ 1000000) (hz : ∀ ad, A = some ad → 0 < l.length) :
    Calls Tryd.prog 66 #[.slice A l.length c] w fun e w' => ∃ v, e = .returned v ∧ OwnI w' w.heap.size v l ∧ Below w.heap.size w w' := by
  have HR := Aside0.mk hr
  clear hr
  cases A with
  | none =>
    have hnil := fun W : World => Lib.run_eql_slice_nil (P := Tryd.prog) W 28 3 none l.length c 0 0 Tryd.underlying28
    have h0 := Aside0.mk (show l = [] by
      have := HR.out.2.2
      cases l with
      | nil => rfl
      | cons x xs => obtain ⟨ad, h, _⟩ := this (by simp); cases h)
    clear hz
    go_enter Tryd.func66, Tryd.ntmps66
    go_wp2
    go_ret
    exact ⟨_, rfl, by rw [h0.out]; exact ⟨rfl, .inl ⟨rfl, rfl⟩⟩, Below.refl _ _⟩
  | some ad =>
    have hnil := fun W : World => Lib.run_eql_slice_nil (P := Tryd.prog) W 28 3 (some ad) l.length c 0 0 Tryd.underlying28
    have h0 := Aside0.mk (hz ad rfl)
    have HN := Aside0.mk (show ∀ (j : Nat) (u : Value), (nums l)[j]? = some u → w.cell? (ad.add j) = some u from fun j u hj => by
      have hjl : j < l.length := by
        have := (List.getElem?_eq_some_iff.1 hj).1
        simpa [nums] using this
      obtain ⟨ad2, e2, hx⟩ := Kd.at_int HR.out (j : Int) (by omega) (by omega)
      cases e2
      rw [Int.toNat_natCast] at hx
      rw [hx]
      unfold nums at hj
      rw [List.getElem?_map, List.getElem?_eq_getElem hjl] at hj
      rw [← hj]
      unfold rd
      simp [hjl])
    obtain ⟨i3, hi3, hz3, hsz3, hby3⟩ := info_parts info3
    clear hz
    go_enter Tryd.func66, Tryd.ntmps66
    go_upto_region 3 with (fail)
    go_wp2_with (first | ((with_reducible refine gate_builtin (b := .append) (xs := #[.tmp 5, .tmp 6]) rfl ?_); at_builtin; refine wpList_append_lies _ (by rfl) (.tmp 5) (.tmp 6) 28 (by rfl) w.heap.size 3 i3 (.int .i64 0) 1 8 Tryd.underlying28 hi3 hz3 hsz3 hby3 rfl (by decide) (.slice (some ⟨w.heap.size, 0, none⟩) 0 0) 0 [] (by rfl) (by exact ⟨rfl, .inr ⟨w.heap.size, 0, #[], rfl, Nat.le_refl _, blk_new _ _, Nat.le_refl _, Nat.zero_le _, rfl, rfl⟩⟩) ad l.length c (nums l) (by rfl) (by simp [nums]) (by intro j u hj; have h1 := HN.out j u hj; exact ((below_alloc (Below.refl w.heap.size w) _).cell (World.block_lt_of_cell? _ _ h1)).trans h1) (by intro u hu; obtain ⟨x, _, rfl⟩ := List.mem_map.1 hu; rfl) h0.out (by unfold maxLen; omega) (by omega) (by simp) _ rfl ?_; intro g cap w3 ho3 hg3 hat3 hlt3))
    go_ret
    refine ⟨_, rfl, ?_, (below_alloc (Below.refl w.heap.size w) _).grown hg3 (by simp) (fun k hk => ?_)⟩
    · rw [Nat.zero_add, List.nil_append] at ho3
      exact ho3
    · have : w.heap.size = k := by simpa [Value.ownBlock] using hk
      omega
/-- Where the next landmark may begin. -/
def fromI (l : List Int) : Int := if 0 < l.length then rd l ((l.length : Int) - 1) + 1 else 0
/-- The first landmarks that go on with l and are good: over the numbers from v on. -/
def tryF (F : List Int → Option (List Int)) (l : List Int) : Nat → Int → Option (List Int)
  | 0, _ => none
  | d + 1, v => match F (l ++ [v]) with
    | some r => some r
    | none => tryF F l d (v + 1)
def findF (p : List Int → Bool) (n : Nat) : Nat → List Int → Option (List Int)
  | 0, l => if p l = true then some l else none
  | k + 1, l => tryF (findF p n k) l ((n : Int) - fromI l).toNat (fromI l)
/-- What find needs of memory: the boxes that it captures. -/
structure Caps (W : World) (b0 b1 b2 : Nat) (B : Option Addr) (gf n : Nat) (G : List S82) : Prop where
  cg : W.cell? ⟨b0, 0, none⟩ = some (.pointer B)
  cp : W.cell? ⟨b1, 0, none⟩ = some (.func (.func gf) #[.pointer B] #[])
  cf : W.cell? ⟨b2, 0, none⟩ = some (.func (.func 65) #[] #[.pointer (some ⟨b1, 0, none⟩), .pointer (some ⟨b0, 0, none⟩), .pointer (some ⟨b2, 0, none⟩)])
  gr : Kd.C k82 W B 1 G
  gn : (rd_T82 G 0).f0 = n
theorem Caps.below {W W1 : World} {b0 b1 b2 : Nat} {B : Option Addr} {gf n : Nat} {G : List S82} (h : Caps W b0 b1 b2 B gf n G) (hb : Below W.heap.size W W1) : Caps W1 b0 b1 b2 B gf n G :=
  ⟨(hb.cell (World.block_lt_of_cell? _ _ h.cg)).trans h.cg, (hb.cell (World.block_lt_of_cell? _ _ h.cp)).trans h.cp, (hb.cell (World.block_lt_of_cell? _ _ h.cf)).trans h.cf, Kd.C_below h.gr hb, h.gn⟩
/-- What find leaves. -/
def FindPost (base : Nat) (r : Option (List Int)) (W : World) (e : Ending) (W1 : World) : Prop :=
  (∃ v, e = .returned (.tuple #[v, .bool r.isSome]) ∧ ∀ x, r = some x → OwnI W1 base v x) ∧ Below W.heap.size W W1
/-- The predicate's contract. -/
def GoodFn (gf : Nat) (B : Option Addr) (p : List Int → Bool) (n : Nat) (w : World) : Prop :=
  ∀ (W : World) (A : Option Addr) (c : Nat) (l : List Int), Below w.heap.size w W → Kd.C (Kd.int .i64) W A l.length l → l.length ≤ c → (∀ x ∈ l, 0 ≤ x ∧ x < (n : Int)) → l.length ≤ n →
    Calls Tryd.prog gf #[.pointer B, .slice A l.length c] W fun e w' => e = .returned (.bool (p l)) ∧ Below W.heap.size W w'
set_option maxRecDepth 100000 in
set_option maxHeartbeats 4000000 in
theorem find_zero (p : List Int → Bool) (gf : Nat) (eg : ∀ args w, (callFunc gf args).run Tryd.prog w = .ok (.enter gf args) w) (n : Nat) (w : World) (B : Option Addr) (hp : GoodFn gf B p n w) (b0 b1 b2 : Nat) (G : List S82) (base : Nat)
    (W : World) (hbw : Below w.heap.size w W) (hc : Caps W b0 b1 b2 B gf n G) (v : Value) (l : List Int) (hv : OwnI W base v l) (hx : ∀ x ∈ l, 0 ≤ x ∧ x < (n : Int)) (hl : l.length ≤ n) (hn : n ≤ 10) :
    Calls Tryd.prog 65 #[v, .int .i64 0, .pointer (some ⟨b1, 0, none⟩), .pointer (some ⟨b0, 0, none⟩), .pointer (some ⟨b2, 0, none⟩)] W (FindPost base (findF p n 0 l) W) := by
  obtain ⟨A, c, rfl, hlc, hC, _⟩ := hv.C (by omega)
  have HP := Aside0.mk (fun W1 (h : Below W.heap.size W W1) => hp W1 A c l (hbw.trans (h.mono hbw.size)) (Kd.C_below hC h) hlc hx hl)
  have HV := Aside0.mk hv
  have HC := Aside0.mk hc
  have cp := hc.cp
  clear hp hbw hc hv hC
  have HF := Aside0.mk (show findF p n 0 l = if p l = true then some l else none from rfl)
  go_enter Tryd.func65, Tryd.ntmps65
  go_wp2_with (go_at_fn gf; refine (HP.out _ (Below.refl _ _)).mono ?_; rintro e w' ⟨rfl, hb'⟩)
  go_ret2
  refine ⟨⟨.slice A l.length c, ?_, fun x h => ?_⟩, hb'⟩
  · rw [HF.out]; cases p l <;> rfl
  · rw [HF.out] at h
    cases hq : p l with
    | true => rw [hq] at h; obtain rfl : l = x := by simpa using h
              exact HV.out.below hb'
    | false => rw [hq] at h; simp at h
theorem own_alloc_ {W : World} {base e m : Nat} {v : Value} {xs : List Value} (h : W.ownsRow base e 1 v m xs) (o : Obj) : (W.alloc o).ownsRow base e 1 v m xs := GM.own_below h (below_alloc (Below.refl _ _) o)
theorem own_drew_ {W : World} {base e m : Nat} {v : Value} {xs : List Value} (h : W.ownsRow base e 1 v m xs) : W.drew.ownsRow base e 1 v m xs := GM.own_below h (below_drew1 (Below.refl _ _))
theorem own_lower_ {W : World} {base base' e m : Nat} {v : Value} {xs : List Value} (h : W.ownsRow base e 1 v m xs) (hb : base' ≤ base) : W.ownsRow base' e 1 v m xs := by
  refine ⟨h.1, ?_⟩
  rcases h.2 with h | ⟨g, cap, cur, h1, h2, h3⟩
  · exact .inl h
  · exact .inr ⟨g, cap, cur, h1, Nat.le_trans hb h2, h3⟩
theorem own_base_ {W : World} {base e m : Nat} {v : Value} {xs : List Value} (h : W.ownsRow base e 1 v m xs) : ∀ k, v.ownBlock = some k → base ≤ k := by
  intro k hk
  rcases h.2 with ⟨rfl, _⟩ | ⟨g, cap, cur, rfl, h2, h3⟩
  · simp [Value.ownBlock] at hk
  · have : g = k := by simpa [Value.ownBlock] using hk
    omega
theorem OwnI.snoc {W : World} {base g cap : Nat} {l : List Int} {x : Int} (h : W.ownsRow base 3 1 (.slice (some ⟨g, 0, none⟩) (l.length + 1) cap) (l.length + 1) (nums l ++ [.int .i64 x])) : OwnI W base (.slice (some ⟨g, 0, none⟩) (l.length + 1) cap) (l ++ [x]) := by
  show W.ownsRow base 3 1 _ (l ++ [x]).length (nums (l ++ [x]))
  rw [show (l ++ [x]).length = l.length + 1 by simp, show nums (l ++ [x]) = nums l ++ [.int .i64 x] by simp [nums]]
  exact h
theorem fromI_snoc (l : List Int) (x : Int) : fromI (l ++ [x]) = x + 1 := by
  unfold fromI rd
  rw [if_pos (by simp), show (((l ++ [x]).length : Int) - 1).toNat = l.length by simp]
  simp
theorem fromI_le {l : List Int} {n : Nat} (hx : ∀ x ∈ l, 0 ≤ x ∧ x < (n : Int)) : 0 ≤ fromI l ∧ fromI l ≤ n := by
  unfold fromI
  split
  · next h =>
    have hm : rd l ((l.length : Int) - 1) ∈ l := by
      unfold rd
      rw [show ((l.length : Int) - 1).toNat = l.length - 1 by omega, List.getD_eq_getElem?_getD, List.getElem?_eq_getElem (by omega)]
      exact List.getElem_mem _
    have := hx _ hm
    omega
  · omega
set_option maxRecDepth 100000 in
set_option maxHeartbeats 8000000 in
theorem find_calls (p : List Int → Bool) (gf : Nat) (eg : ∀ args w, (callFunc gf args).run Tryd.prog w = .ok (.enter gf args) w) (n : Nat) (w : World) (B : Option Addr) (hp : GoodFn gf B p n w) (b0 b1 b2 : Nat) (G : List S82) (base : Nat) (hn : n ≤ 10) :
    ∀ (k : Nat) (W : World) (v : Value) (l : List Int), k ≤ 100 → Below w.heap.size w W → Caps W b0 b1 b2 B gf n G → OwnI W base v l → (∀ x ∈ l, 0 ≤ x ∧ x < (n : Int)) → (l.length : Int) ≤ fromI l → base ≤ W.heap.size → (l = [] → v = .slice none 0 0) →
    Calls Tryd.prog 65 #[v, .int .i64 k, .pointer (some ⟨b1, 0, none⟩), .pointer (some ⟨b0, 0, none⟩), .pointer (some ⟨b2, 0, none⟩)] W (FindPost base (findF p n k l) W)
  | 0, W, v, l, _, hbw, hc, hv, hx, hl, _, _ => find_zero p gf eg n w B hp b0 b1 b2 G base W hbw hc v l hv hx (by have := fromI_le hx; omega) hn
  | k + 1, W, v, l, hk, hbw, hc, hv, hx, hl, hbase, hnil => by
    have hfr := fromI_le hx
    have hln : l.length ≤ n := by omega
    have IH := Lib.hid (find_calls p gf eg n w B hp b0 b1 b2 G base hn k)
    obtain ⟨A, c, rfl, hlc, hC, hnone⟩ := hv.C (by omega)
    have HV := Aside0.mk hv
    have HC := Aside0.mk hc
    have HK := Aside0.mk hC
    have HX := Aside0.mk hx
    have HBW := Aside0.mk hbw
    have HBASE := Aside0.mk hbase
    have HZ := Aside0.mk (show ∀ ad, A = some ad → 0 < l.length from fun ad e => by
      cases l with
      | nil => have := hnil rfl; rw [e] at this; cases this
      | cons x xs => simp)
    clear hnil
    have kz : ((((k + 1 : Nat) : Int)) == 0) = false := by rw [beq_eq_false_iff_ne]; omega
    have kz2 : ((k : Int) + 1 == 0) = false := by rw [beq_eq_false_iff_ne]; omega
    clear hp hbw hc hv hC hx hbase
    have HT := Aside0.mk (show findF p n (k + 1) l = tryF (findF p n k) l ((n : Int) - fromI l).toNat (fromI l) from rfl)
    go_enter Tryd.func65, Tryd.ntmps65
    go_upto_if 21 with (fail)
    go_cut [9] (fun s9 wx => s9 = .int .i64 (fromI l) ∧ W = wx)
    case first =>
      by_cases h0 : 0 < l.length
      · have h0b : decide (0 < l.length) = true := decide_eq_true h0
        obtain ⟨ad, e1, x0⟩ := Kd.at_int HK.out ((l.length : Int) - 1) (by omega) (by omega)
        cases e1
        rw [show ((l.length : Int) - 1).toNat = l.length - 1 by omega] at x0
        have hm := HX.out (rd l ((l.length : Int) - 1)) (by
          unfold rd
          rw [show ((l.length : Int) - 1).toNat = l.length - 1 by omega, List.getD_eq_getElem?_getD, List.getElem?_eq_getElem (by omega)]
          exact List.getElem_mem _)
        have HFI := Aside0.mk (show fromI l = rd l ((l.length : Int) - 1) + 1 by unfold fromI; rw [if_pos h0])
        have hw1 : wrap64 ((l.length : Int) - 1) = (l.length : Int) - 1 := by unfold wrap64; omega
        have hz0 : ((0 : Int) ≤ (l.length : Int) - 1) = True := eq_true (by omega)
        have hz1 : ((l.length : Int) - 1 < (l.length : Int)) = True := eq_true (by omega)
        generalize rd l ((l.length : Int) - 1) = y at x0 hm HFI
        go_wp2
        go_meet
        exact ⟨by rw [HFI.out], rfl⟩
      · have h0b : decide (0 < l.length) = false := decide_eq_false h0
        have HFI := Aside0.mk (show fromI l = 0 by unfold fromI; rw [if_neg h0])
        go_wp2
        go_meet
        exact ⟨by rw [HFI.out], rfl⟩
    case rest =>
      obtain ⟨rfl, rfl⟩ := hcut
      have HD := Aside0.mk (rfl : findF p n (k + 1) l = findF p n (k + 1) l)
      clear HD
      go_wp2
      go_loopg [10] ((n : Int) - fromI l).toNat (fun gg v10 wr => ∃ x : Int, fromI l ≤ x ∧ x ≤ n ∧ ((n : Int) - x).toNat ≤ gg ∧ v10 = .int .i64 x ∧ Aside0 (findF p n (k + 1) l = tryF (findF p n k) l ((n : Int) - x).toNat x) ∧ Aside0 (Below W.heap.size W wr))
      case atStart => exact ⟨fromI l, Int.le_refl _, hfr.2, Nat.le_refl _, rfl, HT, ⟨Below.refl _ _⟩⟩
      case round =>
        obtain ⟨x, hxf, hxn, hgx, rfl, HF, HB⟩ := hrel
        have hx0 : 0 ≤ x := by omega
        clear HT
        have HC2 := Aside0.mk (HC.out.below HB.out)
        have cg := HC2.out.cg
        have cf := HC2.out.cf
        obtain ⟨gb, _, _, _, _, hBe, x0, _, _, _⟩ := at_T82 HC2.out.gr 0 (by decide) (by decide)
        have hB := Aside0.mk hBe
        cases hBe
        rw [show (0 : Int).toNat * 3 = 0 from rfl, rp_add0, HC2.out.gn] at x0
        by_cases hlt : x < n
        · have hltb : decide (x < (n : Int)) = true := decide_eq_true hlt
          go_upto_region 9 with (fail)
          have HT2 := Aside0.mk (show findF p n (k + 1) l = match findF p n k (l ++ [x]) with
              | some r => some r
              | none => tryF (findF p n k) l ((n : Int) - (x + 1)).toNat (x + 1) by
            rw [HF.out, show ((n : Int) - x).toNat = ((n : Int) - (x + 1)).toNat + 1 by omega]; rfl)
          have hleft : IntKind.i64.wrap (((k + 1 : Nat) : Int) - 1) = (k : Int) := by rw [IntKind.wrap_i64]; omega
          have hleft2 : IntKind.i64.wrap (k : Int) = (k : Int) := by rw [IntKind.wrap_i64]; omega
          have hx1 : wrap64 (x + 1) = x + 1 := by unfold wrap64; omega
          have cfa := fun o : Obj => (HC2.out.below (below_alloc (Below.refl _ _) o)).cf
          obtain ⟨i3, hi3, hz3, hsz3, hby3⟩ := info_parts info3
          have HXS := Aside0.mk (show ∀ y ∈ l ++ [x], 0 ≤ y ∧ y < (n : Int) from fun y hy => by
            rcases List.mem_append.1 hy with h | h
            · exact HX.out y h
            · obtain rfl := List.mem_singleton.1 h; exact ⟨hx0, hlt⟩)
          have hlen : l.length + 1 ≤ n := by omega
          have hlx := Aside0.mk (show ((l ++ [x]).length : Int) ≤ fromI (l ++ [x]) by rw [fromI_snoc, List.length_append, List.length_singleton]; omega)
          go_region_held3 (fun w' => w'.cell? ⟨b2, 0, none⟩ = some (.func (.func 65) #[] #[.pointer (some ⟨b1, 0, none⟩), .pointer (some ⟨b0, 0, none⟩), .pointer (some ⟨b2, 0, none⟩)]))
            (first | exact cf | exact cfa _ | exact cf5 | exact cf5a _ | exact cf6 | exact cf7)
            (first
            | (go_at_call 66; with_reducible refine (clone_calls A c l (wr.alloc (.cells #[.int .i64 x] 3)).drew (by repeat (first | (with_reducible refine Kd.C_alloc ?_ _) | (with_reducible refine Kd.C_drew ?_) | exact Kd.C_below HK.out HB.out)) (by omega) HZ.out).mono ?_; rintro e w5 ⟨v5, rfl, ho5, hb5⟩; have HB5 := Aside0.mk (below_then (show Below W.heap.size W _ by repeat (first | (with_reducible apply below_alloc) | (with_reducible apply below_drew1) | exact HB.out)) (by have := HB.out.size; simp; omega) hb5); have HO5 := Aside0.mk (own_lower_ (base' := base) ho5 (by have := HBASE.out; have := HB.out.size; simp; omega)); have HK5 := Aside0.mk (own_base_ (own_lower_ (base' := W.heap.size) ho5 (by have := HB.out.size; simp; omega))); have cf5 := (HC.out.below HB5.out).cf; have cf5a := fun o : Obj => (HC.out.below (below_alloc HB5.out o)).cf; have hl5 : w5.cell? ⟨wr.heap.size, 0, none⟩ = some (.int .i64 x) := (hb5.cell (p := ⟨wr.heap.size, 0, none⟩) (by simp)).trans (by simp); clear ho5 hb5)
            | (go_at_call 66; with_reducible refine (clone_calls A c l _ (by repeat (first | (with_reducible refine Kd.C_alloc ?_ _) | (with_reducible refine Kd.C_drew ?_) | exact Kd.C_below HK.out HB.out)) (by omega) HZ.out).mono ?_; rintro e w5 ⟨v5, rfl, ho5, hb5⟩; have HB5 := Aside0.mk (below_then (show Below W.heap.size W _ by repeat (first | (with_reducible apply below_alloc) | (with_reducible apply below_drew1) | exact HB.out)) (by have := HB.out.size; simp; omega) hb5); have HO5 := Aside0.mk (own_lower_ (base' := base) ho5 (by have := HBASE.out; have := HB.out.size; simp; omega)); have HK5 := Aside0.mk (own_base_ (own_lower_ (base' := W.heap.size) ho5 (by have := HB.out.size; simp; omega))); have cf5 := (HC.out.below HB5.out).cf; have cf5a := fun o : Obj => (HC.out.below (below_alloc HB5.out o)).cf; clear ho5 hb5)
            | (refine step_append_lies _ (by rfl) (.tmp 41) (.tmp 43) 28 (by rfl) base 3 i3 (.int .i64 0) 1 8 Tryd.underlying28 hi3 hz3 hsz3 hby3 rfl (by decide) v5 l.length (nums l) (by rfl) (by repeat (first | (with_reducible refine own_alloc_ ?_ _) | (with_reducible apply own_drew_) | exact HO5.out)) _ 1 _ [.int .i64 x] (by rfl) (by rfl) (by intro j u hj; have hj0 : j = 0 := (by have := (List.getElem?_eq_some_iff.1 hj).1; simpa using this); subst hj0; have hu : Value.int .i64 x = u := (by simpa using hj); subst hu; first | (simp [Addr.add]; done) | exact hl5) (by intro u hu; rw [List.mem_singleton.1 hu]; rfl) (by decide) (by unfold maxLen; omega) (by omega) (by have := HBASE.out; have := HB5.out.size; simp; omega) _ rfl ?_; intro g6 cap6 w6 ho6 hg6 hat6 hlt6; have HB6 := Aside0.mk (Below.grown (show Below W.heap.size W _ by repeat (first | (with_reducible apply below_alloc) | (with_reducible apply below_drew1) | exact HB5.out)) hg6 (by have := HB5.out.size; simp; omega) HK5.out); have HO6 := Aside0.mk (OwnI.snoc ho6); have cf6 := (HC.out.below HB6.out).cf; clear ho6 hg6 hat6 hlt6)
            | (go_at_call 65; with_reducible refine (IH.out _ _ (l ++ [x]) (by omega) (HBW.out.trans (HB6.out.mono HBW.out.size)) (HC.out.below HB6.out) HO6.out HXS.out hlx.out (Nat.le_trans HBASE.out HB6.out.size) (fun h => absurd h (by simp))).mono ?_; intro e w7 hpost; unfold FindPost at hpost; obtain ⟨⟨v7, he7, hr7⟩, hb7⟩ := hpost; subst he7; have HR7 := Aside0.mk hr7; have HB7 := Aside0.mk (below_then HB6.out HB6.out.size hb7); have cf7 := (HC.out.below HB7.out).cf; clear hr7 hb7))
          all_goals
            cases hfr2 : findF p n k (l ++ [x]) with
            | some r =>
              rw [hfr2] at HT2 HR7
              have HE := Aside0.mk HT2.out
              clear HT2 hfr2
              go_wp2
              go_ret2
              exact ⟨⟨v7, by rw [HE.out]; rfl, fun y h => by rw [HE.out] at h; obtain rfl := Option.some.inj h; exact HR7.out _ rfl⟩, HB7.out⟩
            | none =>
              rw [hfr2] at HT2 HR7
              have HE := Aside0.mk HT2.out
              clear HT2 hfr2
              go_wp2
              go_roundg ((n : Int) - (x + 1)).toNat
              case measure => omega
              case rel => exact ⟨x + 1, by omega, by omega, Nat.le_refl _, rfl, HE, HB7⟩
        · have hltb : decide (x < (n : Int)) = false := decide_eq_false hlt
          have HE := Aside0.mk (show findF p n (k + 1) l = none by rw [HF.out, show ((n : Int) - x).toNat = 0 by omega]; rfl)
          clear hlt hgx
          go_wp2
          go_ret2
          exact ⟨⟨.slice none 0 0, by rw [HE.out]; rfl, fun x h => by rw [HE.out] at h; cases h⟩, HB.out⟩
end Go.Proofs.YtbeimdngghedjaaDoor.P
