/- The walk of beacon.read. -/
import Derived.Test.YtbeimdngghedjaaDoorBR
import Derived.BigRegion
import Derived.Test.YtbeimdngghedjaaDoorBM
import Derived.StillTailTactics
namespace Go.Proofs.YtbeimdngghedjaaDoor.P
set_option linter.unusedVariables false
set_option linter.unusedSimpArgs false
open Go Go.RowKit Go.Proofs.YtbeimdngghedjaaDoorW.PrintWords Go.Proofs.YtbeimdngghedjaaDoorW.PrintLast Go.Proofs.YtbeimdngghedjaaDoorW.PrintMore
attribute [local go_sem] max2_int min2_int max_two min_two

theorem GM.congr {w W : World} {n me ma : Nat} {vE vA : Value} {bE bA : Nat → Nat} {E E' : Nat → Nat → Bool} {M M' : Mt} (h : GM w W n me ma vE vA bE bA E M) (hE : ∀ a b, a < me → b < n → E a b = E' a b) (hM : ∀ a b, a < ma → b < n → M a b = M' a b) : GM w W n me ma vE vA bE bA E' M' := by
  have eE : ∀ a, a < me → boolRow n (E a) = boolRow n (E' a) := fun a ha => List.map_congr_left fun b hb => by rw [hE a b ha (by simpa using hb)]
  have eM : ∀ a, a < ma → intRow n (M a) = intRow n (M' a) := fun a ha => List.map_congr_left fun b hb => by rw [hM a b ha (by simpa using hb)]
  exact ⟨h.hb, h.gm, h.oE, h.oA, fun i hi => by rw [← eE i hi]; exact h.rE i hi, fun i hi => by rw [← eM i hi]; exact h.rA i hi, h.iE, h.iA⟩
def noE : Nat → Nat → Bool := fun _ _ => false
def initM (n : Nat) : Mt := fun a b => if a = b then 0 else n
theorem initM_put (n i a b : Nat) (ha : a < i + 1) : upd (fun a b => if a = i then (n : Int) else initM n a b) i i 0 a b = initM n a b := by
  unfold upd initM
  by_cases h1 : a = i <;> by_cases h2 : b = i
  · rw [if_pos ⟨h1, h2⟩, if_pos (by omega)]
  · rw [if_neg (fun e => h2 e.2), if_neg (show ¬ a = b by omega)]; simp [h1]
  · rw [if_neg (fun e => h1 e.1)]; simp [h1]
  · rw [if_neg (fun e => h1 e.1)]; simp [h1]
/-- The edges that were read, and the distances at first. -/
def edE (l : List S47) : Nat → Nat → Bool := l.foldl (fun E e => GM.updE (GM.updE E e.f0.toNat e.f1.toNat) e.f1.toNat e.f0.toNat) noE
def edM (n : Nat) (l : List S47) : Mt := l.foldl (fun M e => upd (upd M e.f0.toNat e.f1.toNat 1) e.f1.toNat e.f0.toNat 1) (initM n)
theorem edE_snoc (l : List S47) (e : S47) : edE (l ++ [e]) = GM.updE (GM.updE (edE l) e.f0.toNat e.f1.toNat) e.f1.toNat e.f0.toNat := by unfold edE; rw [List.foldl_append]; rfl
theorem edM_snoc (n : Nat) (l : List S47) (e : S47) : edM n (l ++ [e]) = upd (upd (edM n l) e.f0.toNat e.f1.toNat 1) e.f1.toNat e.f0.toNat 1 := by unfold edM; rw [List.foldl_append]; rfl
def edOk (n : Nat) (e : S47) : Bool := decide (0 ≤ e.f0) && decide (e.f0 < n) && decide (0 ≤ e.f1) && decide (e.f1 < n) && (e.f0 != e.f1)
theorem edOk_parts {n : Nat} {a b : Int} (h : edOk n ⟨a, b⟩ = true) : 0 ≤ a ∧ a < n ∧ 0 ≤ b ∧ b < n ∧ a ≠ b := by
  unfold edOk at h
  simp only [Bool.and_eq_true, decide_eq_true_eq, bne_iff_ne] at h
  omega
theorem edOk_not {n : Nat} {a b : Int} (h : edOk n ⟨a, b⟩ = false) : a < 0 ∨ (n : Int) ≤ a ∨ b < 0 ∨ (n : Int) ≤ b ∨ a = b := by
  by_cases h1 : a < 0 ∨ (n : Int) ≤ a ∨ b < 0 ∨ (n : Int) ≤ b ∨ a = b
  · exact h1
  · exfalso
    have : edOk n ⟨a, b⟩ = true := by
      unfold edOk
      simp only [Bool.and_eq_true, decide_eq_true_eq, bne_iff_ne]
      omega
    rw [this] at h; cases h
theorem mn_lt0 {a b : Int} : mn a b < 0 ↔ a < 0 ∨ b < 0 := by unfold mn; split <;> omega
theorem le_mx {n a b : Int} : n ≤ mx a b ↔ n ≤ a ∨ n ≤ b := by unfold mx; split <;> omega
theorem all_bad {n : Nat} {l : List S47} {t : Nat} (h : t < l.length) (hb : edOk n (rd_T47 l t) = false) : l.all (edOk n) = false := by
  rw [List.all_eq_false]
  refine ⟨rd_T47 l t, ?_, by rw [hb]; decide⟩
  unfold rd_T47
  simp [h]
theorem take_rd (l : List S47) (t : Nat) (h : t < l.length) : l.take (t + 1) = l.take t ++ [rd_T47 l t] := by
  rw [List.take_succ_eq_append_getElem h]
  unfold rd_T47
  simp [h]
/-- The final distances. -/
def finalM (n : Nat) (l : List S47) : Mt := floyd n (edM n l)
/-- The greatest distance from vertex 0. -/
def rowMax (n : Nat) (l : List S47) : Int := maxTo ((List.range n).map (finalM n l 0)) n
/-- What read answers. -/
def ReadPost (n : Nat) (l : List S47) (w : World) (e : Ending) (w' : World) : Prop :=
  (l.all (edOk n) = true → ∃ (vE vA : Value) (bE bA : Nat → Nat), e = .returned (.tuple #[.pointer (some ⟨w.heap.size, 0, none⟩), .bool (decide (rowMax n l < (n : Int)))]) ∧ GM w w' n n n vE vA bE bA (edE l) (finalM n l)) ∧
  (l.all (edOk n) = false → e = .returned (.tuple #[.pointer none, .bool false]) ∧ Below w.heap.size w w')
theorem edM_bd (n : Nat) (hn : 1 ≤ n) (l : List S47) : Bd n (edM n l) := by
  have key : ∀ (l : List S47) (M : Mt), Bd n M → Bd n (l.foldl (fun M e => upd (upd M e.f0.toNat e.f1.toNat 1) e.f1.toNat e.f0.toNat 1) M) := by
    intro l
    induction l with
    | nil => exact fun M h => h
    | cons e l ih => exact fun M h => ih _ ((h.upd _ _ (by omega) (by omega)).upd _ _ (by omega) (by omega))
  exact key l _ (fun a b => by unfold initM; split <;> omega)
theorem zeros_row (n : Nat) : madeCells #[.bool false] n = (boolRow n (noE 0)).toArray := by
  apply Array.ext'
  unfold madeCells boolRow noE
  simp
  intro a ha
  simp [Nat.mod_one]
theorem info4 : (Tryd.prog.info? 4).map (fun i => (i.zero, i.size, i.bytes)) = some (some (.bool false), 1, 1) := by kernel_rfl
theorem info78 : (Tryd.prog.info? 78).map (fun i => (i.zero, i.size, i.bytes)) = some (some (.slice none 0 0), 1, 24) := by kernel_rfl
theorem repl_row (n : Nat) : ((List.replicate n ((n : Nat) : Int)).map (Value.int .i64)).toArray = (intRow n (fun _ => (n : Int))).toArray := by
  congr 1
  refine List.ext_getElem (by simp [intRow]) fun i h1 h2 => ?_
  simp [intRow]
set_option maxRecDepth 100000 in
set_option maxHeartbeats 8000000 in
theorem read_good (n : Nat) (h1 : 1 ≤ n) (h10 : n ≤ 10) (A : Option Addr) (c : Nat) (l : List S47) (w : World) (hr : Kd.C k47 w A l.length l) (hc : l.length ≤ c) (hl : l.length ≤ 60) :
    Calls Tryd.prog 46 #[.int .i64 n, .slice A l.length c] w (ReadPost n l w) := by
  have HR := Aside0.mk hr
  have HC := Aside0.mk hc
  clear hr hc
  have h1b : decide (n < 1) = false := decide_eq_false (by omega)
  have h2b : decide (10 < n) = false := decide_eq_false (by omega)
  have h1c : decide ((n : Int) < 1) = false := decide_eq_false (by omega)
  have h2c : decide (10 < (n : Int)) = false := decide_eq_false (by omega)
  have h5b : decide (60 < l.length) = false := decide_eq_false (by omega)
  have h5c : decide (60 < (l.length : Int)) = false := decide_eq_false (by omega)
  have hu82 := Tryd.underlying82
  obtain ⟨i4, hi4, hz4, hsz4, hby4⟩ := info_parts info4
  have hmk := fun W : World => run_make (P := Tryd.prog) (w := W) 78 4 i4 (.bool false) Tryd.underlying78 hi4 hz4 .i64 .i64 (n : Int) (n : Int) (by omega) (by omega) (by rw [hby4]; omega) (by omega)
  simp only [Int.toNat_natCast, hsz4, Nat.mul_one, zeros_row] at hmk
  have HI4 := Aside0.mk (And.intro hi4 (And.intro hz4 (And.intro hsz4 hby4)))
  clear hi4 hz4 hsz4 hby4
  go_enter Tryd.func46, Tryd.ntmps46
  go_wp2
  go_loopg [28] n (fun gg v28 wr => ∃ (i : Nat) (vE vA : Value) (bE bA : Nat → Nat), i ≤ n ∧ n - i ≤ gg ∧ v28 = .int .i64 i ∧ Aside0 (GM w wr n i i vE vA bE bA noE (initM n)))
  case atStart =>
    refine ⟨0, .slice none 0 0, .slice none 0 0, fun _ => 0, fun _ => 0, Nat.zero_le _, by omega, rfl, ⟨?_⟩⟩
    exact ⟨below_alloc (Below.refl _ _) _, blk_new _ _, ⟨rfl, .inl ⟨rfl, rfl⟩⟩, ⟨rfl, .inl ⟨rfl, rfl⟩⟩, fun i hi => absurd hi (by omega), fun i hi => absurd hi (by omega), fun i j hi => absurd hi (by omega), fun i j hi => absurd hi (by omega)⟩
  case round =>
    obtain ⟨i, vE, vA, bE, bA, hi, hgi, rfl, HM⟩ := hrel
    by_cases hlt : i < n
    · have hltb : decide (i < n) = true := decide_eq_true hlt
      have c1 := HM.out.c1
      have f1 := HM.out.fz 1
      obtain ⟨i78, hi78, hz78, hsz78, hby78⟩ := info_parts info78
      go_upto_region 7 with (fail)
      go_cut [31] (fun s31 wx => ∃ (vE' : Value) (bE' : Nat → Nat), Aside0 (GM w wx n (i + 1) i vE' vA bE' bA noE (initM n)))
      case first =>
        have hnew : ∀ W : World, W.heap.size = wr.heap.size → (W.alloc (.cells (madeCells #[.bool false] n) 4)).heap[wr.heap.size]? = some (.cells (boolRow n (noE i)).toArray 4 (0, 0)) := fun W hW => by rw [zeros_row, ← hW]; exact blk_new _ _
        have HN := Aside0.mk hnew
        clear hnew
        have ca1 := fun o : Obj => (HM.out.alloc o).c1
        have ca2 := fun o o2 : Obj => ((HM.out.alloc o).alloc o2).c1
        go_region_law (first
          | (refine step_append_lies _ (by rfl) (.tmp 35) (.tmp 38) 80 (by rfl) (w.heap.size + 1) 78 i78 (.slice none 0 0) 1 24 Tryd.underlying80 hi78 hz78 hsz78 hby78 rfl (by decide) vE i (hdrs n i bE) (by rfl) (by exact GM.oE (E := noE) (M := initM n) (vA := vA) (bA := bA) (ma := i) (by repeat (first | (with_reducible apply GM.alloc) | (with_reducible apply GM.drew) | exact HM.out))) ⟨wr.heap.size + 1, 0, none⟩ 1 1 [.slice (some ⟨wr.heap.size, 0, none⟩) n n] (by rfl) (by rfl) (by intro j u hj; have hj0 : j = 0 := (by have := (List.getElem?_eq_some_iff.1 hj).1; simpa using this); subst hj0; have hu : Value.slice (some ⟨wr.heap.size, 0, none⟩) n n = u := (by simpa using hj); subst hu; simp [Addr.add]) (by intro u hu; rw [List.mem_singleton.1 hu]; rfl) (by decide) (by unfold maxLen; omega) (by omega) (by have := HM.out.gsize; simp; omega) _ rfl ?_; intro g cap w3 ho3 hg3 hat3 hlt3; have HA := Aside0.mk (GM.addE HM.out (by repeat (first | (with_reducible apply below_alloc) | (with_reducible apply below_drew1) | exact Below.refl _ _)) (Nat.le_refl _) (by repeat (first | ((with_reducible refine HN.out _ ?_); rfl) | (with_reducible apply blk_alloc) | (with_reducible apply blk_drew))) ho3 hg3); obtain ⟨c3, f3⟩ := GM.afterE (E := noE) (M := initM n) (vA := vA) (bA := bA) (bE := bE) (me := i) (n := n) (ma := i) (w := w) (by repeat (first | (with_reducible apply GM.alloc) | (with_reducible apply GM.drew) | exact HM.out)) hg3; clear ho3 hg3 hat3 hlt3))
        all_goals
          go_wp2
          go_meet
          exact ⟨_, _, HA⟩
      case rest =>
        obtain ⟨vE', bE', HM2⟩ := hcut
        clear HM c1 f1
        obtain ⟨i28, hi28, hz28, hsz28, hby28⟩ := info_parts info28
        have c2 := HM2.out.c2
        have f2 := HM2.out.fz 2
        go_upto_region 8 with (fail)
        go_cut [42] (fun s42 wy => ∃ (vA' : Value) (bA' : Nat → Nat), Aside0 (GM w wy n (i + 1) (i + 1) vE' vA' bE' bA' noE (fun a b => if a = i then (n : Int) else initM n a b)))
        case first =>
          have HM3 := Aside0.mk (HM2.out.congr (E' := noE) (M' := fun a b => if a = i then (n : Int) else initM n a b) (fun _ _ _ _ => rfl) (fun a b ha _ => (if_neg (show ¬ a = i by omega)).symm))
          have ca1 := fun o : Obj => (HM2.out.alloc o).c2
          have ca2 := fun o o2 : Obj => ((HM2.out.alloc o).alloc o2).c2
          clear HM2
          go_region_law (first
            | (refine step_append_lies _ (by rfl) (.tmp 46) (.tmp 51) 32 (by rfl) (w.heap.size + 1) 28 i28 (.slice none 0 0) 1 24 Tryd.underlying32 hi28 hz28 hsz28 hby28 rfl (by decide) vA i (hdrs n i bA) (by rfl) (by exact GM.oA (by repeat (first | (with_reducible apply GM.alloc) | (with_reducible apply GM.drew) | exact HM5.out))) ⟨w5.heap.size, 0, none⟩ 1 1 [.slice (some ⟨g5, 0, none⟩) n n] (by rfl) (by rfl) (by intro j u hj; have hj0 : j = 0 := (by have := (List.getElem?_eq_some_iff.1 hj).1; simpa using this); subst hj0; have hu : Value.slice (some ⟨g5, 0, none⟩) n n = u := (by simpa using hj); subst hu; simp [Addr.add]) (by intro u hu; rw [List.mem_singleton.1 hu]; rfl) (by decide) (by unfold maxLen; omega) (by omega) (by have := HM5.out.gsize; simp; omega) _ rfl ?_; intro g cap w3 ho3 hg3 hat3 hlt3; have HA := Aside0.mk (GM.addA HM3.out (by repeat (first | (with_reducible apply below_alloc) | (with_reducible apply below_drew1) | exact HB5.out)) HG5.out (by repeat (first | (with_reducible exact HR5.out) | (with_reducible apply blk_alloc) | (with_reducible apply blk_drew))) ho3 hg3); obtain ⟨c3, f3⟩ := GM.afterA (by repeat (first | (with_reducible apply GM.alloc) | (with_reducible apply GM.drew) | exact HM5.out)) hg3; clear ho3 hg3 hat3 hlt3)
            | (go_simp; go_at_call 63; with_reducible refine (repeat_calls (n : Int) n h10 (some ⟨wc.heap.size, 0, none⟩) 1 _ (one_row (t := 3) (by repeat (first | (with_reducible exact blk_new _ _) | (with_reducible apply blk_drew))))).mono ?_; rintro e w5 ⟨g5, rfl, hR5, hb5, hg5, hge5⟩; have HM5 := Aside0.mk (GM.below (by repeat (first | (with_reducible apply GM.alloc) | (with_reducible apply GM.drew) | exact HM3.out)) hb5); have HB5 := Aside0.mk (below_then (show Below wc.heap.size wc _ by repeat (first | (with_reducible apply below_alloc) | (with_reducible apply below_drew1) | exact Below.refl _ _)) (by simp) hb5); have HG5 := Aside0.mk (show wc.heap.size ≤ g5 by simp at hge5; omega); rw [repl_row] at hg5; have HR5 := Aside0.mk (show w5.heap[g5]? = some (.cells (intRow n ((fun a b => if a = i then (n : Int) else initM n a b : Mt) i)).toArray 3 (0, 0)) by rw [hg5]; simp); have cb1 := HM5.out.c2; have cb2 := fun o : Obj => (HM5.out.alloc o).c2; clear hR5 hb5 hg5 hge5))
          all_goals
            go_wp2
            go_meet
            exact ⟨_, _, HA⟩
        case rest =>
          obtain ⟨vA', bA', HM4⟩ := hcut
          clear HM2 c2 f2
          obtain ⟨gA, cA, rfl, hgA, hcA, hhA⟩ := HM4.out.hA (by omega)
          have xh := hhA i (by omega)
          have x2 := HM4.out.c2
          have xc := HM4.out.cA (i := i) (j := i) (by omega) hlt
          have xf := HM4.out.fA (i := i) (by omega) i
          have hi1 : ((i : Int) < ((i + 1 : Nat) : Int)) = True := eq_true (by omega)
          have hi2 : ((i : Int) < (n : Int)) = True := eq_true (by omega)
          clear hhA
          go_wp2
          go_roundg (n - (i + 1))
          case measure => omega
          case rel =>
            refine ⟨i + 1, _, _, _, _, by omega, by omega, by go_num, ⟨(HM4.out.putA (i := i) (j := i) (by omega) hlt 0).congr (fun _ _ _ _ => rfl) (fun a b ha _ => ?_)⟩⟩
            exact initM_put n i a b ha
    · have hltb : decide (i < n) = false := decide_eq_false hlt
      obtain rfl : i = n := by omega
      clear hlt hltb hgi hi hmk HI4
      obtain ⟨gE, cE, rfl, hgE, hcE, _⟩ := HM.out.hE (by omega)
      obtain ⟨gA, cA, rfl, hgA, hcA, _⟩ := HM.out.hA (by omega)
      go_wp2
      go_loopg [67] l.length (fun gg v67 wr => ∃ t : Nat, t ≤ l.length ∧ l.length - t ≤ gg ∧ v67 = .int .i64 t ∧ Aside0 (GM w wr i i i (.slice (some ⟨gE, 0, none⟩) i cE) (.slice (some ⟨gA, 0, none⟩) i cA) bE bA (edE (l.take t)) (edM i (l.take t))) ∧ Aside0 ((l.take t).all (edOk i) = true))
      case atStart => exact ⟨0, Nat.zero_le _, by omega, rfl, HM, ⟨rfl⟩⟩
      case round =>
        obtain ⟨t, ht, hgt, rfl, HM2, HO⟩ := hrel
        clear HM
        by_cases hlt : t < l.length
        · have hltb : decide (t < l.length) = true := decide_eq_true hlt
          have HT := Aside0.mk (take_rd l t hlt)
          obtain ⟨ad, e1, x0, x1⟩ := at_T47 HR.out (t : Int) (by omega) (by omega)
          cases e1
          rw [Int.toNat_natCast] at x0 x1
          generalize hab : rd_T47 l t = ab at x0 x1
          have HAB := Aside0.mk hab
          have y0 := (HM2.out.hb.cell (World.block_lt_of_cell? _ _ x0)).trans x0
          have y1 := (HM2.out.hb.cell (World.block_lt_of_cell? _ _ x1)).trans x1
          clear x0 x1 hab
          obtain ⟨a, b⟩ := ab
          have hmn : (if b < a then b else a) = mn a b := rfl
          have hmx : (if a < b then b else a) = mx a b := rfl
          cases hk : edOk i ⟨a, b⟩ with
          | false =>
            have hbad := Aside0.mk (all_bad (n := i) hlt (by rw [HAB.out]; exact hk))
            have hor := edOk_not hk
            have fin : ∀ W : World, Below wr.heap.size wr W → ReadPost i l w (.returned (.tuple #[.pointer none, .bool false])) W := fun W hW => ⟨(fun h => by rw [hbad.out] at h; cases h), fun _ => ⟨rfl, HM2.out.hb.trans (hW.mono HM2.out.hb.size)⟩⟩
            have FIN := Aside0.mk fin
            clear fin
            by_cases k1 : mn a b < 0
            · have k1b : decide (mn a b < 0) = true := decide_eq_true k1
              clear hor k1
              go_wp2
              go_ret2
              exact FIN.out _ (below_alloc (Below.refl _ _) _)
            · have k1b : decide (mn a b < 0) = false := decide_eq_false k1
              by_cases k2 : (i : Int) ≤ mx a b
              · have k2b : decide ((i : Int) ≤ mx a b) = true := decide_eq_true k2
                clear hor k1 k2
                go_wp2
                go_ret2
                exact FIN.out _ (below_alloc (Below.refl _ _) _)
              · have k2b : decide ((i : Int) ≤ mx a b) = false := decide_eq_false k2
                have k3b : (a == b) = true := by
                  rw [beq_iff_eq]
                  rw [mn_lt0] at k1
                  rw [le_mx] at k2
                  omega
                clear hor k1 k2
                go_wp2
                go_ret2
                exact FIN.out _ (below_alloc (Below.refl _ _) _)
          | true =>
            obtain ⟨o1, o2, o3, o4, o5⟩ := edOk_parts hk
            have k1b : decide (mn a b < 0) = false := decide_eq_false (by rw [mn_lt0]; omega)
            have k2b : decide ((i : Int) ≤ mx a b) = false := decide_eq_false (by rw [le_mx]; omega)
            have k3b : (a == b) = false := by rw [beq_eq_false_iff_ne]; exact o5
            have HO1 := Aside0.mk (And.intro o1 (And.intro o2 (And.intro o3 (And.intro o4 o5))))
            clear o1 o2 o3 o4 o5
            go_upto_region 16 with (fail)
            clear k1b k2b k3b hmn hmx
            obtain ⟨o1, o2, o3, o4, o5⟩ := HO1.out
            obtain ⟨p, rfl⟩ := Int.eq_ofNat_of_zero_le o1
            obtain ⟨q, rfl⟩ := Int.eq_ofNat_of_zero_le o3
            have hp : p < i := by omega
            have hq : q < i := by omega
            generalize hw5 : wr.alloc (.cells #[.int .i64 (p : Int), .int .i64 (q : Int)] 47) = w5
            obtain ⟨x, hx⟩ : ∃ x, wr.heap.size = x := ⟨_, rfl⟩
            rw [hx]
            have H0 := Aside0.mk (show GM w w5 i i i _ _ bE bA _ _ by rw [← hw5]; exact HM2.out.alloc _)
            have X0 := Aside0.mk (show w5.heap[x]? = some (.cells #[.int .i64 (p : Int), .int .i64 (q : Int)] 47 (0, 0)) by rw [← hw5, ← hx]; exact blk_new _ _)
            clear hw5 hx y0 y1 HM2
            go_cut [93] (fun s93 wy => Aside0 (GM w wy i i i (.slice (some ⟨gE, 0, none⟩) i cE) (.slice (some ⟨gA, 0, none⟩) i cA) bE bA (GM.updE (GM.updE (edE (l.take t)) p q) q p) (edM i (l.take t))) ∧ Aside0 (wy.heap[x]? = some (.cells #[.int .i64 (p : Int), .int .i64 (q : Int)] 47 (0, 0))))
            case first =>
              have H1 := Aside0.mk (H0.out.putE hp hq)
              have X1 := Aside0.mk (H0.out.farE (j := q) X0.out (by decide) hp (.bool true))
              have H2 := Aside0.mk (H1.out.putE hq hp)
              have X2 := Aside0.mk (H1.out.farE (j := p) X1.out (by decide) hq (.bool true))
              have z1 := H0.out.cE hp hq
              have z2 := H0.out.fE hp q
              have z3 := H1.out.cE hq hp
              have z4 := H1.out.fE hq p
              obtain ⟨y1, y2, y3, y4, y5⟩ := H0.out.pairE X0.out hp hq
              have hp1 : ((p : Int) < (i : Int)) = True := eq_true (by omega)
              have hq1 : ((q : Int) < (i : Int)) = True := eq_true (by omega)
              go_region_held3 (fun w' => w'.cell? ⟨w.heap.size, 1, none⟩ = some (.slice (some ⟨gE, 0, none⟩) i cE) ∧ w'.cell? ⟨gE, p, none⟩ = some (.slice (some ⟨bE p, 0, none⟩) i i) ∧ w'.cell? ⟨gE, q, none⟩ = some (.slice (some ⟨bE q, 0, none⟩) i i) ∧ w'.cell? ⟨x, 0, none⟩ = some (.int .i64 (p : Int)) ∧ w'.cell? ⟨x, 1, none⟩ = some (.int .i64 (q : Int)))
                (first | exact ⟨y1, y2, y3, y4, y5⟩ | exact H0.out.pairE X0.out hp hq | exact H1.out.pairE X1.out hp hq | exact H2.out.pairE X2.out hp hq)
                (first | fail)
              all_goals
                go_wp2
                go_meet
                exact ⟨⟨H2.out.drew⟩, ⟨X2.out⟩⟩
            case rest =>
              obtain ⟨H3, X3⟩ := hcut
              clear H0 X0
              go_upto_region 17 with (fail)
              have H1 := Aside0.mk (H3.out.putA hp hq 1)
              have X1 := Aside0.mk (H3.out.farA (j := q) X3.out (by decide) hp (.int .i64 1))
              have H2 := Aside0.mk (H1.out.putA hq hp 1)
              have X2 := Aside0.mk (H1.out.farA (j := p) X1.out (by decide) hq (.int .i64 1))
              have z1 := H3.out.cA hp hq
              have z2 := H3.out.fA hp q
              have z3 := H1.out.cA hq hp
              have z4 := H1.out.fA hq p
              obtain ⟨y1, y2, y3, y4, y5⟩ := H3.out.pairA X3.out hp hq
              have hp1 : ((p : Int) < (i : Int)) = True := eq_true (by omega)
              have hq1 : ((q : Int) < (i : Int)) = True := eq_true (by omega)
              go_region_held3 (fun w' => w'.cell? ⟨w.heap.size, 2, none⟩ = some (.slice (some ⟨gA, 0, none⟩) i cA) ∧ w'.cell? ⟨gA, p, none⟩ = some (.slice (some ⟨bA p, 0, none⟩) i i) ∧ w'.cell? ⟨gA, q, none⟩ = some (.slice (some ⟨bA q, 0, none⟩) i i) ∧ w'.cell? ⟨x, 0, none⟩ = some (.int .i64 (p : Int)) ∧ w'.cell? ⟨x, 1, none⟩ = some (.int .i64 (q : Int)))
                (first | exact ⟨y1, y2, y3, y4, y5⟩ | exact H3.out.pairA X3.out hp hq | exact H1.out.pairA X1.out hp hq | exact H2.out.pairA X2.out hp hq)
                (first | fail)
              all_goals
                go_wp2
                go_roundg (l.length - (t + 1))
                case measure => omega
                case rel =>
                  refine ⟨t + 1, by omega, by omega, by go_num, ⟨?_⟩, ⟨?_⟩⟩
                  · rw [HT.out, HAB.out, edE_snoc, edM_snoc]
                    exact H2.out.drew
                  · rw [HT.out, List.all_append, HO.out, HAB.out]
                    simp [hk]
        · have hltb : decide (t < l.length) = false := decide_eq_false hlt
          have HTL := Aside0.mk (show l.take t = l from List.take_of_length_le (by omega))
          clear hlt ht hgt
          have HM3 := Aside0.mk (show GM w wr i i i _ _ bE bA (edE l) (edM i l) by have := HM2.out; rw [HTL.out] at this; exact this)
          have HO3 := Aside0.mk (show l.all (edOk i) = true by have := HO.out; rw [HTL.out] at this; exact this)
          clear HM2 HO HTL
          go_wp2
          go_loopg [139] i (fun gg v139 wr => ∃ k : Nat, k ≤ i ∧ i - k ≤ gg ∧ v139 = .int .i64 k ∧ Aside0 (GM w wr i i i (.slice (some ⟨gE, 0, none⟩) i cE) (.slice (some ⟨gA, 0, none⟩) i cA) bE bA (edE l) ((List.range k).foldl (flK i) (edM i l))) ∧ Aside0 (Bd i ((List.range k).foldl (flK i) (edM i l))))
          case atStart => exact ⟨0, Nat.zero_le _, by omega, rfl, HM3, ⟨edM_bd i h1 l⟩⟩
          case round =>
            obtain ⟨k, hk, hgk, rfl, HMk, HBk⟩ := hrel
            clear HM3
            by_cases hlt : k < i
            · have hltb : decide (k < i) = true := decide_eq_true hlt
              generalize hMk : (List.range k).foldl (flK i) (edM i l) = Mk at HMk HBk
              have HE := Aside0.mk hMk
              clear hMk
              go_wp2
              go_loopg [143] i (fun gg v143 wr => ∃ r : Nat, r ≤ i ∧ i - r ≤ gg ∧ v143 = .int .i64 r ∧ Aside0 (GM w wr i i i (.slice (some ⟨gE, 0, none⟩) i cE) (.slice (some ⟨gA, 0, none⟩) i cA) bE bA (edE l) ((List.range r).foldl (flI i k) Mk)) ∧ Aside0 (Bd i ((List.range r).foldl (flI i k) Mk)))
              case atStart => exact ⟨0, Nat.zero_le _, by omega, rfl, HMk, HBk⟩
              case round =>
                obtain ⟨r, hr, hgr, rfl, HMr, HBr⟩ := hrel
                clear HMk
                by_cases hltr : r < i
                · have hltrb : decide (r < i) = true := decide_eq_true hltr
                  generalize hMr : (List.range r).foldl (flI i k) Mk = Mr at HMr HBr
                  have HEr := Aside0.mk hMr
                  clear hMr
                  go_wp2
                  go_loopg [147] i (fun gg v147 wr => ∃ s : Nat, s ≤ i ∧ i - s ≤ gg ∧ v147 = .int .i64 s ∧ Aside0 (GM w wr i i i (.slice (some ⟨gE, 0, none⟩) i cE) (.slice (some ⟨gA, 0, none⟩) i cA) bE bA (edE l) ((List.range s).foldl (flJ k r) Mr)) ∧ Aside0 (Bd i ((List.range s).foldl (flJ k r) Mr)))
                  case atStart => exact ⟨0, Nat.zero_le _, by omega, rfl, HMr, HBr⟩
                  case round =>
                    obtain ⟨s, hs, hgs, rfl, HMs, HBs⟩ := hrel
                    clear HMr
                    by_cases hlts : s < i
                    · have hltsb : decide (s < i) = true := decide_eq_true hlts
                      have hfs := Aside0.mk (foldl_range_succ (flJ k r) Mr s)
                      generalize (List.range s).foldl (flJ k r) Mr = Ms at HMs HBs hfs
                      have b0 := HBs.out r s
                      have b1 := HBs.out r k
                      have b2 := HBs.out k s
                      have y2 := HMs.out.c2
                      have y3 := HMs.out.hAc hltr
                      have y4 := HMs.out.hAc hlt
                      have z0 := HMs.out.cA hltr hlts
                      have z1 := HMs.out.cA hltr hlt
                      have z2 := HMs.out.cA hlt hlts
                      have zf := HMs.out.fA hltr s
                      have HP := Aside0.mk (fun x => HMs.out.putA hltr hlts x)
                      have HV := Aside0.mk (show flJ k r Ms s = upd Ms r s (if Ms r k + Ms k s < Ms r s then Ms r k + Ms k s else Ms r s) from rfl)
                      generalize Ms r s = m0 at b0 z0 HV
                      generalize Ms r k = m1 at b1 z1 HV
                      generalize Ms k s = m2 at b2 z2 HV
                      obtain ⟨v, hv⟩ : ∃ v, (if m1 + m2 < m0 then m1 + m2 else m0) = v := ⟨_, rfl⟩
                      rw [hv] at HV
                      have hw : IntKind.i64.wrap (m1 + m2) = m1 + m2 := by rw [IntKind.wrap_i64]; omega
                      have i1 : ((k : Int) < (i : Int)) = True := eq_true (by omega)
                      have i2 : ((r : Int) < (i : Int)) = True := eq_true (by omega)
                      have i3 : ((s : Int) < (i : Int)) = True := eq_true (by omega)
                      go_upto_region 28 with (fail)
                      go_still_tail 41, (by kernel_rfl)
                      go_wp2
                      go_roundg (i - (s + 1))
                      case measure => omega
                      case rel =>
                        refine ⟨s + 1, by omega, by omega, by go_num, ⟨?_⟩, ⟨?_⟩⟩
                        · rw [hfs.out, HV.out]
                          exact (HP.out v).drew
                        · rw [hfs.out]
                          exact HBs.out.flJ k r s
                    · have hltsb : decide (s < i) = false := decide_eq_false hlts
                      obtain rfl : s = i := by omega
                      clear hlts hs hgs
                      go_wp2
                      go_roundg (s - (r + 1))
                      case measure => omega
                      case rel =>
                        refine ⟨r + 1, by omega, by omega, by go_num, ⟨?_⟩, ⟨?_⟩⟩
                        · rw [foldl_range_succ, HEr.out]
                          exact HMs.out
                        · rw [foldl_range_succ, HEr.out]
                          exact HBs.out
                · have hltrb : decide (r < i) = false := decide_eq_false hltr
                  obtain rfl : r = i := by omega
                  clear hltr hr hgr
                  go_wp2
                  go_roundg (r - (k + 1))
                  case measure => omega
                  case rel =>
                    refine ⟨k + 1, by omega, by omega, by go_num, ⟨?_⟩, ⟨?_⟩⟩
                    · rw [foldl_range_succ, HE.out]
                      exact HMr.out
                    · rw [foldl_range_succ, HE.out]
                      exact HBr.out
            · have hltb2 : decide (k < i) = false := decide_eq_false hlt
              obtain rfl : k = i := by omega
              clear hlt hk hgk
              have y2 := HMk.out.c2
              have y3 := HMk.out.hAc (i := 0) (by omega)
              have HC0 := Aside0.mk (max_calls (some ⟨bA 0, 0, none⟩) k ((List.range k).map (finalM k l 0)) wr (by rw [List.length_map, List.length_range]; exact row_C h10 (HMk.out.rA 0 (by omega)).2) (by simp; omega))
              rw [List.length_map, List.length_range] at HC0
              have h01 : ((0 : Int) < (k : Int)) = True := eq_true (by omega)
              have h02 : (0 < k) = True := eq_true (by omega)
              go_wp2_with (fail)
              refine HC0.out.mono ?_
              rintro e w6 ⟨rfl, rfl⟩
              clear HC0 y2 y3 h01 h02
              go_wp2
              go_ret2
              exact ⟨fun _ => ⟨_, _, _, _, rfl, HMk.out⟩, fun h => by rw [HO3.out] at h; cases h⟩
end Go.Proofs.YtbeimdngghedjaaDoor.P
