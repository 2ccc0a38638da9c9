/- The contract of hat's search (game.find): the first strategy that goes on with some tables and wins against some hats. -/
import Derived.Test.YtgjmfehdjbepiaaL1
import Derived.Test.YtgjmfehdjbepiaaG53b
import Derived.Outline
namespace Go.Proofs.Ytgjmfehdjbepiaa.P
set_option linter.unusedVariables false
open Go.RowKit Go.Proofs.YtgjmfehdjbepiaaW.PrintWords Go.Proofs.YtgjmfehdjbepiaaW.PrintLast Go.Proofs.YtgjmfehdjbepiaaW.PrintMore

/-- Is player i's guess right? -/
def hits (q : Int) (sees : List (List Int)) (i : Nat) (t h : List Int) : Bool := guessP q (rd_L2 sees i) t h == rd h i
/-- The search: m players are left, s are the tables so far. -/
def findP (q : Int) (sees : List (List Int)) : Nat → List (List Int) → List (List Int) → Option (List (List Int))
  | 0, s, left => if left = [] then some s else none
  | m + 1, s, left => (allHats (q ^ (rd_L2 sees s.length).length).toNat q).findSome? fun t => findP q sees m (s ++ [t]) (left.filter fun h => !hits q sees s.length t h)
theorem findP_len (q : Int) (sees : List (List Int)) : ∀ (m : Nat) (s left r : List (List Int)), findP q sees m s left = some r → r.length = s.length + m
  | 0, s, left, r, h => by
    unfold findP at h
    split at h
    · injection h with h; subst h; rfl
    · cases h
  | m + 1, s, left, r, h => by
    unfold findP at h
    obtain ⟨t, _, h2⟩ := List.exists_of_findSome?_eq_some h
    have := findP_len q sees m _ _ _ h2
    simp at this; omega

/-- The literal of find: is the player's guess right at those hats? -/
theorem find_lit (n : Int) (q : Int) (sees strat : List (List Int)) (i : Nat) (BG BN BI : Nat) (AG AN : Option Addr) (cn : Nat) (W : World) (x : List Int) (A : Option Addr) (c : Nat)
    (hx : Kd.C (Kd.int .i64) W A x.length x) (hc : x.length ≤ c) (hG : W.cell? ⟨BG, 0, none⟩ = some (.pointer AG)) (hN : W.cell? ⟨BN, 0, none⟩ = some (.slice AN strat.length cn)) (hI : W.cell? ⟨BI, 0, none⟩ = some (.int .i64 i))
    (hg : Kd.C k103 W AG 1 [(⟨n, q, sees⟩ : S103)]) (hs : Kd.C rr W AN strat.length strat) (hcn : strat.length ≤ cn)
    (h1 : 1 ≤ q) (h4 : q ≤ 4) (his : i < sees.length) (hi : i < strat.length) (hix : i < x.length) (hcol : Colours q x) (hr : Below_ x.length (rd_L2 sees i)) (hl : (rd_L2 sees i).length ≤ 4)
    (ht : (rd_L2 strat i).length = (q ^ (rd_L2 sees i).length).toNat) :
    Calls Try.prog 77 #[.slice A x.length c, .pointer (some ⟨BG, 0, none⟩), .pointer (some ⟨BN, 0, none⟩), .pointer (some ⟨BI, 0, none⟩)] W fun e w' => e = .returned (.bool (hits q sees i (rd_L2 strat i) x)) ∧ Drawn0 W w' := by
  have hgs := guess_some n q i sees strat x h1 h4 (by omega) (by omega) (by omega) hcol hr hl ht 20 (by omega)
  have HCALL := Aside0.mk (fun (m : Nat) => hat_game_guess.calls 20 AG 1 [(⟨n, q, sees⟩ : S103)] AN cn strat A c x (i : Int) _ (W.drewN m) (Kd.C_drewN hg m) (by simp) (Kd.C_drewN hs m) hcn (Kd.C_drewN hx m) hc hgs)
  obtain ⟨ad, e1, hcell⟩ := Kd.at_int hx (i : Int) (by omega) (by omega)
  cases e1
  rw [Int.toNat_natCast] at hcell
  have hf : Aside0 (hits q sees i (rd_L2 strat i) x = (guessP q (rd_L2 sees i) (rd_L2 strat i) x == rd x i)) := ⟨rfl⟩
  have hlt : decide (i < x.length) = true := decide_eq_true hix
  have hlt2 : ((i : Int) < (x.length : Int)) = True := eq_true (by omega)
  generalize guessP q (rd_L2 sees i) (rd_L2 strat i) x = gp at *
  generalize rd x (i : Int) = ri at *
  generalize hits q sees i (rd_L2 strat i) x = rs at *
  clear hx hg hs hgs hcol hr hl ht his hi
  go_enter Try.func77, Try.ntmps77
  go_wp2
  repeat (go_quiet (first | (go_at_call 66; refine (HCALL.out _).mono ?_; rintro e w' ⟨rfl, ⟨nd, rfl⟩⟩; (first | exact ⟨rfl, _, World.drewN_drewN _ _ _⟩ | exact ⟨rfl, _, Eq.trans (World.drewN_drewN _ _ _) (congrArg (World.drewN _) (Nat.add_assoc _ _ _))⟩))); try go_wp2)
  go_ret
  exact ⟨by rw [hf.out]; rfl, by repeat (first | exact Drawn0.refl _ | apply Drawn0.step)⟩

theorem fs_miss {α β : Type} (f : Nat → α) (g : α → Option β) : ∀ (N : Nat), (∀ y, y < N → g (f y) = none) → ((List.range N).map f).findSome? g = none
  | 0, _ => rfl
  | N + 1, h => by
    rw [List.range_succ, List.map_append, List.findSome?_append, fs_miss f g N (fun y hy => h y (by omega))]
    simp [h N (by omega)]
theorem fs_hit {α β : Type} (f : Nat → α) (g : α → Option β) (r : β) : ∀ (N x : Nat), x < N → (∀ y, y < x → g (f y) = none) → g (f x) = some r → ((List.range N).map f).findSome? g = some r
  | 0, x, hx, _, _ => absurd hx (Nat.not_lt_zero _)
  | N + 1, x, hx, h, h2 => by
    rw [List.range_succ, List.map_append, List.findSome?_append]
    by_cases e : x < N
    · rw [fs_hit f g r N x e h h2]; rfl
    · obtain rfl : x = N := by omega
      rw [fs_miss f g x h]
      simp [h2]
/-- What find hands back: nil, or tables that lie in memory that is new since B. -/
def Found (B : Nat) (r : Option (List (List Int))) (v : Value) (w' : World) : Prop :=
  match r with | none => v = .slice none 0 0 | some s => 0 < s.length ∧ Kd.V rr 37 w' B (fun k => B ≤ k) v s

structure FindCtx (n : Nat) (sees : List (List Int)) : Prop where
  n1 : 1 ≤ n
  n3 : n ≤ 3
  len : sees.length = n
  row : ∀ i : Nat, i < n → Below_ n (rd_L2 sees i) ∧ (rd_L2 sees i).length ≤ 2
def HatsOf (n : Nat) (left : List (List Int)) : Prop := left.length ≤ 1000 ∧ ∀ h ∈ left, h.length = n ∧ Colours 2 h

set_option maxRecDepth 100000 in
set_option maxHeartbeats 8000000 in
theorem find_zero (n : Nat) (sees : List (List Int)) (C : FindCtx n sees) (B : Nat) (s left : List (List Int)) (AG : Option Addr) (A1 : Option Addr) (c1 : Nat) (A2 : Option Addr) (c2 : Nat) (w : World) (hB : B ≤ w.heap.size)
    (hg : Kd.C k103 w AG 1 [(⟨n, 2, sees⟩ : S103)]) (hs : Kd.F rr w (fun k => B ≤ k) A1 s.length s) (hc1 : s.length ≤ c1) (hl : Kd.C rr w A2 left.length left) (hsn : s.length = n) :
    Calls Try.prog 53 #[.pointer AG, .slice A1 s.length c1, .slice A2 left.length c2] w fun e w' => ∃ v, e = .returned v ∧ Below w.heap.size w w' ∧ Found B (findP 2 sees 0 s left) v w' := by
  obtain ⟨ad, A0, c0, e0, hx0, hx1, hx2, hl0, hi0⟩ := at_T103 hg 0 (by omega) (by omega)
  cases e0
  simp only [show (0 : Int).toNat = 0 from rfl, Nat.zero_mul, rp_add0] at hx0 hx1 hx2
  have z0 : (rd_T103 [(⟨n, 2, sees⟩ : S103)] 0).f0 = n := rfl
  rw [z0] at hx0
  have hn : ((n : Int) == (n : Int)) = true := by simp
  have HW : ∀ o1 o2, Below w.heap.size w ((w.alloc o1).alloc o2) := fun o1 o2 => below_alloc (below_alloc (Below.refl _ _) _) _
  have HWA := Aside0.mk HW
  have HS := Aside0.mk hs
  have HSN := Aside0.mk hsn
  have hblt := World.block_lt_of_cell? w _ hx0
  have n1 := C.n1
  clear hs hl hi0 hl0 hx1 hx2 hg HW C z0
  by_cases hle : left = []
  · have hf : Aside0 (findP 2 sees 0 s left = some s) := ⟨by unfold findP; rw [if_pos hle]⟩
    subst hle
    rw [hf.out]
    clear hf
    go_enter Try.func53, Try.ntmps53
    go_wp2
    repeat (go_quiet (fail); try go_wp2)
    go_ret
    refine ⟨_, rfl, pw_below_drewN (HWA.out _ _) _, by omega, ?_⟩
    exact Kd.V_mk hc1 (Kd.F_below HS.out (pw_below_drewN (HWA.out _ _) _))
  · have hf : Aside0 (findP 2 sees 0 s left = none) := ⟨by unfold findP; rw [if_neg hle]⟩
    rw [hf.out]
    have hle2 : ((left.length : Int) == 0) = false := by
      rw [beq_eq_false_iff_ne]
      intro h
      exact hle (List.eq_nil_of_length_eq_zero (by omega))
    clear hf
    go_enter Try.func53, Try.ntmps53
    go_wp2
    repeat (go_quiet (fail); try go_wp2)
    all_goals go_ret
    all_goals exact ⟨_, rfl, pw_below_drewN (HWA.out _ _) _, rfl⟩

/-- What holds in the search's loop: the two variables in memory. -/
structure FC (w W : World) (ad : Addr) (i : Nat) : Prop where
  hb : Below w.heap.size w W
  two : w.heap.size + 2 ≤ W.heap.size
  cG : W.cell? ⟨w.heap.size, 0, none⟩ = some (.pointer (some ad))
  cI : W.cell? ⟨w.heap.size + 1, 0, none⟩ = some (.int .i64 i)
theorem FC.below {w W W1 : World} {ad : Addr} {i : Nat} (h : FC w W ad i) (hb : Below W.heap.size W W1) : FC w W1 ad i :=
  ⟨h.hb.trans (hb.mono h.hb.size), Nat.le_trans h.two hb.size, (hb.cell (p := ⟨w.heap.size, 0, none⟩) (by have := h.two; show w.heap.size < _; omega)).trans h.cG, (hb.cell (p := ⟨w.heap.size + 1, 0, none⟩) (by have := h.two; show w.heap.size + 1 < _; omega)).trans h.cI⟩
theorem FC.below_ {w W W1 : World} {ad : Addr} {i b : Nat} (h : FC w W ad i) (hb : Below b W W1) (hbw : b ≤ W.heap.size) (h2 : w.heap.size + 2 ≤ b) : FC w W1 ad i :=
  ⟨h.hb.trans (hb.mono (by omega)), Nat.le_trans h.two hb.size, (hb.cell (p := ⟨w.heap.size, 0, none⟩) (by show w.heap.size < _; omega)).trans h.cG, (hb.cell (p := ⟨w.heap.size + 1, 0, none⟩) (by show w.heap.size + 1 < _; omega)).trans h.cI⟩
def FindAt (n : Nat) (sees : List (List Int)) (B m : Nat) : Prop := ∀ (s left : List (List Int)) (AG A1 : Option Addr) (c1 : Nat) (A2 : Option Addr) (c2 : Nat) (w : World), B ≤ w.heap.size →
    Kd.C k103 w AG 1 [(⟨n, 2, sees⟩ : S103)] → Kd.F rr w (fun k => B ≤ k) A1 s.length s → s.length ≤ c1 → Kd.C rr w A2 left.length left → left.length ≤ c2 → HatsOf n left → s.length + m = n →
    Calls Try.prog 53 #[.pointer AG, .slice A1 s.length c1, .slice A2 left.length c2] w fun e w' => ∃ v, e = .returned v ∧ Below w.heap.size w w' ∧ Found B (findP 2 sees m s left) v w'

set_option maxRecDepth 100000 in
set_option maxHeartbeats 16000000 in
theorem find_succ (n : Nat) (sees : List (List Int)) (C : FindCtx n sees) (B m : Nat) (ih : FindAt n sees B m) : FindAt n sees B (m + 1) := by
  intro s left AG A1 c1 A2 c2 w hB hg hs hc1 hl hc2 hh hsm
  have hi : s.length < n := by omega
  have hrow := C.row s.length hi
  have hlen := C.len
  have n3 := C.n3
  obtain ⟨ad, A0, c0, e0, hx0, hx1, hx2, hl0, hi0⟩ := at_T103 hg 0 (by omega) (by omega)
  cases e0
  simp only [show (0 : Int).toNat = 0 from rfl, Nat.zero_mul, rp_add0] at hx0 hx1 hx2
  have z0 : (rd_T103 [(⟨n, 2, sees⟩ : S103)] 0).f0 = n := rfl
  have z1 : (rd_T103 [(⟨n, 2, sees⟩ : S103)] 0).f1 = 2 := rfl
  have z2 : (rd_T103 [(⟨n, 2, sees⟩ : S103)] 0).f2 = sees := rfl
  rw [z0] at hx0
  rw [z1] at hx1
  rw [z2] at hx2 hl0 hi0
  obtain ⟨ad2, A3, c3, e2, hy, hl3, hi3⟩ := at_L2 hi0 (s.length : Int) (by omega) (by omega)
  cases e2
  rw [Int.toNat_natCast] at hy
  obtain ⟨L, hL⟩ : ∃ L, (rd_L2 sees s.length).length = L := ⟨_, rfl⟩
  rw [hL] at hy
  have hL2 : L ≤ 2 := by rw [← hL]; exact hrow.2
  have hpow : hat_power.f 20 2 L = some ((2 : Int) ^ L) := pow_f 2 (by omega) (by omega) L (by omega) 20 (by omega)
  have hp2 := pow_small 2 (by omega) (by omega) L (by omega)
  obtain ⟨S, hS⟩ : ∃ S : Nat, (2 : Int) ^ L = S := ⟨((2 : Int) ^ L).toNat, by omega⟩
  have hS4 : S ≤ 4 := by
    have : L = 0 ∨ L = 1 ∨ L = 2 := by omega
    rcases this with rfl | rfl | rfl <;> simp at hS <;> omega
  rw [hS] at hpow
  have hpow2 : hat_power.f 20 2 S = some ((2 : Int) ^ S) := pow_f 2 (by omega) (by omega) S (by omega) 20 (by omega)
  have hp3 := pow_small 2 (by omega) (by omega) S (by omega)
  obtain ⟨N, hN⟩ : ∃ N : Nat, (2 : Int) ^ S = N := ⟨((2 : Int) ^ S).toNat, by omega⟩
  rw [hN] at hpow2
  have hfs : Aside0 (findP 2 sees (m + 1) s left = ((List.range N).map fun x : Nat => (digs 2 S x).reverse).findSome? fun t => findP 2 sees m (s ++ [t]) (left.filter fun h => !hits 2 sees s.length t h)) := ⟨by
    show (allHats ((2 : Int) ^ (rd_L2 sees s.length).length).toNat 2).findSome? _ = _
    rw [hL, hS]; unfold allHats; rw [Int.toNat_natCast, hN, Int.toNat_natCast]⟩
  have hine : ((s.length : Int) == (n : Int)) = false := by rw [beq_eq_false_iff_ne]; omega
  have hpc := Lib.hid (fun (W : World) => hat_power.calls 20 2 (L : Int) (S : Int) W hpow)
  have hpc2 := Lib.hid (fun (W : World) => hat_power.calls 20 2 (S : Int) (N : Int) W hpow2)
  have HG := Aside0.mk hg
  have HS := Aside0.mk hs
  have HL := Aside0.mk hl
  have HH := Aside0.mk hh
  have HX := Aside0.mk (And.intro hL (And.intro hS (And.intro hN (And.intro hp2 hp3))))
  have hblt : ad.block < w.heap.size := World.block_lt_of_cell? w _ hx0
  have hblt2 : (ad2.add s.length).block < w.heap.size := World.block_lt_of_cell? w _ hy
  have hlt : decide (s.length < sees.length) = true := decide_eq_true (by omega)
  have hlt2 : ((s.length : Int) < (sees.length : Int)) = True := eq_true (by omega)
  clear hg hs hl hh hpow hpow2 hL hS hN hp2 hp3 z0 z1 z2 hi0 hi3 hl3 hl0 hrow hlen
  go_enter Try.func53, Try.ntmps53
  go_wp2
  repeat (go_quiet (first | (go_at_call 61; refine (hpc.out _).mono ?_; rintro e w' ⟨rfl, ⟨nd, rfl⟩⟩; (try first | exact ⟨rfl, _, World.drewN_drewN _ _ _⟩ | exact ⟨rfl, _, Eq.trans (World.drewN_drewN _ _ _) (congrArg (World.drewN _) (Nat.add_assoc _ _ _))⟩))); try go_wp2_with fail)
  refine (hpc2.out _).mono ?_
  rintro e w' ⟨rfl, hd⟩
  obtain ⟨nd, rfl⟩ := hd
  go_wp2_with fail
  go_loopg [45] N (fun gg v45 wr => ∃ x : Nat, x ≤ N ∧ N - x ≤ gg ∧ v45 = .int .i64 x ∧ Aside0 (FC w wr ad s.length) ∧ Aside0 (∀ y : Nat, y < x → findP 2 sees m (s ++ [(digs 2 S y).reverse]) (left.filter fun h => !hits 2 sees s.length (digs 2 S y).reverse h) = none))
  case atStart => exact ⟨0, Nat.zero_le _, by omega, rfl, ⟨⟨pw_below_drewN (below_alloc (below_alloc (Below.refl _ _) _) _) _, by simp, by simp, by simp⟩⟩, ⟨fun y hy => absurd hy (Nat.not_lt_zero _)⟩⟩
  case round =>
    obtain ⟨x, hxN, hgg, rfl, HF, HNo⟩ := hrel
    by_cases hlt3 : x < N
    · have hltb : decide (x < N) = true := decide_eq_true hlt3
      have HLT3 := Aside0.mk hlt3
      have hNb : N ≤ 65536 := by have h1 := HX.out.2.2.1; have h2 := HX.out.2.2.2.2.2; omega
      have hcG := HF.out.cG
      have hcI := HF.out.cI
      have hx1' := (HF.out.hb.cell (by exact hblt)).trans hx1
      have hdig := digits_f 2 (by omega) S (by omega) (x : Int) (by omega) (by have := HX.out.2.2.2.2; have := HX.out.2.2.1; omega) 20 (by omega)
      have hdc := hat_digits.calls 20 (x : Int) 2 (S : Int) _ wr hdig
      clear hdig hx0 hx1 hx2 hy hblt2
      go_wp2_with fail
      refine hdc.mono ?_
      rintro e w1 ⟨vt, rfl, hR, hb1⟩
      clear hdc
      have hR1 := Kd.R_tight rfl hR
      have hrev := rev_f (digs 2 S x) (by rw [digs_len]; exact hS4) 20 (by omega)
      have hrc := slices_Reverse_int_int.calls 20 (fun k => some k = vt.ownBlock) vt _ _ wr w1 hb1 hR1 hrev
      clear hR hR1 hrev
      have HF1 := Aside0.mk (HF.out.below hb1)
      clear hb1 hcG hcI hx1'
      go_wp2_with fail
      refine hrc.mono ?_
      rintro e w2 ⟨rfl, hR2, hb2, _⟩
      clear hrc HF1
      have HF2 := Aside0.mk (HF.out.below hb2)
      obtain ⟨t, ht⟩ : ∃ t, (digs 2 S x).reverse = t := ⟨_, rfl⟩
      rw [ht] at hR2
      have HT := Aside0.mk (And.intro ht (show t.length = S by rw [← ht, List.length_reverse, digs_len]))
      clear ht
      have hcl := clone_rows (fun k => B ≤ k) A1 c1 s w2 (Kd.F_below HS.out HF2.out.hb) (by omega)
      obtain ⟨At, ct, et⟩ := Kd.R_slice hR2
      subst et
      have HR2 := Aside0.mk (Kd.R_F (Kd.R_mono (Kd.R_bound hR2) (ok' := fun k => wr.heap.size ≤ k) (fun k hk => hk.2.1)))
      have HWS := Aside0.mk (show B ≤ wr.heap.size by have := HF.out.hb.size; omega)
      have HRl := Aside0.mk (Kd.R_reads' hR2).2.1
      have HB2 := Aside0.mk hb2
      clear hR2 hb2 HF
      go_wp2_with fail
      refine hcl.mono ?_
      rintro e w3 ⟨v3, rfl, hN3, hb3⟩
      clear hcl
      have HN3 := Aside0.mk (Kd.N_mono hN3 (ok' := fun k => B ≤ k) (fun k hk => hk.elim id (fun h => by have := HF2.out.hb.size; omega)))
      have HF3 := Aside0.mk (HF2.out.below hb3)
      have HR3 := Aside0.mk (Kd.F_old HR2.out hb3)
      have HS3 := Aside0.mk hb3.size
      have HTW := Aside0.mk HF2.out.two
      clear hN3 hb3 HF2 HR2
      have hb3s := HF3.out.hb.size
      go_wp2_with (first | ((with_reducible refine gate_builtin (b := .append) (xs := #[.tmp 58, .tmp 60]) rfl ?_); at_builtin; refine Kd.N_append rr (w0 := w3) w2.heap.size rfl (.tmp 58) (.tmp 60) 27 37 (.slice none 0 0) 24 rfl Try.underlying27 info37 rfl (by decide) (by omega) v3 s t [.slice At t.length ct] (fun k => B ≤ k) (fun k => wr.heap.size ≤ k ∧ k < w2.heap.size) rfl rfl ?aP ?aA ?aF ?aO ?aB ?aS ?aL ?_; (case aP => exact Kd.FK_slice_mk HRl.out HR3.out); (case aA => exact fun k hk => ⟨by have := HWS.out; have := hk.1; omega, fun e => by have := Kd.N_base HN3.out k e.symm; have := hk.2; omega⟩); (case aF => exact fun k hk => by omega); (case aO => exact HN3.out); (case aB => exact Below.refl _ _); (case aS => exact HS3.out); (case aL => omega); intro v4 w4 hN4 hb4 hg4 _; have HF4 := Aside0.mk (HF3.out.below_ hb4 HS3.out HTW.out); have HN4 := Aside0.mk hN4; clear hb4 hg4 hN4 HF3 HN3; obtain ⟨AN, cn, en⟩ := Kd.N_slice HN4.out; subst en))
      obtain ⟨w5, hw5⟩ : ∃ w5, w4.alloc (.cells #[.slice AN (s ++ [t]).length cn] 27) = w5 := ⟨_, rfl⟩
      have hb45 : Below w4.heap.size w4 w5 := by rw [← hw5]; exact below_alloc (Below.refl _ _) _
      have hsz5 : w5.heap.size = w4.heap.size + 1 := by rw [← hw5]; simp
      have hcN : w5.cell? ⟨w4.heap.size, 0, none⟩ = some (.slice AN (s ++ [t]).length cn) := by rw [← hw5]; simp
      have HF5 := Aside0.mk (HF4.out.below hb45)
      have HN5 := Aside0.mk (Kd.N_below HN4.out hb45)
      have hcl := clone_rows (fun k => k < w.heap.size) A2 c2 left w5 (Kd.F_below (Kd.C_F (Kd.heap_slice 3 (Kd.heap_int .i64)) HL.out) HF5.out.hb) (Nat.le_trans HH.out.1 (by omega))
      have hlen1 : (s ++ [t]).length = s.length + 1 := by simp
      rw [List.length_append, List.length_singleton] at hw5
      rw [hw5]
      have HCN := Aside0.mk hcN
      have HSZ := Aside0.mk hsz5
      clear hcN hsz5 hb45 HF4 HN4 hlen1 hw5
      refine hcl.mono ?_
      rintro e w6 ⟨v6, rfl, hN6, hb6⟩
      clear hcl
      have HF6 := Aside0.mk (HF5.out.below hb6)
      have hrp : RowPred 77 #[.pointer (some ⟨w.heap.size, 0, none⟩), .pointer (some ⟨w4.heap.size, 0, none⟩), .pointer (some ⟨w.heap.size + 1, 0, none⟩)] (fun h => hits 2 sees s.length t h) left w5 := by
        intro W h A c hm hbW hC hcc
        have hh := HH.out.2 h hm
        have hr := C.row s.length hi
        have hlt4 : w4.heap.size < w5.heap.size := by rw [HSZ.out]; omega
        have hst : rd_L2 (s ++ [t]) s.length = t := by rw [rdL_nat _ _ (by simp)]; simp
        have hfl := HF5.out.below hbW
        have hm1 := find_lit n 2 sees (s ++ [t]) s.length w.heap.size w4.heap.size (w.heap.size + 1) (some ad) AN cn W h A c hC hcc hfl.cG ((hbW.cell (p := ⟨w4.heap.size, 0, none⟩) hlt4).trans HCN.out) hfl.cI
          (Kd.C_below HG.out hfl.hb) (Kd.C_below (Kd.N_reads' HN5.out).2.2 hbW) (Kd.N_reads' HN5.out).2.1 (by omega) (by omega) (by rw [C.len]; exact hi) (by simp) (by rw [hh.1]; exact hi) hh.2 (by rw [hh.1]; exact hr.1) (by have := hr.2; omega)
          (by rw [hst, HT.out.2, HX.out.1, HX.out.2.1]; simp)
        rw [hst] at hm1
        exact hm1.mono fun e w' ⟨he, hd⟩ => ⟨he, hd.below⟩
      have hdel := deleteRows (fun h => hits 2 sees s.length t h) 77 _ (Go.Proofs.enters_of Try.func77 (by kernel_rfl) rfl) v6 left w5 w6 w5.heap.size _ (Nat.le_refl _) hb6.size hb6 hN6 hrp
      have HS6 := Aside0.mk hb6.size
      have HB6 := Aside0.mk hb6
      clear hrp hN6 hb6
      go_wp2_with (fail)
      refine hdel.mono ?_
      rintro e w7 ⟨v7, rfl, hN7, hb7⟩
      clear hdel
      have hb57 := HB6.out.trans hb7
      have HF7 := Aside0.mk (HF5.out.below hb57)
      have HN7 := Aside0.mk (Kd.N_below HN5.out hb57)
      obtain ⟨A7, c7, e7⟩ := Kd.N_slice hN7
      subst e7
      have hr7 := Kd.N_reads' hN7
      have hih := ih (s ++ [t]) (left.filter fun h => !hits 2 sees s.length t h) (some ad) AN cn A7 c7 w7 (by have := HF7.out.hb.size; omega) (Kd.C_below HG.out HF7.out.hb) (Kd.N_F HN7.out) (Kd.N_reads' HN7.out).2.1 hr7.2.2 hr7.2.1
        ⟨Nat.le_trans (List.length_filter_le _ _) HH.out.1, fun h hm => HH.out.2 h (List.mem_filter.1 hm).1⟩ (by simp; omega)
      have hcG := HF7.out.cG
      have hcN7 := (hb57.cell (p := ⟨w4.heap.size, 0, none⟩) (by show w4.heap.size < w5.heap.size; rw [HSZ.out]; omega)).trans HCN.out
      obtain ⟨NF, hNF⟩ : ∃ NF, (left.filter fun h => !hits 2 sees s.length t h) = NF := ⟨_, rfl⟩
      rw [hNF] at hih ⊢
      rw [List.length_append, List.length_singleton] at hih
      have HNF := Aside0.mk hNF
      clear hN7 hb7 hb57 hr7 HN5 HCN HSZ HB6 HS6 HF6 HF5 hNF
      go_wp2_with (fail)
      with_reducible refine hih.mono ?_
      rintro e w8 ⟨v8, rfl, hb8, hfound⟩
      clear hih hcG hcN7
      have HF8 := Aside0.mk (HF7.out.below hb8)
      cases hfp : findP 2 sees m (s ++ [t]) NF with
      | none =>
        rw [hfp] at hfound
        obtain rfl : v8 = .slice none 0 0 := hfound
        have hneq := fun W : World => run_neq_slice_nil_any (P := Try.prog) W 27 37 none 0 0 0 0 Try.underlying27
        have HFP := Aside0.mk hfp
        clear hfp hb8 HF7 HN7
        go_wp2
        go_roundg (N - (x + 1))
        case measure => omega
        case rel =>
          refine ⟨x + 1, HLT3.out, Nat.le_refl _, by go_num, HF8, ⟨fun y hy => ?_⟩⟩
          by_cases e : y = x
          · subst e; rw [HT.out.1, HNF.out]; exact HFP.out
          · exact HNo.out y (by omega)
      | some r =>
        rw [hfp] at hfound
        obtain ⟨hr0, hV⟩ := hfound
        obtain ⟨A8, c8, rfl⟩ := Kd.V_slice hV
        obtain ⟨ad8, rfl, _⟩ := (Kd.V_reads' hV).2.2.2.2 hr0
        have hneq := fun W : World => run_neq_slice_nil_any (P := Try.prog) W 27 37 (some ad8) r.length c8 0 0 Try.underlying27
        have HFP := Aside0.mk hfp
        have HV := Aside0.mk hV
        have HR0 := Aside0.mk hr0
        clear hfp hb8 HF7 HN7 hV hr0
        go_wp2
        go_ret
        refine ⟨_, rfl, HF8.out.hb, ?_⟩
        rw [hfs.out, fs_hit (fun x : Nat => (digs 2 S x).reverse) _ r N x HLT3.out HNo.out (by show findP 2 sees m (s ++ [(digs 2 S x).reverse]) (left.filter fun h => !hits 2 sees s.length (digs 2 S x).reverse h) = some r; rw [HT.out.1, HNF.out]; exact HFP.out)]
        exact ⟨HR0.out, HV.out⟩
    · have hltb : decide (x < N) = false := decide_eq_false hlt3
      have HXN := Aside0.mk (show x = N by omega)
      clear hlt3
      go_wp2
      go_ret
      refine ⟨_, rfl, HF.out.hb, ?_⟩
      rw [hfs.out, fs_miss (fun x : Nat => (digs 2 S x).reverse) _ N (by have := HXN.out; subst this; exact HNo.out)]
      exact rfl

end Go.Proofs.Ytgjmfehdjbepiaa.P
