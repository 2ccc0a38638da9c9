/- The contract of hat.Find: the first strategy that wins, or the error. -/
import Derived.Test.YtgjmfehdjbepiaaG52
import Derived.Test.YtgjmfehdjbepiaaG53
namespace Go.Proofs.Ytgjmfehdjbepiaa.P
set_option linter.unusedVariables false
open Go.RowKit Go.Proofs.YtgjmfehdjbepiaaW.PrintWords Go.Proofs.YtgjmfehdjbepiaaW.PrintLast Go.Proofs.YtgjmfehdjbepiaaW.PrintMore

instance (n q : Int) (l : List S71) : Decidable (goodNums n q l) := by unfold goodNums; infer_instance
/-- The players that each one sees. -/
def seesOf (l : List S71) (n : Nat) : List (List Int) := seesTo l n n
/-- What Find answers, and its error. -/
def hat_Find.f (n q : Int) (l : List S71) : Option (List (List Int) × Int) :=
  if goodNums n q l ∧ l.any (badEdge n) = false ∧ n ≤ 3 ∧ q = 2 then
    (match findP 2 (seesOf l n.toNat) n.toNat [] (allHats n.toNat 2) with | some s => some (s, 0) | none => some ([], 5))
  else some ([], 1)

theorem rowTo_mem (l : List S71) (i : Int) (n : Nat) : Below_ n (rowTo l i n) := by
  intro j hj
  unfold rowTo at hj
  obtain ⟨h1, _⟩ := List.mem_filter.1 hj
  obtain ⟨k, hk, rfl⟩ := List.mem_map.1 h1
  have := List.mem_range.1 hk
  omega
theorem rowTo_less (l : List S71) (i n : Nat) (h : i < n) : (rowTo l i n).length ≤ n - 1 := by
  unfold rowTo
  have h1 : (((List.range n).map fun k : Nat => (k : Int)).filter (nb l i)).length < ((List.range n).map fun k : Nat => (k : Int)).length := by
    rw [List.length_filter_lt_length_iff_exists]
    exact ⟨(i : Int), List.mem_map.2 ⟨i, List.mem_range.2 h, rfl⟩, by simp [nb]⟩
  rw [List.length_map, List.length_range] at h1
  omega
theorem sees_ctx (l : List S71) (n : Nat) (h1 : 1 ≤ n) (h3 : n ≤ 3) : FindCtx n (seesOf l n) := by
  refine ⟨h1, h3, seesTo_len l n n, fun i hi => ?_⟩
  have e : rd_L2 (seesOf l n) i = rowTo l i n := by
    rw [rdL_nat _ _ (by rw [seesOf, seesTo_len]; exact hi)]
    unfold seesOf seesTo; simp
  rw [e]
  exact ⟨rowTo_mem l i n, by have := rowTo_less l i n hi; omega⟩
theorem allHats_of (n : Nat) (h3 : n ≤ 3) : HatsOf n (allHats n 2) := by
  unfold HatsOf allHats
  have hp := pow_small 2 (by omega) (by omega) n (by omega)
  have h8 : (2 : Int) ^ n ≤ 8 := by
    have : n = 0 ∨ n = 1 ∨ n = 2 ∨ n = 3 := by omega
    rcases this with rfl | rfl | rfl | rfl <;> decide
  refine ⟨by simp; omega, fun h hh => ?_⟩
  obtain ⟨x, _, rfl⟩ := List.mem_map.1 hh
  refine ⟨by rw [List.length_reverse, digs_len], fun c hc => digs_mem 2 (by omega) n _ c (List.mem_reverse.1 hc)⟩
theorem find_all (n : Nat) (sees : List (List Int)) (C : FindCtx n sees) (B : Nat) : ∀ m, FindAt n sees B m
  | 0 => fun s left AG A1 c1 A2 c2 w hB hg hs hc1 hl hc2 hh hsm => find_zero n sees C B s left AG A1 c1 A2 c2 w hB hg hs hc1 hl (by omega)
  | m + 1 => find_succ n sees C B m (find_all n sees C B m)

set_option maxRecDepth 100000 in
set_option maxHeartbeats 8000000 in
theorem hat_Find.calls (a0 : Int) (a1 : Int) (A2 : Option Addr) (c2 : Nat) (l2 : List S71) (r1 : List (List Int)) (r2 : Int) (w : World) (hr2 : Kd.C k71 w A2 l2.length l2) (hc2 : l2.length ≤ c2) (h : hat_Find.f a0 a1 l2 = some (r1, r2)) :
    Calls Try.prog 18 #[.int .i64 a0, .int .i64 a1, .slice A2 l2.length c2] w fun e w' => ∃ v0_ : Value, e = .returned (.tuple #[v0_, .int .i64 r2]) ∧ Kd.V (Kd.slice 3 (Kd.int .i64)) 37 w' w.heap.size (fun k_ => (w.heap.size ≤ k_)) v0_ r1 ∧ Below w.heap.size w w' := by
  unfold hat_Find.f at h
  by_cases hg : goodNums a0 a1 l2
  · have hrd := read_good a0 a1 A2 c2 l2 w hr2 hc2 hg
    by_cases hb : l2.any (badEdge a0) = false
    · by_cases h3 : a0 ≤ 3
      · by_cases hq : a1 = 2
        · rw [if_pos ⟨hg, hb, h3, hq⟩] at h
          subst hq
          have g1 := hg.1
          obtain ⟨n, rfl⟩ := Int.eq_ofNat_of_zero_le (show 0 ≤ a0 by omega)
          rw [Int.toNat_natCast] at h hrd
          have C := sees_ctx l2 n (by omega) (by omega)
          obtain ⟨k, hk⟩ := all_some n (by omega) 2 (by omega) (by omega) (seesOf l2 n)
          rw [hb] at hrd
          have h3b : decide (3 < (n : Int)) = false := decide_eq_false (by omega)
          have h3c : decide (3 < n) = false := decide_eq_false (by omega)
          have HH := Aside0.mk h
          have HRD := Aside0.mk hrd
          have HK := Aside0.mk hk
          clear h hrd hr2 hc2 hg hb h3 g1 hk
          go_enter Try.func18, Try.ntmps18
          go_wp2_with (fail)
          refine HRD.out.mono ?_
          rintro e w1 ⟨rfl, hb1, hG⟩
          have HG := Aside0.mk hG
          have HB1 := Aside0.mk hb1
          clear hG hb1
          go_wp2_with (fail)
          refine (hat_game_all.calls k _ 1 [(⟨n, 2, seesOf l2 n⟩ : S103)] _ w1 HG.out (by simp) HK.out).mono ?_
          rintro e w2 ⟨va, rfl, hS, hb2⟩
          obtain ⟨Aa, ca, rfl⟩ := Kd.S_slice hS
          have hra := Kd.S_reads' hS
          have HB2 := Aside0.mk (HB1.out.trans (hb2.mono HB1.out.size))
          have hfind := find_all n (seesOf l2 n) C w.heap.size n [] (allHats n 2) (some ⟨w.heap.size + 1, 0, none⟩) none 0 Aa ca w2 HB2.out.size (Kd.C_below HG.out hb2) (Kd.F_nil _ _ _) (by simp) hra.2.2 hra.2.1 (allHats_of n (by have := C.n3; omega)) (by simp)
          rw [List.length_nil] at hfind
          clear hS hra hb2
          go_wp2_with (fail)
          with_reducible refine hfind.mono ?_
          rintro e w3 ⟨v3, rfl, hb3, hfd⟩
          have HB3 := Aside0.mk (HB2.out.trans (hb3.mono HB2.out.size))
          clear hfind hb3
          cases hfp : findP 2 (seesOf l2 n) n [] (allHats n 2) with
          | none =>
            rw [hfp] at hfd HH
            obtain rfl : v3 = .slice none 0 0 := hfd
            have hneq := fun W : World => Lib.run_eql_slice_nil (P := Try.prog) W 27 37 none 0 0 0 0 Try.underlying27
            obtain ⟨rfl, rfl⟩ : [] = r1 ∧ (5 : Int) = r2 := by simpa using HH.out
            clear hfp
            go_wp2
            go_ret2
            exact ⟨_, rfl, Kd.V_nil _ _ _ _ _, HB3.out⟩
          | some s =>
            rw [hfp] at hfd HH
            obtain ⟨hr0, hV⟩ := hfd
            obtain ⟨A8, c8, rfl⟩ := Kd.V_slice hV
            obtain ⟨ad8, rfl, _⟩ := (Kd.V_reads' hV).2.2.2.2 hr0
            have hneq := fun W : World => Lib.run_eql_slice_nil (P := Try.prog) W 27 37 (some ad8) s.length c8 0 0 Try.underlying27
            obtain ⟨rfl, rfl⟩ : s = r1 ∧ (0 : Int) = r2 := by simpa using HH.out
            have HV := Aside0.mk hV
            clear hfp hV hr0
            go_wp2
            go_ret2
            exact ⟨_, rfl, HV.out, HB3.out⟩
        · rw [if_neg (fun hh => hq hh.2.2.2)] at h
          obtain ⟨rfl, rfl⟩ : [] = r1 ∧ (1 : Int) = r2 := by simpa using h
          rw [hb] at hrd
          have h3b : decide (3 < a0) = false := decide_eq_false (by omega)
          have hqb : (a1 != 2) = true := by rw [bne_iff_ne]; exact hq
          have HRD := Aside0.mk hrd
          clear h hrd hr2 hc2 hg hb h3 hq
          go_enter Try.func18, Try.ntmps18
          go_wp2_with (fail)
          refine HRD.out.mono ?_
          rintro e w1 ⟨rfl, hb1, hG⟩
          clear hG
          go_wp2
          go_ret2
          exact ⟨_, rfl, Kd.V_nil _ _ _ _ _, hb1⟩
      · rw [if_neg (fun hh => h3 hh.2.2.1)] at h
        obtain ⟨rfl, rfl⟩ : [] = r1 ∧ (1 : Int) = r2 := by simpa using h
        rw [hb] at hrd
        have h3b : decide (3 < a0) = true := decide_eq_true (by omega)
        have HRD := Aside0.mk hrd
        clear h hrd hr2 hc2 hg hb h3
        go_enter Try.func18, Try.ntmps18
        go_wp2_with (fail)
        refine HRD.out.mono ?_
        rintro e w1 ⟨rfl, hb1, hG⟩
        clear hG
        go_wp2
        go_ret2
        exact ⟨_, rfl, Kd.V_nil _ _ _ _ _, hb1⟩
    · rw [if_neg (fun hh => hb hh.2.1)] at h
      obtain ⟨rfl, rfl⟩ : [] = r1 ∧ (1 : Int) = r2 := by simpa using h
      rw [Bool.not_eq_false] at hb
      rw [hb] at hrd
      have HRD := Aside0.mk hrd
      clear h hrd hr2 hc2 hg hb
      go_enter Try.func18, Try.ntmps18
      go_wp2_with (fail)
      refine HRD.out.mono ?_
      rintro e w1 ⟨rfl, hb1, hG⟩
      clear hG
      go_wp2
      go_ret2
      exact ⟨_, rfl, Kd.V_nil _ _ _ _ _, hb1⟩
  · have hrd := read_bad a0 a1 A2 c2 l2 w hc2 hg
    rw [if_neg (fun hh => hg hh.1)] at h
    obtain ⟨rfl, rfl⟩ : [] = r1 ∧ (1 : Int) = r2 := by simpa using h
    have HRD := Aside0.mk hrd
    clear h hrd hr2 hc2 hg
    go_enter Try.func18, Try.ntmps18
    go_wp2_with (fail)
    refine HRD.out.mono ?_
    rintro e w1 ⟨rfl, hb1⟩
    go_wp2
    go_ret2
    exact ⟨_, rfl, Kd.V_nil _ _ _ _ _, hb1⟩

end Go.Proofs.Ytgjmfehdjbepiaa.P
