/- More marks resolve too, and marks that doubly resolve resolve: for all graphs and marks that are derived. -/
import Derived.Test.YtbeimdngghedjaaDoorPF8
import Derived.Test.YtbeimdngghedjaaDoorCD
namespace Go.Proofs.YtbeimdngghedjaaDoor.Pure
open Go Go.Proofs Go.RowKit Go.Proofs.YtbeimdngghedjaaDoor.P Go.Proofs.YtbeimdngghedjaaDoorW.PrintWords Go.Proofs.YtbeimdngghedjaaDoorW.PrintLast
set_option linter.unusedVariables false
/-- The members of a set, by its bits. -/
def memI (s : Nat) : List Int := (fullL 10).filter fun x => s.testBit x.toNat
theorem members_is : ((List.range 1024).all fun s => woggleref01_Members.f 20 (s : Int) == some (memI s)) = true := by decide +kernel
theorem memI_mem {s : Nat} (hs : s < 1024) {v : Nat} : (v : Int) ∈ memI s ↔ s.testBit v = true := by
  unfold memI
  rw [List.mem_filter, Int.toNat_natCast]
  constructor
  · exact fun h => h.2
  · intro h
    have hv : v < 10 := by
      rcases Nat.lt_or_ge v 10 with h1 | h1
      · exact h1
      · have : s < 2 ^ v := Nat.lt_of_lt_of_le hs (show 2 ^ 10 ≤ 2 ^ v from Nat.pow_le_pow_right (by omega) h1)
        rw [Nat.testBit_lt_two_pow this] at h; cases h
    exact ⟨mem_full hv, h⟩
theorem marks_is {n : Nat} (hn : n ≤ 10) {a : Int} (ha : 0 ≤ a ∧ a < 65536) {m : List Int} (h : Ev (fun k => wogglelaw07_marks.f k n a) m) : m = memI (a.toNat % 2 ^ n) := by
  obtain ⟨s, hs, e, rfl⟩ := and_mask ha.1 ha.2 hn
  have hp : 2 ^ n ≤ 2 ^ 10 := Nat.pow_le_pow_right (by omega) hn
  have h1 := eq_of_beq (List.all_eq_true.1 members_is (a.toNat % 2 ^ n) (List.mem_range.2 (by omega)))
  refine ev_some h ?_
  unfold wogglelaw07_marks.f
  rw [e]
  simp only [if_pos (show (0 : Int) ≤ n by omega)]
  exact Ev.bind (Ev.mono_at (woggleref01_Members.mono _) h1) (Ev.now _)
theorem or_u16 {a b : Int} (ha : 0 ≤ a ∧ a < 65536) (hb : 0 ≤ b ∧ b < 65536) : 0 ≤ Go.bits .or .u16 a b ∧ Go.bits .or .u16 a b < 65536 ∧ (Go.bits .or .u16 a b).toNat = a.toNat ||| b.toNat := by
  obtain ⟨A, rfl⟩ : ∃ A : Nat, a = A := ⟨a.toNat, by omega⟩
  obtain ⟨B, rfl⟩ : ∃ B : Nat, b = B := ⟨b.toNat, by omega⟩
  have hlt : A ||| B < 2 ^ 16 := Nat.or_lt_two_pow (by omega) (by omega)
  have e : (BitVec.ofInt 16 (A : Int) ||| BitVec.ofInt 16 (B : Int)).toNat = A ||| B := by
    rw [BitVec.ofInt_natCast, BitVec.ofInt_natCast, BitVec.toNat_or, BitVec.toNat_ofNat, BitVec.toNat_ofNat, Nat.mod_eq_of_lt (by omega), Nat.mod_eq_of_lt (by omega)]
  have h2 : Go.bits .or .u16 (A : Int) (B : Int) = ((A ||| B : Nat) : Int) := by
    show IntKind.wrap .u16 ((BitVec.ofInt 16 (A : Int) ||| BitVec.ofInt 16 (B : Int)).toNat : Int) = _
    rw [e]
    show (let m := ((A ||| B : Nat) : Int) % (2 ^ 16 : Int); if (false && decide (m ≥ (2 ^ 15 : Int))) = true then m - (2 ^ 16 : Int) else m) = _
    simp only [Bool.false_and, Bool.false_eq_true, if_false]
    exact Int.emod_eq_of_lt (by omega) (by omega)
  rw [h2]
  simp only [Int.toNat_natCast]
  exact ⟨by omega, by omega, by first | rfl | trivial⟩
theorem res_more {n : Nat} {M : Mt} {m m' : List Int} (hs : ∀ x ∈ m, x ∈ m') (h : resP n M m = true) : resP n M m' = true := by
  rw [resP_iff] at h ⊢
  intro x y h1 h2 e
  rw [codeL_eq] at e
  exact h x y h1 h2 ((codeL_eq x y).2 fun a ha => e a (hs a ha))
theorem BeaconMore : wogglelaw07_BeaconMore.Pure := by
  intro l0 a1 a2 hl0 ha1 ha2
  obtain ⟨N, l, hm, hev⟩ := made_ev (x := l0) (fun e he => u8_pair (hl0.2 e he))
  have hr := hm.readOk
  have hn := hm.n10
  have u1 := u16_of ha1
  have u2 := u16_of ha2
  obtain ⟨o1, o2, o3⟩ := or_u16 u1 u2
  obtain ⟨m, hmr, hmev⟩ := marks_ev hn ha1
  obtain ⟨m', hmr', hmev'⟩ : ∃ m', Ris N 0 m' ∧ Ev (fun k => wogglelaw07_marks.f k N (Go.bits .or .u16 a1 a2)) m' := by
    obtain ⟨s, hs, e, _⟩ := and_mask o1 o2 hn
    obtain ⟨m, hm, hev⟩ := members_ev hn hs
    refine ⟨m, hm, ?_⟩
    unfold wogglelaw07_marks.f
    rw [e]
    simp only [if_pos (show (0 : Int) ≤ N by omega)]
    exact Ev.bind hev (Ev.now _)
  have hsub : ∀ x ∈ m, x ∈ m' := by
    have hp : 2 ^ N ≤ 2 ^ 10 := Nat.pow_le_pow_right (by omega) hn
    have hq : 0 < 2 ^ N := Nat.pow_pos (by omega)
    have l1 := Nat.mod_lt a1.toNat hq
    have l2 := Nat.mod_lt (a1.toNat ||| a2.toNat) hq
    rw [marks_is hn u1 hmev, marks_is hn ⟨o1, o2⟩ hmev', o3]
    intro x hx
    have hb := ris_mem (n := 10) (Int.le_refl _) (Ris.filter _ (ris_full 10)) x hx
    obtain ⟨X, rfl⟩ : ∃ X : Nat, x = X := ⟨x.toNat, by omega⟩
    rw [memI_mem (by omega)] at hx ⊢
    rw [Nat.testBit_mod_two_pow] at hx ⊢
    rw [Nat.testBit_or]
    simp only [Bool.and_eq_true, decide_eq_true_eq] at hx
    simp [hx.1, hx.2]
  obtain ⟨L, hL, hD⟩ := refdist_ev hm
  have hdb := refdbl_ev (met_of hr) (ris_mk hn hmr)
  have key : Ev (fun k => wogglelaw07_BeaconMore.f k l0 a1 a2) true := by
    unfold wogglelaw07_BeaconMore.f
    refine Ev.bind hev (Ev.bind hmev (Ev.bind hmev' (Ev.bind (resolves_ev hr hn hmr) (Ev.bind (resolves_ev hr hn hmr') ?_))))
    simp only [if_true]
    by_cases h1 : resP N (finalM N l) m = true
    · refine ev_pos h1 (ev_pos (res_more hsub h1) (Ev.bind hL (Ev.bind hD (Ev.bind hdb ?_))))
      by_cases h2 : dblP N (finalM N l) m = true
      · exact ev_pos h2 (Ev.bind lives_ev (Ev.now _))
      · exact ev_neg h2 (Ev.bind lives_ev (Ev.now _))
    · refine ev_neg h1 (Ev.bind hL (Ev.bind hD (Ev.bind hdb ?_)))
      exact ev_neg (fun h2 => h1 (res_of_dbl h2)) (Ev.bind lives_ev (Ev.now _))
  obtain ⟨K, h⟩ := key
  exact ⟨K, h K (Nat.le_refl _)⟩
end Go.Proofs.YtbeimdngghedjaaDoor.Pure
