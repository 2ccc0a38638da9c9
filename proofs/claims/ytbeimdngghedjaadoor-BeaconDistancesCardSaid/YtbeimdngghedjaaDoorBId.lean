/- The contracts of beacon's Codes, Locate, Twins, Slater and Resolves. -/
import Derived.Test.YtbeimdngghedjaaDoorBW
import Derived.Test.YtbeimdngghedjaaDoorBZ
import Derived.Test.YtbeimdngghedjaaDoorPT36
import Derived.Test.YtbeimdngghedjaaDoorPT41
import Derived.Test.YtbeimdngghedjaaDoorPT24
namespace Go.Proofs.YtbeimdngghedjaaDoor.P
set_option linter.unusedVariables false
set_option linter.unusedSimpArgs false
open Go Go.RowKit Go.Proofs.YtbeimdngghedjaaDoorW.PrintWords Go.Proofs.YtbeimdngghedjaaDoorW.PrintLast Go.Proofs.YtbeimdngghedjaaDoorW.PrintMore

theorem with_ok {n : Int} {A : Option Addr} {c : Nat} {l : List S47} {A2 : Option Addr} {c2 : Nat} {m : List Int} {w : World} (hr : Kd.C k47 w A l.length l) (hc : l.length ≤ c) (hr2 : Kd.C (Kd.int .i64) w A2 m.length m) (he : withErr n l m = 0) :
    Calls Tryd.prog 56 #[.int .i64 n, .slice A l.length c, .slice A2 m.length c2] w fun e w' => ∃ B, e = .returned (.tuple #[.pointer B, .int .i64 0]) ∧ Below w.heap.size w w' ∧ Kd.C k82 w' B [graphOf n.toNat l].length [graphOf n.toNat l] := by
  refine (with_calls n A c l A2 c2 m w hr hc hr2).mono ?_
  rintro e w' ⟨B, rfl, hb, hg⟩
  exact ⟨B, by rw [he], hb, (hg he).2.2⟩
theorem read_ok {n : Int} {A : Option Addr} {c : Nat} {l : List S47} {w : World} (hr : Kd.C k47 w A l.length l) (hc : l.length ≤ c) (he : readOk n l = true) :
    Calls Tryd.prog 46 #[.int .i64 n, .slice A l.length c] w fun e w' => ∃ B, e = .returned (.tuple #[.pointer B, .bool true]) ∧ Below w.heap.size w w' ∧ Kd.C k82 w' B [graphOf n.toNat l].length [graphOf n.toNat l] := by
  refine (read_calls n A c l w hr hc).mono ?_
  rintro e w' ⟨B, rfl, hb, hg⟩
  exact ⟨B, by rw [he], hb, (hg he).2.2⟩
/-! ### Codes -/
def beacon_Codes.f (k : Nat) (a0 : Int) (l1 : List S47) (l2 : List Int) : Option (List (List Int) × Int) := if withErr a0 l1 l2 = 0 then beacon_Codes_tail.f k a0 l1 l2 [graphOf a0.toNat l1] else some ([], withErr a0 l1 l2)
theorem beacon_Codes.mono : ∀ a0 a1 a2 k, LeO (beacon_Codes.f k a0 a1 a2) (beacon_Codes.f (k + 1) a0 a1 a2) := fun a0 a1 a2 k => LeO.ite (beacon_Codes_tail.mono _ _ _ _ _) (LeO.refl _)
set_option maxRecDepth 100000 in
set_option maxHeartbeats 4000000 in
theorem beacon_Codes.calls (k : Nat) (a0 : Int) (A1 : Option Addr) (c1 : Nat) (l1 : List S47) (A2 : Option Addr) (c2 : Nat) (l2 : List Int) (r1 : List (List Int)) (r2 : Int) (w : World) (hr1 : Kd.C k47 w A1 l1.length l1) (hc1 : l1.length ≤ c1) (hr2 : Kd.C (Kd.int .i64) w A2 l2.length l2) (hc2 : l2.length ≤ c2) (h : beacon_Codes.f k a0 l1 l2 = some (r1, r2)) :
    Calls Tryd.prog 36 #[.int .i64 a0, .slice A1 l1.length c1, .slice A2 l2.length c2] w fun e w' => ∃ v0_ : Value, e = .returned (.tuple #[v0_, .int .i64 r2]) ∧ Kd.S (Kd.slice 3 (Kd.int .i64)) 28 w' w.heap.size (fun _ => True) v0_ r1 ∧ Below w.heap.size w w' := by
  unfold beacon_Codes.f at h
  by_cases he : withErr a0 l1 l2 = 0
  · rw [if_pos he] at h
    refine (beacon_Codes_tail.calls k a0 A1 c1 l1 A2 c2 l2 [graphOf a0.toNat l1] r1 r2 w hr1 hc1 hr2 hc2 (with_ok hr1 hc1 hr2 he) h).mono ?_
    rintro e w' ⟨w1, hb, v, rfl, hS, hb2⟩
    exact ⟨v, rfl, Kd.S_lower hS hb.size, hb.trans (hb2.mono hb.size)⟩
  · rw [if_neg he] at h
    obtain ⟨rfl, rfl⟩ : [] = r1 ∧ withErr a0 l1 l2 = r2 := by simpa using h
    have HW := Aside0.mk (with_calls a0 A1 c1 l1 A2 c2 l2 w hr1 hc1 hr2)
    have hne : (withErr a0 l1 l2 != 0) = true := bne_iff_ne.2 he
    clear h hr1 hc1 hr2 hc2 he
    generalize withErr a0 l1 l2 = x at HW hne
    go_enter Tryd.func36, Tryd.ntmps36
    go_wp2_with (fail)
    refine HW.out.mono ?_
    rintro e w1 ⟨B, rfl, hb, _⟩
    go_wp2
    go_ret2
    exact ⟨_, rfl, Kd.S_nil _ _ _ _ _, hb⟩
/-! ### Twins -/
def beacon_Twins.f (k : Nat) (a0 : Int) (l1 : List S47) : Option (List (List Int) × Int) := if readOk a0 l1 = true then beacon_Twins_tail.f k a0 l1 [graphOf a0.toNat l1] else some ([], 1)
theorem beacon_Twins.mono : ∀ a0 a1 k, LeO (beacon_Twins.f k a0 a1) (beacon_Twins.f (k + 1) a0 a1) := fun a0 a1 k => LeO.ite (beacon_Twins_tail.mono _ _ _ _) (LeO.refl _)
set_option maxRecDepth 100000 in
set_option maxHeartbeats 4000000 in
theorem beacon_Twins.calls (k : Nat) (a0 : Int) (A1 : Option Addr) (c1 : Nat) (l1 : List S47) (r1 : List (List Int)) (r2 : Int) (w : World) (hr1 : Kd.C k47 w A1 l1.length l1) (hc1 : l1.length ≤ c1) (h : beacon_Twins.f k a0 l1 = some (r1, r2)) :
    Calls Tryd.prog 41 #[.int .i64 a0, .slice A1 l1.length c1] w fun e w' => ∃ v0_ : Value, e = .returned (.tuple #[v0_, .int .i64 r2]) ∧ Kd.S (Kd.slice 3 (Kd.int .i64)) 28 w' w.heap.size (fun _ => True) v0_ r1 ∧ Below w.heap.size w w' := by
  unfold beacon_Twins.f at h
  cases he : readOk a0 l1 with
  | true =>
    rw [if_pos he] at h
    refine (beacon_Twins_tail.calls k a0 A1 c1 l1 [graphOf a0.toNat l1] r1 r2 w hr1 hc1 (read_ok hr1 hc1 he) h).mono ?_
    rintro e w' ⟨w1, hb, v, rfl, hS, hb2⟩
    exact ⟨v, rfl, Kd.S_lower hS hb.size, hb.trans (hb2.mono hb.size)⟩
  | false =>
    rw [if_neg (by rw [he]; decide)] at h
    obtain ⟨rfl, rfl⟩ : [] = r1 ∧ (1 : Int) = r2 := by simpa using h
    have HW := Aside0.mk (read_calls a0 A1 c1 l1 w hr1 hc1)
    rw [he] at HW
    clear h hr1 hc1 he
    go_enter Tryd.func41, Tryd.ntmps41
    go_wp2_with (fail)
    refine HW.out.mono ?_
    rintro e w1 ⟨B, rfl, hb, _⟩
    clear HW
    go_wp2
    go_ret2
    exact ⟨_, rfl, Kd.S_nil _ _ _ _ _, hb⟩
/-! ### Slater -/
def beacon_Slater.f (k : Nat) (a0 : Int) (l1 : List S47) : Option (Int × Int) := if readOk a0 l1 = true then beacon_Slater_tail.f k a0 l1 [graphOf a0.toNat l1] else some (0, 1)
theorem beacon_Slater.mono : ∀ a0 a1 k, LeO (beacon_Slater.f k a0 a1) (beacon_Slater.f (k + 1) a0 a1) := fun a0 a1 k => LeO.ite (beacon_Slater_tail.mono _ _ _ _) (LeO.refl _)
set_option maxRecDepth 100000 in
set_option maxHeartbeats 4000000 in
theorem beacon_Slater.calls (k : Nat) (a0 : Int) (A1 : Option Addr) (c1 : Nat) (l1 : List S47) (r1 : Int) (r2 : Int) (w : World) (hr1 : Kd.C k47 w A1 l1.length l1) (hc1 : l1.length ≤ c1) (h : beacon_Slater.f k a0 l1 = some (r1, r2)) :
    Calls Tryd.prog 24 #[.int .i64 a0, .slice A1 l1.length c1] w fun e w' => e = .returned (.tuple #[.int .i64 r1, .int .i64 r2]) ∧ Below w.heap.size w w' := by
  unfold beacon_Slater.f at h
  cases he : readOk a0 l1 with
  | true =>
    rw [if_pos he] at h
    refine (beacon_Slater_tail.calls k a0 A1 c1 l1 [graphOf a0.toNat l1] r1 r2 w hr1 hc1 (read_ok hr1 hc1 he) h).mono ?_
    rintro e w' ⟨w1, hb, rfl, hb2⟩
    exact ⟨rfl, hb.trans (hb2.mono hb.size)⟩
  | false =>
    rw [if_neg (by rw [he]; decide)] at h
    obtain ⟨rfl, rfl⟩ : (0 : Int) = r1 ∧ (1 : Int) = r2 := by simpa using h
    have HW := Aside0.mk (read_calls a0 A1 c1 l1 w hr1 hc1)
    rw [he] at HW
    clear h hr1 hc1 he
    go_enter Tryd.func24, Tryd.ntmps24
    go_wp2_with (fail)
    refine HW.out.mono ?_
    rintro e w1 ⟨B, rfl, hb, _⟩
    clear HW
    go_wp2
    go_ret2
    exact ⟨rfl, hb⟩
end Go.Proofs.YtbeimdngghedjaaDoor.P
