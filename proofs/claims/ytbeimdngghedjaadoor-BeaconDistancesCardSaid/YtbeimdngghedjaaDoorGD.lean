/- What read makes, as rows of its own: for the contract of beacon.Distances. -/
import Derived.Test.YtbeimdngghedjaaDoorBX
import Derived.Test.YtbeimdngghedjaaDoorPK
namespace Go.Proofs.YtbeimdngghedjaaDoor.P
set_option linter.unusedVariables false
set_option linter.unusedSimpArgs false
open Go Go.RowKit Go.Proofs.YtbeimdngghedjaaDoorW.PrintWords Go.Proofs.YtbeimdngghedjaaDoorW.PrintLast Go.Proofs.YtbeimdngghedjaaDoorW.PrintMore
theorem GM.rowsS {w W : World} {n me : Nat} {vE vA : Value} {bE bA : Nat → Nat} {E : Nat → Nat → Bool} {M : Mt} (h : GM w W n me n vE vA bE bA E M) (hn : n ≤ 10) (h1 : 1 ≤ n) :
    Kd.S (Kd.slice 3 (Kd.int .i64)) 28 W w.heap.size (fun _ => True) vA (rowsA n M) := by
  have hf : ∃ f : Nat → Nat, ∀ j, j < n → f (bA j) = j := by
    refine ⟨fun k => ((List.range n).find? fun j => bA j == k).getD 0, fun j hj => ?_⟩
    show (((List.range n).find? fun i => bA i == bA j)).getD 0 = j
    cases hq : (List.range n).find? fun i => bA i == bA j with
    | none =>
      have := List.find?_eq_none.1 hq j (List.mem_range.2 hj)
      simp at this
    | some i =>
      have a := List.find?_some hq
      have b := List.mem_of_find?_eq_some hq
      exact h.iA i j (List.mem_range.1 b) hj (by simpa using a)
  obtain ⟨f, hf⟩ := hf
  have hne : ∀ j, j < n → some (bA j) ≠ vA.ownBlock := fun j hj e => by
    obtain ⟨cells, hc⟩ := own_typed h.oA (bA j) e.symm
    have h2 := (h.rA j hj).2
    rw [hc] at h2
    injection h2 with h3
    injection h3 with _ h4
    cases h4
  have e : ((rowsA n M).zipIdx).length = n := by simp [rowsA]
  refine ⟨f, fun _ _ => trivial, hdrs n n bA, ?_, ?_⟩
  · rw [e]
    exact own_weaken h.oA (by omega)
  · refine ⟨by rw [e]; simp [hdrs]; exact (Nat.mul_one n).symm, fun j p hp => ?_⟩
    have hj : j < n := by
      have := (List.getElem?_eq_some_iff.1 hp).1
      omega
    rw [Kd.zip_at (p := (List.range n).map (M j)) (by simp [rowsA, hj])] at hp
    obtain rfl := Option.some.inj hp
    refine ⟨.slice (some ⟨bA j, 0, none⟩) n n, ?_, fun k hk => ?_, intRow n (M j), ⟨by simp [intRow]; exact (Nat.mul_one n).symm, .inr ⟨bA j, n, (intRow n (M j)).toArray, by simp, by have := (h.rA j hj).1; omega, (h.rA j hj).2, by simp, by unfold maxLen; omega, by simp [intRow]; exact (Nat.mul_one n).symm, List.take_of_length_le (by simp [intRow]; exact Nat.le_of_eq (Nat.mul_one n).symm)⟩⟩, ?_⟩
    · show ((hdrs n n bA).drop (j * 1)).take 1 = _
      rw [Nat.mul_one, List.take_one, List.head?_drop, hdrs_at n n bA j hj]; rfl
    · obtain rfl : bA j = k := by simpa [Value.ownBlock] using hk
      exact ⟨⟨trivial, hne j hj⟩, hf j hj⟩
    · refine ⟨by simp [intRow]; exact (Nat.mul_one n).symm, fun i q hq => ?_⟩
      have hi : i < n := by
        have := (List.getElem?_eq_some_iff.1 hq).1
        simpa using this
      obtain rfl : M j i = q := by simpa [hi] using hq
      show ((intRow n (M j)).drop (i * 1)).take 1 = [.int .i64 (M j i)]
      rw [Nat.mul_one, List.take_one, List.head?_drop]
      simp [intRow, hi]
/-- What Distances answers. -/
def beacon_Distances.f (a0 : Int) (l1 : List S47) : Option (List (List Int) × Int) := if readOk a0 l1 = true then some (rowsA a0.toNat (finalM a0.toNat l1), 0) else some ([], 1)
set_option maxRecDepth 100000 in
set_option maxHeartbeats 4000000 in
theorem beacon_Distances.calls (a0 : Int) (A1 : Option Addr) (c1 : Nat) (l1 : List S47) (r1 : List (List Int)) (r2 : Int) (w : World) (hr1 : Kd.C k47 w A1 l1.length l1) (hc1 : l1.length ≤ c1) (h : beacon_Distances.f a0 l1 = some (r1, r2)) :
    Calls Tryd.prog 32 #[.int .i64 a0, .slice A1 l1.length c1] w fun e w' => ∃ v0_ : Value, e = .returned (.tuple #[v0_, .int .i64 r2]) ∧ Kd.S (Kd.slice 3 (Kd.int .i64)) 28 w' w.heap.size (fun _ => True) v0_ r1 ∧ Below w.heap.size w w' := by
  have HW := Aside0.mk (read_own a0 A1 c1 l1 w hr1 hc1)
  unfold beacon_Distances.f at h
  clear hr1 hc1
  cases ho : readOk a0 l1 with
  | false =>
    rw [if_neg (by rw [ho]; decide)] at h
    obtain ⟨rfl, rfl⟩ : [] = r1 ∧ 1 = r2 := by simpa using h
    clear h
    go_enter Tryd.func32, Tryd.ntmps32
    go_wp2_with (fail)
    refine HW.out.mono ?_
    rintro e w1 ⟨_, h2, hb⟩
    obtain ⟨B, rfl⟩ := h2 ho
    go_wp2
    go_ret2
    exact ⟨_, rfl, Kd.S_nil _ _ _ _ _, hb⟩
  | true =>
    rw [if_pos ho] at h
    obtain ⟨rfl, rfl⟩ : rowsA a0.toNat (finalM a0.toNat l1) = r1 ∧ 0 = r2 := by simpa using h
    clear h
    go_enter Tryd.func32, Tryd.ntmps32
    go_wp2_with (fail)
    refine HW.out.mono ?_
    rintro e w1 ⟨h1, _, hb⟩
    obtain ⟨g1, g2, rfl, vE, vA, bE, bA, hG⟩ := h1 ho
    have hc := hG.c2
    have hS := hG.rowsS (by omega) (by omega)
    go_wp2
    go_ret2
    exact ⟨_, rfl, hS, hb⟩
end Go.Proofs.YtbeimdngghedjaaDoor.P
