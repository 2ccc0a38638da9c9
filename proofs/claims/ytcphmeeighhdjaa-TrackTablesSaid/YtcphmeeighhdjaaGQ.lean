/- What track's search for a tree of least length answers, and the walk of its end and of its predicate. -/
import Derived.Test.YtcphmeeighhdjaaGP
import Derived.Test.YtcphmeeighhdjaaPF63
namespace Go.Proofs.Ytcphmeeighhdjaa.P
set_option linter.unusedVariables false
open Go Go.RowKit Go.Proofs.YtcphmeeighhdjaaW.PrintWords Go.Proofs.YtcphmeeighhdjaaW.PrintLast Go.Proofs.YtcphmeeighhdjaaW.PrintMore

/-- The better of two: the elder one, if it is as good. -/
def btr (acc r : Int × List S67) : Int × List S67 := if acc.1 < 0 ∨ r.1 < acc.1 then r else acc
/-- a is joined with each of those behind it. -/
def bIn (f : Int → Int → Option (Int × List S67)) (a : Int) : List Int → Int × List S67 → Option (Int × List S67)
  | [], acc => some acc
  | b :: bs, acc => (f a b).bind fun r => bIn f a bs (btr acc r)
/-- Each is joined with each of those behind it. -/
def bOut (f : Int → Int → Option (Int × List S67)) : List Int → Int × List S67 → Option (Int × List S67)
  | [], acc => some acc
  | a :: l, acc => (bIn f a l acc).bind (bOut f l)
/-- What is left open once a and b are joined. -/
def restOf (O : List Int) (a b : Int) : List Int := O.filter fun x => !(x == a || x == b)
/-- The search: m joins are left. -/
def bestM (k : Nat) (t : List (List Int)) : Nat → List S67 → List Int → Option (Int × List S67)
  | 0, J, _ => (track_length.f k J t).bind fun r => some (r, J)
  | m + 1, J, O => bOut (fun a b => bestM k t m (J ++ [⟨a, b⟩]) (restOf O a b ++ [((t.length + J.length : Nat) : Int)])) O (-1, [])
theorem bIn_mono {f g : Int → Int → Option (Int × List S67)} (h : ∀ a b, LeO (f a b) (g a b)) (a : Int) : ∀ l acc, LeO (bIn f a l acc) (bIn g a l acc)
  | [], acc => LeO.refl _
  | b :: bs, acc => LeO.bind (h a b) (fun r => bIn_mono h a bs _)
theorem bOut_mono {f g : Int → Int → Option (Int × List S67)} (h : ∀ a b, LeO (f a b) (g a b)) : ∀ l acc, LeO (bOut f l acc) (bOut g l acc)
  | [], acc => LeO.refl _
  | a :: l, acc => LeO.bind (bIn_mono h a l acc) (fun r => bOut_mono h l r)
theorem bestM_mono (k : Nat) (t : List (List Int)) : ∀ m J O, LeO (bestM k t m J O) (bestM (k + 1) t m J O)
  | 0, J, O => LeO.bind (track_length.mono _ _ _) (fun _ => LeO.refl _)
  | m + 1, J, O => bOut_mono (fun a b => bestM_mono k t m _ _) _ _
/-- Those that are open: different ones, all of them made. -/
def OpenOk (t : List (List Int)) (J : List S67) (O : List Int) : Prop := O.Nodup ∧ (∀ x ∈ O, 0 ≤ x ∧ x < ((t.length + J.length : Nat) : Int)) ∧ t.length ≤ 100 ∧ J.length + O.length ≤ 100
instance (t : List (List Int)) (J : List S67) (O : List Int) : Decidable (OpenOk t J O) := by unfold OpenOk; infer_instance
theorem open_rest {t : List (List Int)} {J : List S67} {O : List Int} (h : OpenOk t J O) {a b : Int} (ha : a ∈ O) (hb : b ∈ O) (hab : a ≠ b) :
    OpenOk t (J ++ [⟨a, b⟩]) (restOf O a b ++ [((t.length + J.length : Nat) : Int)]) ∧ (restOf O a b).length + 2 = O.length := by
  obtain ⟨h1, h2, h3, h4⟩ := h
  have hl : (restOf O a b).length + 2 = O.length := by
    have p1 := List.perm_cons_erase ha
    have hb' : b ∈ O.erase a := (List.mem_erase_of_ne (Ne.symm hab)).2 hb
    have p2 := List.perm_cons_erase hb'
    have n2 := h1.erase a
    have e : restOf O a b = (O.erase a).erase b := by
      unfold restOf
      rw [n2.erase_eq_filter, h1.erase_eq_filter, List.filter_filter]
      congr 1
      funext x
      cases ea : (x == a) <;> cases eb : (x == b) <;> simp [bne, ea, eb]
    rw [e, List.length_erase_of_mem hb', List.length_erase_of_mem ha]
    have := List.length_pos_of_mem hb'
    rw [List.length_erase_of_mem ha] at this
    omega
  refine ⟨⟨?_, ?_, h3, ?_⟩, hl⟩
  · rw [List.nodup_append]
    refine ⟨h1.filter _, by simp, fun x hx y hy => ?_⟩
    have := h2 x ((List.mem_filter.1 hx).1)
    rw [List.mem_singleton.1 hy]
    omega
  · intro x hx
    rw [List.length_append, List.length_singleton]
    rcases List.mem_append.1 hx with h | h
    · have := h2 x ((List.mem_filter.1 h).1); omega
    · rw [List.mem_singleton.1 h]; omega
  · rw [List.length_append, List.length_singleton, List.length_append, List.length_singleton]; omega
/-- best's answer. -/
def track_best.f (k : Nat) (t : List (List Int)) (J : List S67) (O : List Int) : Option (Int × List S67) := if OpenOk t J O ∧ 2 ≤ O.length then bestM k t (O.length - 1) J O else none
theorem track_best.mono : ∀ t J O k, LeO (track_best.f k t J O) (track_best.f (k + 1) t J O) := fun t J O k => LeO.ite (bestM_mono k t _ _ _) (LeO.none _)

/-- The literal of best: is it one of the two? -/
theorem best_lit (a b : Int) (BA BB : Nat) (W : World) (x : Int) (hA : W.cell? ⟨BA, 0, none⟩ = some (.int .i64 a)) (hB : W.cell? ⟨BB, 0, none⟩ = some (.int .i64 b)) :
    Calls Try.prog 78 #[.int .i64 x, .pointer (some ⟨BA, 0, none⟩), .pointer (some ⟨BB, 0, none⟩)] W fun e w' => e = .returned (.bool (x == a || x == b)) ∧ w' = W := by
  by_cases h1 : x = a
  · have h1b : (x == a) = true := beq_iff_eq.2 h1
    have hf : Aside0 ((x == a || x == b) = true) := ⟨by rw [h1b]; rfl⟩
    clear h1
    go_enter Try.func78, Try.ntmps78
    go_wp2
    go_ret
    exact ⟨by rw [hf.out]; rfl, rfl⟩
  · have h1b : (x == a) = false := beq_eq_false_iff_ne.2 h1
    have hf : Aside0 ((x == a || x == b) = (x == b)) := ⟨by rw [h1b]; rfl⟩
    clear h1
    go_enter Try.func78, Try.ntmps78
    go_wp2
    go_ret
    exact ⟨by rw [hf.out]; rfl, rfl⟩

/-- best, with m joins left. -/
def BestAt (k : Nat) (t : List (List Int)) (m : Nat) : Prop := ∀ (J : List S67) (O : List Int) (AT : Option Addr) (cT : Nat) (vJ : Value) (AO : Option Addr) (cO : Nat) (B : Nat) (r1 : Int) (r2 : List S67) (w : World), B ≤ w.heap.size →
    Kd.C (Kd.slice 3 (Kd.int .i64)) w AT t.length t → t.length ≤ cT → Kd.R k67 67 w B (fun _ => True) vJ J → Kd.C (Kd.int .i64) w AO O.length O → O.length ≤ cO → OpenOk t J O → O.length = m + 1 → bestM k t m J O = some (r1, r2) →
    Calls Try.prog 64 #[.slice AT t.length cT, vJ, .slice AO O.length cO] w fun e w' => ∃ v, e = .returned (.tuple #[.int .i64 r1, v]) ∧ Kd.R k67 67 w' B (fun _ => True) v r2 ∧ Below w.heap.size w w'

set_option maxRecDepth 100000 in
set_option maxHeartbeats 4000000 in
theorem best_zero (k : Nat) (t : List (List Int)) : BestAt k t 0 := by
  intro J O AT cT vJ AO cO B r1 r2 w hB ht hcT hJ hO hcO hok hm h
  obtain ⟨AJ, cJ, rfl⟩ := Kd.R_slice hJ
  have hJr := Kd.R_reads' hJ
  unfold bestM at h
  obtain ⟨r, hr, h⟩ := Option.bind_eq_some_iff.mp h
  obtain ⟨rfl, rfl⟩ : r = r1 ∧ J = r2 := by simpa using h
  have hlen := Aside0.mk (track_length.calls k AJ cJ J AT cT t r w hJr.2.2 hJr.2.1 ht hcT hr)
  have HJ := Aside0.mk hJ
  have h1 : ((O.length : Int) == 1) = true := beq_iff_eq.2 (by omega)
  have h1' : (O.length == 1) = true := beq_iff_eq.2 hm
  clear hJr hr h ht hJ hO hok hm
  go_enter Try.func64, Try.ntmps64
  go_wp2_with (go_at_call 63; (with_reducible refine hlen.out.mono ?_); rintro e w1 ⟨rfl, hb⟩; have HB := Aside0.mk hb; clear hb)
  go_ret2
  exact ⟨_, rfl, Kd.R_below HJ.out HB.out, HB.out⟩
end Go.Proofs.Ytcphmeeighhdjaa.P
