-- written by a program of this session
import Derived.Test.YtcphmeeighhdjaaRows
import Derived.Test.YtcphmeeighhdjaaPF6
import Derived.Test.YtcphmeeighhdjaaTL
import Derived.Test.YtcphmeeighhdjaaRD
import Derived.WalkKit
import Derived.ProofKit
import Derived.OpenShut
import Derived.ShutString
import Derived.ChangeOld
import Derived.Below
import Derived.SizedLaws
namespace Go.Proofs.Ytcphmeeighhdjaa.trackLeasts
open Go.ChangeShapes Go.WideShapes Go.ChangeAt Go.RowKit
open Go.ChangeMaps (open_string shut_string)
open Go.Proofs.Ytcphmeeighhdjaa.P Go.Proofs.YtcphmeeighhdjaaW.PrintWords Go.Proofs.YtcphmeeighhdjaaW.PrintLast Go.Proofs.YtcphmeeighhdjaaW.PrintMore
set_option linter.unusedVariables false
theorem own : ownKnob Try.prog.godebug = none := by kernel_rfl
theorem laidOut : laidOutB Try.prog = true := by kernel_rfl
set_option maxRecDepth 100000 in
theorem lifted (os : Os) (started : os.Started) (H : Type) (enc : TypeId × Value → H) :
    ReturnsInHanded {} Try.checked os 6 .any (Rows.trackLeastsSpec.pre6 enc Try.prog Try.f6 Rows.trackLeastsRow.domain false) (Rows.trackLeastsSpec.post enc Try.prog Try.f6 false true false false) := by
  refine returnsInHanded_of_change_sized (C := Try.checked) own started (by kernel_rfl) Try.func6
    (ChangeSpec.witness6 (enc := enc) (C := Try.checked) false ⟨#[], #[.agg #[.int .i64 0, .slice none 0 0], .slice none 0 0, .slice none 0 0], []⟩ 8 (by kernel_rfl) (by kernel_rfl) (by kernel_rfl) (by kernel_rfl)) ?_
  intro W base args ds gs before hval0 hW hcnd hsz0 _
  have hval : ∀ (j : Nat) t v, Try.f6.params[j]? = some t → args[j]? = some v → Value.okWide Try.prog W .any base t v := hval0
  have hW' := hW
  obtain ⟨p, q, hA0, hV, rfl, hfz, hnd⟩ := hW
  have hA : DataW.TrodAll enc Try.prog W 0 (fun _ => true) true Try.f6.params.toList args.toList ds p := hA0
  rw [Try.params6] at hA hval
  obtain ⟨v0, vs0, d0, ds0, p0, q0, hargs, rfl, rfl, h0, r0⟩ := trodAll_cons hA
  obtain ⟨v1, vs1, d1, ds1, p1, q1, rfl, rfl, rfl, h1, r1⟩ := trodAll_cons r0
  obtain ⟨v2, vs2, d2, ds2, p2, q2, rfl, rfl, rfl, h2, r2⟩ := trodAll_cons r1
  obtain ⟨rfl, rfl, rfl⟩ := trodAll_nil r2
  obtain rfl : args = #[v0, v1, v2] := by cases args; simp_all
  obtain ⟨rfl, rfl⟩ := trodVars_none hV
  have k0 := h0
  have lt0 : ∀ x ∈ p0, x.block < W.heap.size := by obtain ⟨m, hm⟩ := k0; exact DataW.trod_lt m _ _ _ hm
  obtain ⟨cs0, rfl, hsz0⟩ := okWide_struct Try.underlying24 (hval 0 24 v0 rfl rfl)
  obtain ⟨x0, ⟨_, _, hcs0, rfl, ⟨A0_1, c0_1, rfl, hle0_1, hC0_1⟩⟩, hg0⟩ := Reads.of_trod (reads_struct Try.underlying24 (by kernel_rfl) (readsFs_cons rfl (reads_int Try.underlying3 (by kernel_rfl)) rfl (readsFs_one rfl (reads_slice 67 Try.underlying22 (by kernel_rfl) (reads_fields (fun x : S67 => (x.f0, x.f1)) (fun p => (⟨p.1, p.2⟩ : S67)) (fun _ => rfl) Try.underlying67 (by kernel_rfl) (readsFs_cons rfl (reads_int Try.underlying3 (by kernel_rfl)) rfl (readsFs_one rfl (reads_int Try.underlying3 (by kernel_rfl))))))))) h0
  obtain rfl : cs0 = #[.int .i64 x0.1, .slice A0_1 x0.2.length c0_1] := by have e_ : cs0.toList = [.int .i64 x0.1, .slice A0_1 x0.2.length c0_1] := hcs0; cases cs0; simp_all
  have k1 := h1
  have lt1 : ∀ x ∈ p1, x.block < W.heap.size := by obtain ⟨m, hm⟩ := k1; exact DataW.trod_lt m _ _ _ hm
  obtain ⟨b1, len1, cap1, rfl⟩ := okWide_slice Try.underlying29 (hval 1 29 v1 rfl rfl)
  obtain ⟨l1, ⟨A1, c1, hcs1, hle1, hC1⟩, hg1⟩ := Reads.of_trod (reads_slice 25 Try.underlying29 (by kernel_rfl) (reads_slice 3 Try.underlying25 (by kernel_rfl) (reads_int Try.underlying3 (by kernel_rfl)))) h1
  obtain ⟨rfl, rfl, rfl⟩ : b1 = A1 ∧ len1 = l1.length ∧ cap1 = c1 := by simpa [Value.cells] using hcs1
  have k2 := h2
  have lt2 : ∀ x ∈ p2, x.block < W.heap.size := by obtain ⟨m, hm⟩ := k2; exact DataW.trod_lt m _ _ _ hm
  obtain ⟨b2, len2, cap2, rfl⟩ := okWide_slice Try.underlying25 (hval 2 25 v2 rfl rfl)
  obtain ⟨l2, ⟨A2, c2, hcs2, hle2, hC2⟩, hg2⟩ := Reads.of_trod (reads_slice 3 Try.underlying25 (by kernel_rfl) (reads_int Try.underlying3 (by kernel_rfl))) h2
  obtain ⟨rfl, rfl, rfl⟩ : b2 = A2 ∧ len2 = l2.length ∧ cap2 = c2 := by simpa [Value.cells] using hcs2
  clear hA0 hval0 hsz0
  obtain ⟨k_, hk_⟩ := Pure.TrackLeasts x0.1 x0.2 l1 l2 hg0.1 hg0.2 hg1 hg2
  refine (wogglelaw02_TrackLeasts.calls k_ x0.1 _ _ x0.2 _ _ l1 _ _ l2 true W hC0_1 hle0_1 hC1 hle1 hC2 hle2 hk_ rfl).mono fun e W' h_ => ?_
  obtain ⟨rfl, bel0⟩ := h_
  have bel : Below W.heap.size W W' := bel0
  exact ⟨_, rfl, _, _, _, [], _, [], hW', trodAll_mk1 (shut_bool Try.underlying4 _), (trodAll_cons_mk (Below.trod laidOut (by kernel_rfl) (of_decide_eq_true (by kernel_rfl)) k0 bel lt0) (trodAll_cons_mk (Below.trod laidOut (by kernel_rfl) (of_decide_eq_true (by kernel_rfl)) k1 bel lt1) (trodAll_cons_mk (Below.trod laidOut (by kernel_rfl) (of_decide_eq_true (by kernel_rfl)) k2 bel lt2) trodAll_mk0))), rfl, bel.frame _, fun h => by cases h⟩
theorem over : Rows.trackLeastsRow.holds Try.pinned (OpenSpec.ofChange Rows.trackLeastsSpec) :=
  OpenClaim.holds_of_wide 6 Try.f6 rfl rfl rfl rfl rfl rfl rfl ⟨rfl, rfl, rfl, rfl, rfl⟩ rfl rfl rfl rfl rfl (by kernel_rfl) Try.func6 (by kernel_rfl)
    (of_decide_eq_true (by kernel_rfl)) (by unfold Func.isWrapper; first | (rw [if_pos (by decide +kernel)]; kernel_rfl) | (rw [if_neg (by decide +kernel)]; exact ⟨rfl, rfl⟩))
    (fun os started H enc _ => lifted os started H enc)
theorem proved : Rows.TrackLeastsSaid := over
#print axioms proved
end Go.Proofs.Ytcphmeeighhdjaa.trackLeasts
namespace Go.Proofs.Ytcphmeeighhdjaa
/-- The row, under a short name, for the claim. -/
theorem trackLeasts_holds : Rows.TrackLeastsSaid := trackLeasts.proved
end Go.Proofs.Ytcphmeeighhdjaa