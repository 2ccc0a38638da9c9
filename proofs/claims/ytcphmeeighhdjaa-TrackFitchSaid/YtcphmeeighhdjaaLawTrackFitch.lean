-- written by a program of this session
import Derived.Test.YtcphmeeighhdjaaRows
import Derived.Test.YtcphmeeighhdjaaPF7
import Derived.Test.YtcphmeeighhdjaaTFi
import Derived.Test.YtcphmeeighhdjaaRD
import Derived.WalkKit
import Derived.ProofKit
import Derived.OpenShut
import Derived.ShutString
import Derived.ChangeOld
import Derived.Below
import Derived.SizedLaws
namespace Go.Proofs.Ytcphmeeighhdjaa.trackFitch
open Go.ChangeShapes Go.WideShapes Go.ChangeAt Go.RowKit
open Go.ChangeMaps (open_string shut_string)
open Go.Proofs.Ytcphmeeighhdjaa.P Go.Proofs.YtcphmeeighhdjaaW.PrintWords Go.Proofs.YtcphmeeighhdjaaW.PrintLast Go.Proofs.YtcphmeeighhdjaaW.PrintMore
set_option linter.unusedVariables false
theorem own : ownKnob Try.prog.godebug = none := by kernel_rfl
theorem laidOut : laidOutB Try.prog = true := by kernel_rfl
set_option maxRecDepth 100000 in
theorem lifted (os : Os) (started : os.Started) (H : Type) (enc : TypeId × Value → H) :
    ReturnsInHanded {} Try.checked os 7 .any (Rows.trackFitchSpec.pre6 enc Try.prog Try.f7 Rows.trackFitchRow.domain false) (Rows.trackFitchSpec.post enc Try.prog Try.f7 false true false false) := by
  refine returnsInHanded_of_change_sized (C := Try.checked) own started (by kernel_rfl) Try.func7
    (ChangeSpec.witness6 (enc := enc) (C := Try.checked) false ⟨#[], #[.agg #[.int .u8 0, .int .u8 0, .slice none 0 0, .slice none 0 0, .slice none 0 0]], []⟩ 8 (by kernel_rfl) (by kernel_rfl) (by kernel_rfl) (by kernel_rfl)) ?_
  intro W base args ds gs before hval0 hW hcnd hsz0 _
  have hval : ∀ (j : Nat) t v, Try.f7.params[j]? = some t → args[j]? = some v → Value.okWide Try.prog W .any base t v := hval0
  have hW' := hW
  obtain ⟨p, q, hA0, hV, rfl, hfz, hnd⟩ := hW
  have hA : DataW.TrodAll enc Try.prog W 0 (fun _ => true) true Try.f7.params.toList args.toList ds p := hA0
  rw [Try.params7] at hA hval
  obtain ⟨v0, vs0, d0, ds0, p0, q0, hargs, rfl, rfl, h0, r0⟩ := trodAll_cons hA
  obtain ⟨rfl, rfl, rfl⟩ := trodAll_nil r0
  obtain rfl : args = #[v0] := by cases args; simp_all
  obtain ⟨rfl, rfl⟩ := trodVars_none hV
  have k0 := h0
  have lt0 : ∀ x ∈ p0, x.block < W.heap.size := by obtain ⟨m, hm⟩ := k0; exact DataW.trod_lt m _ _ _ hm
  obtain ⟨cs0, rfl, hsz0⟩ := okWide_struct Try.underlying56 (hval 0 56 v0 rfl rfl)
  obtain ⟨x0, ⟨_, _, hcs0, rfl, ⟨_, _, rfl, rfl, ⟨_, _, rfl, ⟨A0_2, c0_2, rfl, hle0_2, hC0_2⟩, ⟨_, _, rfl, ⟨A0_3, c0_3, rfl, hle0_3, hC0_3⟩, ⟨A0_4, c0_4, rfl, hle0_4, hC0_4⟩⟩⟩⟩⟩, hg0⟩ := Reads.of_trod (reads_struct Try.underlying56 (by kernel_rfl) (readsFs_cons rfl (reads_int Try.underlying5 (by kernel_rfl)) rfl (readsFs_cons rfl (reads_int Try.underlying5 (by kernel_rfl)) rfl (readsFs_cons rfl (reads_slice 5 Try.underlying54 (by kernel_rfl) (reads_int Try.underlying5 (by kernel_rfl))) rfl (readsFs_cons rfl (reads_slice 5 Try.underlying54 (by kernel_rfl) (reads_int Try.underlying5 (by kernel_rfl))) rfl (readsFs_one rfl (reads_slice 5 Try.underlying54 (by kernel_rfl) (reads_int Try.underlying5 (by kernel_rfl))))))))) h0
  obtain rfl : cs0 = #[.int .u8 x0.1, .int .u8 x0.2.1, .slice A0_2 x0.2.2.1.length c0_2, .slice A0_3 x0.2.2.2.1.length c0_3, .slice A0_4 x0.2.2.2.2.length c0_4] := by have e_ : cs0.toList = [.int .u8 x0.1, .int .u8 x0.2.1, .slice A0_2 x0.2.2.1.length c0_2, .slice A0_3 x0.2.2.2.1.length c0_3, .slice A0_4 x0.2.2.2.2.length c0_4] := hcs0; cases cs0; simp_all
  clear hA0 hval0 hsz0
  obtain ⟨k_, hk_⟩ := Pure.TrackFitch x0.1 x0.2.1 x0.2.2.1 x0.2.2.2.1 x0.2.2.2.2 hg0.1 hg0.2.1 hg0.2.2.1 hg0.2.2.2.1 hg0.2.2.2.2
  refine (wogglelaw02_TrackFitch.calls k_ x0.1 x0.2.1 _ _ x0.2.2.1 _ _ x0.2.2.2.1 _ _ x0.2.2.2.2 true W hC0_2 hle0_2 hC0_3 hle0_3 hC0_4 hle0_4 hk_ rfl).mono fun e W' h_ => ?_
  obtain ⟨rfl, bel0⟩ := h_
  have bel : Below W.heap.size W W' := bel0
  exact ⟨_, rfl, _, _, _, [], _, [], hW', trodAll_mk1 (shut_bool Try.underlying4 _), (trodAll_cons_mk (Below.trod laidOut (by kernel_rfl) (of_decide_eq_true (by kernel_rfl)) k0 bel lt0) trodAll_mk0), rfl, bel.frame _, fun h => by cases h⟩
theorem over : Rows.trackFitchRow.holds Try.pinned (OpenSpec.ofChange Rows.trackFitchSpec) :=
  OpenClaim.holds_of_wide 7 Try.f7 rfl rfl rfl rfl rfl rfl rfl ⟨rfl, rfl, rfl, rfl, rfl⟩ rfl rfl rfl rfl rfl (by kernel_rfl) Try.func7 (by kernel_rfl)
    (of_decide_eq_true (by kernel_rfl)) (by unfold Func.isWrapper; first | (rw [if_pos (by decide +kernel)]; kernel_rfl) | (rw [if_neg (by decide +kernel)]; exact ⟨rfl, rfl⟩))
    (fun os started H enc _ => lifted os started H enc)
theorem proved : Rows.TrackFitchSaid := over
#print axioms proved
end Go.Proofs.Ytcphmeeighhdjaa.trackFitch
namespace Go.Proofs.Ytcphmeeighhdjaa
/-- The row, under a short name, for the claim. -/
theorem trackFitch_holds : Rows.TrackFitchSaid := trackFitch.proved
end Go.Proofs.Ytcphmeeighhdjaa