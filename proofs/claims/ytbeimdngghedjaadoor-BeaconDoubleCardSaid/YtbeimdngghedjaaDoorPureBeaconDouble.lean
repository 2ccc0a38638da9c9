/- Double has at least the number of landmarks of Basis, and at least 2 if there are 2 vertices or more: for all graphs that are derived. -/
import Derived.Test.YtbeimdngghedjaaDoorPF6
import Derived.Test.YtbeimdngghedjaaDoorBO
import Derived.Test.YtbeimdngghedjaaDoorBL
namespace Go.Proofs.YtbeimdngghedjaaDoor.Pure
open Go Go.Proofs Go.RowKit Go.Proofs.YtbeimdngghedjaaDoor.P Go.Proofs.YtbeimdngghedjaaDoorW.PrintWords Go.Proofs.YtbeimdngghedjaaDoorW.PrintLast
set_option linter.unusedVariables false
theorem BeaconDouble : wogglelaw07_BeaconDouble.Pure := by
  intro l0 hl0
  obtain ⟨N, l, hm, hev⟩ := made_ev (x := l0) (fun e he => u8_pair (hl0.2 e he))
  obtain ⟨p, hp, hp1, hp2, hp3⟩ := basis_ex hm.readOk
  obtain ⟨q, hq, hq1, hq2, hq3⟩ := double_ex hm.readOk
  have hn := hm.n1
  have c1 : p.length ≤ q.length := hp3 q hq2 (res_of_dbl hq1)
  have c2 : 2 ≤ N → 2 ≤ q.length := fun h => by
    obtain ⟨a, ha, b, hb, hne⟩ := (sep_iff 1 0).1 ((dblP_iff.1 hq1) 1 0 (by omega) (by omega))
    have hab : a ≠ b := fun e => hne (by rw [e])
    match q, ha, hb with
    | [], ha, _ => cases ha
    | [x], ha, hb => exact absurd ((List.mem_singleton.1 ha).trans (List.mem_singleton.1 hb).symm) hab
    | x :: y :: r, _, _ => simp
  have c3 : N = 1 → q.length = 0 := fun h => by
    have := hq3 [] trivial (by rw [dblP_iff]; intro u v h1 h2; omega)
    simpa using this
  have key : Ev (fun k => wogglelaw07_BeaconDouble.f k l0) true := by
    unfold wogglelaw07_BeaconDouble.f
    refine Ev.bind hev ?_
    simp only [hp, hq, Option.bind_some]
    have g : (q.length : Int) ≥ (p.length : Int) := by omega
    simp only [if_pos g, if_true]
    by_cases h2 : (N : Int) < 2
    · have hq0 : (q.length : Int) = 0 := by have := c3 (by omega); omega
      have hg1 : ¬ (N : Int) > 1 := by omega
      simp only [if_pos h2, if_neg hg1, if_pos hq0]
      exact Ev.bind lives_ev (Ev.now _)
    · have hq2' : (q.length : Int) ≥ 2 := by have := c2 (by omega); omega
      have hg1 : (N : Int) > 1 := by omega
      simp only [if_neg h2, if_pos hq2', if_pos hg1]
      exact Ev.bind lives_ev (Ev.now _)
  obtain ⟨K, h⟩ := key
  exact ⟨K, h K (Nat.le_refl _)⟩
end Go.Proofs.YtbeimdngghedjaaDoor.Pure
