/- For all trees, numbers and lists, Fitch answers the sets and the number of changes, or the error: in plain numbers and lists. -/
import Derived.Test.YtcphmeeighhdjaaPF3
import Derived.Test.YtcphmeeighhdjaaRF
namespace Go.Proofs.Ytcphmeeighhdjaa.Pure
open Go Go.Proofs Go.RowKit Go.Proofs.Ytcphmeeighhdjaa.P Go.Proofs.YtcphmeeighhdjaaW.PrintWords Go.Proofs.YtcphmeeighhdjaaW.PrintLast
set_option linter.unusedVariables false

theorem livesF_ev : Ev (fun k => wogglelaw02_lives.f k) true := Ev.of wogglelaw02_lives.mono track_lives_at
theorem fitches_bad (n : Int) (J : List S67) (L : List Int) (e : Int) (he : e ≠ 0) : Ev (fun k => wogglelaw02_TrackFitches.j1 k n J L [] 0 e e) true := by
  refine Ev.step (f := fun k => (wogglelaw02_lives.f k).bind fun t => some t) (fun k => ?_) (Ev.bind livesF_ev (Ev.now _))
  simp only [wogglelaw02_TrackFitches.j1, List.length_nil]
  rw [if_neg he, if_pos (show ((0 : Nat) : Int) = 0 from rfl), if_pos trivial, if_pos trivial]
theorem fitches_ok {n k : Nat} {J : List S67} {L : List Int} (ht : TreeOk n J) (h1 : 1 ≤ k) (hk : k ≤ 4) (hs : StatesOk n k L) :
    Ev (fun q => wogglelaw02_TrackFitches.j1 q n J L (fitOut n k J L) (fitTo J L J.length).2 0 0) true := by
  have hL := hs.2
  have hn8 := ht.2.1
  have hJ := ht.2.2.1
  have hl := fitTo_length J L J.length
  have hsm := fit_small hk ht hs J.length (Nat.le_refl _)
  refine Ev.step (f := fun q => (woggleref02_Fitch.f q n J L).bind fun b => wogglelaw02_TrackFitches.l0 q (fitOut n k J L) (fitTo J L J.length).2 0 b.1 b.2 [] 0) (fun q => by simp only [wogglelaw02_TrackFitches.j1]; rw [if_pos trivial]) ?_
  refine Ev.bind (rfitch_ev ht hs) ?_
  have e : L.length = n := by omega
  rw [e]
  unfold fitOut
  generalize (fitTo J L J.length).2 = c
  have hY : ((fitTo J L J.length).1.drop n).length ≤ 100 := by rw [List.length_drop]; omega
  have hYs : ∀ x ∈ (fitTo J L J.length).1.drop n, 0 ≤ x ∧ x < ((2 ^ k : Nat) : Int) := fun x hx => hsm x (List.mem_of_mem_drop hx)
  generalize (fitTo J L J.length).1.drop n = Y at *
  have key := up_ind (fun m => Ev (fun q => wogglelaw02_TrackFitches.l0 q (Y.map (fun s => memTo s k)) c 0 Y c ((Y.take m).map (fun s => memTo s k)) (m : Int)) true) Y.length ?_ ?_
  · exact key
  · refine Ev.step (f := fun q => (woggleref01_SameLists.f q (Y.map (fun s => memTo s k)) (Y.map (fun s => memTo s k))).bind fun t => if t = true then (wogglelaw02_lives.f q).bind fun t => some t else some false) (fun q => ?_) ?_
    · simp only [wogglelaw02_TrackFitches.l0]
      rw [if_neg (Int.lt_irrefl _), List.take_length]
      simp only [if_true]
    · refine Ev.bind (sames_self _ (by rw [List.length_map]; omega) (fun x hx => ?_)) (Ev.congr (f := fun q => (wogglelaw02_lives.f q).bind fun t => some t) (fun q => if_pos rfl) (Ev.bind livesF_ev (Ev.now _)))
      obtain ⟨s, _, rfl⟩ := List.mem_map.1 hx
      have := memTo_length s k
      omega
  · intro m hm ih
    have p1 : (m : Int) < Y.length := by omega
    have p2 : (0 : Int) ≤ m := by omega
    have hb := hYs _ (List.getElem_mem hm)
    refine Ev.step (f := fun q => (woggleref01_Members.f q (rd Y m)).bind fun t => wogglelaw02_TrackFitches.l0 q (Y.map (fun s => memTo s k)) c 0 Y c ((Y.take m).map (fun s => memTo s k) ++ [t]) ((m + 1 : Nat) : Int)) (fun q => ?_) ?_
    · have hlt : ((Y.take m).map (fun s => memTo s k)).length < 5864062014805 := by rw [List.length_map, List.length_take]; omega
      simp only [wogglelaw02_TrackFitches.l0, hlt, if_true]
      rw [if_pos p1, if_pos p2, succ_w m (by omega)]
    · rw [rd_nat Y m hm]
      refine Ev.bind (members_ev k hk _ hb.1 hb.2) ?_
      rw [take_up Y m hm, List.map_append] at ih
      exact ih
theorem TrackFitches : wogglelaw02_TrackFitches.Pure := by
  intro a0 x0 a1 x1 h0 g0 h1 g1
  apply Ev.rounds
  unfold wogglelaw02_TrackFitches.f
  rw [few_f a0 x0 g0.1, cut_f x1 g1.1]
  have hJ : (x0.take 9).length ≤ 9 := List.length_take_le _ _
  have hL : (x1.take 9).length ≤ 9 := List.length_take_le _ _
  generalize x0.take 9 = J at *
  generalize x1.take 9 = L at *
  simp only [Option.bind_some]
  by_cases c : TreeOk a0 J ∧ 1 ≤ a1 ∧ a1 ≤ 4
  · obtain ⟨ht, k1, k4⟩ := c
    have tr := rtree_ev a0 J
    rw [@decide_eq_true _ (_) ht] at tr
    have hn8 := ht.2.1
    have hn2 := ht.1
    have flag : ¬ a1 < 1 ∧ decide (a1 > 4) = false := ⟨by omega, decide_eq_false (by omega)⟩
    by_cases hs : StatesOk a0 a1 L
    · obtain ⟨n, rfl⟩ : ∃ n : Nat, a0 = n := ⟨a0.toNat, by omega⟩
      obtain ⟨k, rfl⟩ : ∃ k : Nat, a1 = k := ⟨a1.toNat, by omega⟩
      refine Ev.bind (Fitch_ev ht (by omega) (by omega) hs) (Ev.bind tr ?_)
      refine Ev.congr (f := fun q => wogglelaw02_TrackFitches.j0 q k n J L (fitOut n k J L) (fitTo J L J.length).2 0 0 false) (fun q => by rw [if_pos rfl, if_neg flag.1, flag.2]) ?_
      have st := rstates_ev n k L (by omega) (by omega) (by omega)
      rw [@decide_eq_true _ (_) hs] at st
      refine Ev.step (fun q => by simp only [wogglelaw02_TrackFitches.j0]; rw [if_neg (by decide)]) (Ev.bind st (Ev.congr (fun q => if_pos rfl) (fitches_ok ht (by omega) (by omega) hs)))
    · refine Ev.bind (Fitch_bad2 (by omega) ht k1 k4 hs) (Ev.bind tr ?_)
      refine Ev.congr (f := fun q => wogglelaw02_TrackFitches.j0 q a1 a0 J L [] 0 2 0 false) (fun q => by rw [if_pos rfl, if_neg flag.1, flag.2]) ?_
      have st := rstates_ev a0 a1 L (by omega) (by omega) (by omega)
      rw [@decide_eq_false _ (_) hs] at st
      refine Ev.step (fun q => by simp only [wogglelaw02_TrackFitches.j0]; rw [if_neg (by decide)]) (Ev.bind st (Ev.congr (f := fun q => wogglelaw02_TrackFitches.j1 q a0 J L [] 0 2 2) (fun q => if_neg (show ¬ (false = true) by decide)) (fitches_bad a0 J L 2 (by decide))))
  · refine Ev.bind (Fitch_bad1 (by omega) c) (Ev.bind (rtree_ev a0 J) ?_)
    have bad : Ev (fun q => wogglelaw02_TrackFitches.j0 q a1 a0 J L [] 0 1 0 true) true := Ev.step (f := fun q => wogglelaw02_TrackFitches.j1 q a0 J L [] 0 1 1) (fun q => by simp only [wogglelaw02_TrackFitches.j0]; rw [if_pos trivial]) (fitches_bad a0 J L 1 (by decide))
    by_cases c0 : TreeOk a0 J
    · rw [@decide_eq_true _ (_) c0]
      by_cases c1 : a1 < 1
      · exact Ev.congr (fun q => by rw [if_pos rfl, if_pos c1]) bad
      · have c2 : a1 > 4 := Decidable.byContradiction fun c2 => c ⟨c0, by omega, by omega⟩
        exact Ev.congr (fun q => by rw [if_pos rfl, if_neg c1, decide_eq_true c2]) bad
    · rw [@decide_eq_false _ (_) c0]
      exact Ev.congr (fun q => if_neg (by decide)) bad

end Go.Proofs.Ytcphmeeighhdjaa.Pure
