/- What the laws' made derives: a connected graph. -/
import Derived.Test.YtbeimdngghedjaaDoorBN
import Derived.Test.YtbeimdngghedjaaDoorPF23
namespace Go.Proofs.YtbeimdngghedjaaDoor.Pure
open Go Go.Proofs Go.RowKit Go.Proofs.YtbeimdngghedjaaDoor.P Go.Proofs.YtbeimdngghedjaaDoorW.PrintWords Go.Proofs.YtbeimdngghedjaaDoorW.PrintLast
set_option linter.unusedVariables false

theorem u8_of {a : Int} (h : (Lit.int .u8 a).wf = true) : 0 ≤ a ∧ a < 256 := by
  unfold Lit.wf at h
  simp only [Bool.and_eq_true, decide_eq_true_eq] at h
  have e1 : IntKind.u8.min = 0 := by decide
  have e2 : IntKind.u8.max = 255 := by decide
  rw [e1, e2] at h
  omega
theorem u8_pair {e : S77} (h : (Lit.int .u8 e.f0).wf = true ∧ (Lit.int .u8 e.f1).wf = true) : (0 ≤ e.f0 ∧ e.f0 < 256) ∧ (0 ≤ e.f1 ∧ e.f1 < 256) := ⟨u8_of h.1, u8_of h.2⟩
/-- A tree in its order, and further edges. -/
structure Made (n : Nat) (l : List S47) : Prop where
  n1 : 1 ≤ n
  n10 : n ≤ 10
  len : l.length ≤ 30
  ok : l.all (edOk n) = true
  long : n - 1 ≤ l.length
  tree : ∀ v, 1 ≤ v → v < n → ∃ a : Nat, a < v ∧ l[v - 1]? = some ⟨(a : Int), (v : Int)⟩
theorem edOk_mk {n : Nat} {a b : Int} (h1 : 0 ≤ a) (h2 : a < n) (h3 : 0 ≤ b) (h4 : b < n) (h5 : a ≠ b) : edOk n ⟨a, b⟩ = true := by
  unfold edOk
  simp only [Bool.and_eq_true, decide_eq_true_eq, bne_iff_ne]
  omega
theorem edOk_up {n : Nat} {e : S47} (h : edOk n e = true) : edOk (n + 1) e = true := by
  obtain ⟨h1, h2, h3, h4, h5⟩ := edOk_parts (a := e.f0) (b := e.f1) h
  exact edOk_mk h1 (by omega) h3 (by omega) h5
theorem Made.walk {n : Nat} {l : List S47} (h : Made n l) : ∀ v, v < n → ∃ r, Wk n (edE l) r 0 v := by
  intro v
  induction v using Nat.strongRecOn with
  | _ v ih =>
    intro hv
    by_cases h0 : v = 0
    · subst h0; exact ⟨0, rfl⟩
    · obtain ⟨a, ha, he⟩ := h.tree v (by omega) hv
      obtain ⟨r, hr⟩ := ih a ha (by omega)
      have hE : edE l a v = true := (edE_iff l a v).2 ⟨_, List.mem_of_getElem? he, .inl ⟨by simp, by simp⟩⟩
      exact ⟨_, hr.cat (Wk.one hv hE)⟩
theorem Made.readOk {n : Nat} {l : List S47} (h : Made n l) : readOk (n : Int) l = true := readOk_mk h.n1 h.n10 (by have := h.len; omega) h.ok h.walk
theorem tmod_small {a n : Int} (h0 : 0 ≤ a) (h1 : 0 < n) : 0 ≤ Int.tmod a n ∧ Int.tmod a n < n := ⟨Int.tmod_nonneg n h0, Int.tmod_lt_of_pos a h1⟩
/-- The end that is taken is another than the first. -/
theorem other_end (n : Nat) (h2 : 2 ≤ n) (hn : n ≤ 10) (f g : Int) (hf : 0 ≤ f ∧ f < 256) (hg : 0 ≤ g ∧ g < 256) :
    0 ≤ Int.tmod (wrap64 f) (n : Int) ∧ Int.tmod (wrap64 f) (n : Int) < n ∧
    0 ≤ Int.tmod (wrap64 (wrap64 (Int.tmod (wrap64 f) (n : Int) + 1) + Int.tmod (wrap64 g) (wrap64 ((n : Int) - 1)))) (n : Int) ∧
    Int.tmod (wrap64 (wrap64 (Int.tmod (wrap64 f) (n : Int) + 1) + Int.tmod (wrap64 g) (wrap64 ((n : Int) - 1)))) (n : Int) < n ∧
    Int.tmod (wrap64 f) (n : Int) ≠ Int.tmod (wrap64 (wrap64 (Int.tmod (wrap64 f) (n : Int) + 1) + Int.tmod (wrap64 g) (wrap64 ((n : Int) - 1)))) (n : Int) := by
  rw [IntWalk.wrap64_in f (by omega), IntWalk.wrap64_in g (by omega), IntWalk.wrap64_in ((n : Int) - 1) (by omega)]
  obtain ⟨a0, a1⟩ := tmod_small hf.1 (show (0 : Int) < n by omega)
  obtain ⟨b0, b1⟩ := tmod_small hg.1 (show (0 : Int) < (n : Int) - 1 by omega)
  generalize Int.tmod f (n : Int) = a at a0 a1 ⊢
  generalize Int.tmod g ((n : Int) - 1) = b at b0 b1 ⊢
  rw [IntWalk.wrap64_in (a + 1) (by omega), IntWalk.wrap64_in (a + 1 + b) (by omega), Int.tmod_eq_emod_of_nonneg (by omega)]
  by_cases h : a + 1 + b < n
  · rw [Int.emod_eq_of_lt (by omega) h]; omega
  · rw [show a + 1 + b = (a + 1 + b - n) + n by omega, Int.add_emod_right, Int.emod_eq_of_lt (by omega) (by omega)]; omega
section
variable {x : List S77} (hx : ∀ e ∈ x, (0 ≤ e.f0 ∧ e.f0 < 256) ∧ (0 ≤ e.f1 ∧ e.f1 < 256))
include hx
theorem rd77 (i : Nat) (hi : i < x.length) : (0 ≤ (rd_T77 x i).f0 ∧ (rd_T77 x i).f0 < 256) ∧ (0 ≤ (rd_T77 x i).f1 ∧ (rd_T77 x i).f1 < 256) := by
  have : rd_T77 x i = x[i] := by unfold rd_T77; simp [hi]
  rw [this]; exact hx _ (List.getElem_mem hi)
theorem made_l1 {n : Nat} : ∀ (d i : Nat) (l : List S47), l.length + d = 30 → i ≤ l.length → Made n l → ∃ l', Made n l' ∧ Ev (fun k => wogglelaw07_made.l1 k x n l i) ((n : Int), l')
  | 0, i, l, hl, hi, hm => by
    refine ⟨l, hm, Ev.step (f := fun _ => some ((n : Int), l)) (fun k => ?_) (Ev.now _)⟩
    simp only [wogglelaw07_made.l1]
    by_cases h0 : (i : Int) < x.length
    · rw [if_pos h0]
      by_cases h1 : (n : Int) > 1
      · rw [if_pos h1, if_neg (by omega)]
      · rw [if_neg h1]
    · rw [if_neg h0]
  | d + 1, i, l, hl, hi, hm => by
    by_cases h0 : (i : Int) < x.length
    · by_cases h1 : (n : Int) > 1
      · have h2 : (l.length : Int) < 30 := by omega
        have hn := hm.n10
        obtain ⟨b1, b2⟩ := rd77 hx i (by omega)
        obtain ⟨o1, o2, o3, o4, o5⟩ := other_end n (by omega) hn _ _ b1 b2
        have hm2 : Made n (l ++ [(⟨Int.tmod (wrap64 ((rd_T77 x i).f0)) n, Int.tmod (wrap64 ((wrap64 ((Int.tmod (wrap64 ((rd_T77 x i).f0)) n) + 1)) + (Int.tmod (wrap64 ((rd_T77 x i).f1)) (wrap64 ((n : Int) - 1))))) n⟩ : S47)]) := by
          refine ⟨hm.n1, hm.n10, by rw [List.length_append, List.length_singleton]; omega, ?_, by rw [List.length_append]; have := hm.long; omega, fun v hv hvn => ?_⟩
          · rw [List.all_append, hm.ok]
            simp only [List.all_cons, List.all_nil, Bool.and_true, Bool.true_and]
            exact edOk_mk o1 o2 o3 o4 o5
          · obtain ⟨a, ha, he⟩ := hm.tree v hv hvn
            exact ⟨a, ha, by rw [List.getElem?_append_left ((List.getElem?_eq_some_iff.1 he).1)]; exact he⟩
        obtain ⟨l', hl', hev⟩ := made_l1 d (i + 1) _ (by rw [List.length_append, List.length_singleton]; omega) (by rw [List.length_append, List.length_singleton]; omega) hm2
        refine ⟨l', hl', Ev.step (fun k => ?_) hev⟩
        simp only [wogglelaw07_made.l1]
        rw [if_pos h0, if_pos h1, if_pos h2, if_pos (by omega), if_neg (by omega), if_neg (by rw [IntWalk.wrap64_in _ (by omega)]; omega), if_pos (by omega), succ_w i (by omega)]
      · exact ⟨l, hm, Ev.step (f := fun _ => some ((n : Int), l)) (fun k => by simp only [wogglelaw07_made.l1]; rw [if_pos h0, if_neg h1]) (Ev.now _)⟩
    · exact ⟨l, hm, Ev.step (f := fun _ => some ((n : Int), l)) (fun k => by simp only [wogglelaw07_made.l1]; rw [if_neg h0]) (Ev.now _)⟩
theorem made_j1 {n : Nat} {l : List S47} (hm : Made n l) : ∃ l', Made n l' ∧ Ev (fun k => wogglelaw07_made.j1 k x n l) ((n : Int), l') := by
  have hn := hm.n10; have h1 := hm.n1; have hlen := hm.len
  obtain ⟨l', hl', hev⟩ := made_l1 hx (30 - l.length) (n - 1) l (by omega) hm.long hm
  refine ⟨l', hl', Ev.step (fun k => ?_) hev⟩
  simp only [wogglelaw07_made.j1]
  rw [IntWalk.wrap64_in _ (by omega), show (n : Int) - 1 = ((n - 1 : Nat) : Int) by omega]
theorem made_l0 : ∀ (d i n : Nat) (l : List S47), n + d = 10 → i + 1 = n → Made n l → l.length = n - 1 → ∃ N l', Made N l' ∧ Ev (fun k => wogglelaw07_made.l0 k x 10 n l i) ((N : Int), l')
  | 0, i, n, l, hd, hi, hm, _ => by
    obtain ⟨l', hl', hev⟩ := made_j1 hx hm
    refine ⟨n, l', hl', Ev.step (fun k => ?_) hev⟩
    simp only [wogglelaw07_made.l0]
    by_cases h0 : (i : Int) < x.length
    · rw [if_pos h0, if_neg (by omega)]
    · rw [if_neg h0]
  | d + 1, i, n, l, hd, hi, hm, hl => by
    have stop : ∃ N l', Made N l' ∧ Ev (fun k => wogglelaw07_made.j1 k x n l) ((N : Int), l') := by
      obtain ⟨l', hl', hev⟩ := made_j1 hx hm
      exact ⟨n, l', hl', hev⟩
    have h1 : (n : Int) < 10 := by omega
    by_cases h0 : (i : Int) < x.length
    · by_cases h2 : Int.tmod ((rd_T77 x i).f1) 4 > 0
      · have hn1 := hm.n1
        obtain ⟨b1, b2⟩ := rd77 hx i (by omega)
        have ha := tmod_small b1.1 (show (0 : Int) < n by omega)
        have hw : wrap64 ((rd_T77 x i).f0) = (rd_T77 x i).f0 := IntWalk.wrap64_in _ (by omega)
        have hm2 : Made (n + 1) (l ++ [(⟨Int.tmod (wrap64 ((rd_T77 x i).f0)) n, n⟩ : S47)]) := by
          refine ⟨by omega, by omega, by rw [List.length_append, List.length_singleton]; omega, ?_, by rw [List.length_append, List.length_singleton]; omega, fun v hv hvn => ?_⟩
          · rw [List.all_append, hw]
            have : l.all (edOk (n + 1)) = true := List.all_eq_true.2 fun e he => edOk_up (List.all_eq_true.1 hm.ok e he)
            rw [this]
            simp only [List.all_cons, List.all_nil, Bool.and_true, Bool.true_and]
            exact edOk_mk ha.1 (by omega) (by omega) (by omega) (by omega)
          · by_cases hvn2 : v < n
            · obtain ⟨a, ha, he⟩ := hm.tree v hv hvn2
              exact ⟨a, ha, by rw [List.getElem?_append_left ((List.getElem?_eq_some_iff.1 he).1)]; exact he⟩
            · obtain rfl : v = n := by omega
              refine ⟨(Int.tmod ((rd_T77 x i).f0) v).toNat, by omega, ?_⟩
              rw [List.getElem?_append_right (by omega), show v - 1 - l.length = 0 by omega, hw]
              simp only [List.getElem?_cons_zero]
              rw [Int.toNat_of_nonneg ha.1]
        obtain ⟨N, l', hl', hev⟩ := made_l0 d (i + 1) (n + 1) _ (by omega) (by omega) hm2 (by rw [List.length_append, List.length_singleton]; omega)
        refine ⟨N, l', hl', Ev.step (fun k => ?_) hev⟩
        simp only [wogglelaw07_made.l0]
        rw [if_pos h0, if_pos h1, if_pos (by omega), if_pos h2, if_neg (by omega), if_pos (by omega), succ_w i (by omega), succ_w n (by omega)]
      · obtain ⟨N, l', hl', hev⟩ := stop
        exact ⟨N, l', hl', Ev.step (fun k => by simp only [wogglelaw07_made.l0]; rw [if_pos h0, if_pos h1, if_pos (by omega), if_neg h2]) hev⟩
    · obtain ⟨N, l', hl', hev⟩ := stop
      exact ⟨N, l', hl', Ev.step (fun k => by simp only [wogglelaw07_made.l0]; rw [if_neg h0]) hev⟩
theorem made_ev : ∃ N l, Made N l ∧ Ev (fun k => wogglelaw07_made.f k x 10) ((N : Int), l) := by
  have h0 : Made 1 ([] : List S47) := ⟨Nat.le_refl _, by omega, by simp, rfl, by simp, fun v h1 h2 => by omega⟩
  obtain ⟨N, l, hm, hev⟩ := made_l0 hx 9 0 1 [] rfl rfl h0 rfl
  exact ⟨N, l, hm, hev⟩
end
end Go.Proofs.YtbeimdngghedjaaDoor.Pure
