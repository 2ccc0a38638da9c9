/- Of a class of twins at most one is no mark, where the marks resolve: for all graphs and marks that are derived. -/
import Derived.Test.YtbeimdngghedjaaDoorPF14
import Derived.Test.YtbeimdngghedjaaDoorCA
namespace Go.Proofs.YtbeimdngghedjaaDoor.Pure
open Go Go.Proofs Go.RowKit Go.Proofs.YtbeimdngghedjaaDoor.P Go.Proofs.YtbeimdngghedjaaDoorW.PrintWords Go.Proofs.YtbeimdngghedjaaDoorW.PrintLast
set_option linter.unusedVariables false
set_option maxRecDepth 100000
/-- The members of a set, by its bits. -/
def memI (s : Nat) : List Int := (fullL 10).filter fun x => s.testBit x.toNat
theorem members_is : ((List.range 1024).all fun s => woggleref01_Members.f 20 (s : Int) == some (memI s)) = true := by decide +kernel
theorem bits_is : ((enum 10 0).all fun m => (woggleref01_Bits.f 20 m).any fun t => decide (0 ≤ t) && decide (t < 1024) && memI t.toNat == m) = true := by decide +kernel
theorem memI_mem {s : Nat} (hs : s < 1024) {v : Nat} : (v : Int) ∈ memI s ↔ s.testBit v = true := by
  unfold memI
  rw [List.mem_filter, Int.toNat_natCast]
  constructor
  · exact fun h => h.2
  · intro h
    have hv : v < 10 := by
      rcases Nat.lt_or_ge v 10 with h1 | h1
      · exact h1
      · have : s < 2 ^ v := Nat.lt_of_lt_of_le hs (show 2 ^ 10 ≤ 2 ^ v from Nat.pow_le_pow_right (by omega) h1)
        rw [Nat.testBit_lt_two_pow this] at h; cases h
    exact ⟨mem_full hv, h⟩
theorem bits_nat {n : Nat} (hn : n ≤ 10) {m : List Int} (h : Ris n 0 m) : ∃ T : Nat, T < 1024 ∧ memI T = m ∧ Ev (fun k => woggleref01_Bits.f k m) (T : Int) := by
  have h1 := List.all_eq_true.1 bits_is m (ris_enum (n := 10) 10 0 m (by omega) (Ris.up (by omega) h))
  obtain ⟨t, ht⟩ : ∃ t, woggleref01_Bits.f 20 m = some t := by
    cases e : woggleref01_Bits.f 20 m with
    | none => rw [e] at h1; cases h1
    | some t => exact ⟨t, rfl⟩
  rw [ht] at h1
  have h2 : (decide (0 ≤ t) && decide (t < 1024) && memI t.toNat == m) = true := h1
  simp only [Bool.and_eq_true, decide_eq_true_eq, beq_iff_eq] at h2
  obtain ⟨⟨h3, h4⟩, h5⟩ := h2
  refine ⟨t.toNat, by omega, h5, ?_⟩
  rw [Int.toNat_of_nonneg h3]
  exact Ev.mono_at (woggleref01_Bits.mono _) ht
section
variable {n : Nat} {E : Nat → Nat → Bool} {M : Mt}
/-- The same neighbours but for themselves. -/
def TwP (n : Nat) (E : Nat → Nat → Bool) (u v : Nat) : Prop := ∀ w, w < n → w ≠ u → w ≠ v → E u w = E v w
theorem twins_l0 {u v : Nat} (hu : u < n) (hv : v < n) (hn : n ≤ 10) : ∀ (d i : Nat), i + d = n → ∃ b : Bool, Ev (fun k => beacon_graph_twins.l0 k (Gr n E M) (u : Int) (v : Int) (n : Int) (i : Int)) b ∧ (b = true → ∀ w, i ≤ w → w < n → w ≠ u → w ≠ v → E u w = E v w)
  | 0, i, hd => by
    refine ⟨true, Ev.step (f := fun _ => some true) (fun k => ?_) (Ev.now _), fun _ w h1 h2 => by omega⟩
    simp only [beacon_graph_twins.l0]
    rw [if_neg (by omega)]
  | d + 1, i, hd => by
    obtain ⟨b, hb, hw⟩ := twins_l0 hu hv hn d (i + 1) (by omega)
    have hi : i < n := by omega
    by_cases e1 : i = u
    · refine ⟨b, Ev.step (fun k => ?_) hb, fun h w h1 h2 h3 h4 => hw h w (by omega) h2 h3 h4⟩
      simp only [beacon_graph_twins.l0]
      rw [if_pos (by omega), if_pos (by omega), succ_w i (by omega)]
    · by_cases e2 : i = v
      · refine ⟨b, Ev.step (fun k => ?_) hb, fun h w h1 h2 h3 h4 => hw h w (by omega) h2 h3 h4⟩
        simp only [beacon_graph_twins.l0]
        rw [if_pos (by omega), if_neg (by omega), if_pos (by omega), succ_w i (by omega)]
      · have c1 : rdOf false ((List.range n).map (E u)) (i : Int) = E u i := by unfold rdOf; simp [hi]
        have c2 : rdOf false ((List.range n).map (E v)) (i : Int) = E v i := by unfold rdOf; simp [hi]
        have g1 : (0 : Int) < ((Gr n E M).length : Int) := by simp [Gr]
        have step : ∀ k, beacon_graph_twins.l0 (k + 1) (Gr n E M) (u : Int) (v : Int) (n : Int) (i : Int) = if (E u i != E v i) = true then some false else beacon_graph_twins.l0 k (Gr n E M) (u : Int) (v : Int) (n : Int) ((i + 1 : Nat) : Int) := fun k => by
          simp only [beacon_graph_twins.l0]
          rw [if_pos (by omega), if_neg (by omega), if_neg (by omega), if_pos g1, if_pos (by omega), gr0]
          simp only
          rw [rowE_at u hu, rowE_at v hv, c1, c2, if_pos (by simp [rowsE]; omega), if_pos (by omega), if_pos (by simp; omega), if_pos (by omega), if_pos (by simp [rowsE]; omega), if_pos (by simp; omega), succ_w i (by omega)]
        by_cases e3 : E u i = E v i
        · refine ⟨b, Ev.step (fun k => ?_) hb, fun h w h1 h2 h3 h4 => ?_⟩
          · show beacon_graph_twins.l0 (k + 1) _ _ _ _ _ = _
            rw [step, if_neg (by simp [e3])]
          · by_cases e : w = i
            · subst e; exact e3
            · exact hw h w (by omega) h2 h3 h4
        · refine ⟨false, Ev.step (f := fun _ => some false) (fun k => ?_) (Ev.now _), fun h => by cases h⟩
          show beacon_graph_twins.l0 (k + 1) _ _ _ _ _ = _
          rw [step, if_pos (by simpa using e3)]
theorem twins_ev {u v : Nat} (hu : u < n) (hv : v < n) (hn : n ≤ 10) : ∃ b : Bool, Ev (fun k => beacon_graph_twins.f k (Gr n E M) (u : Int) (v : Int)) b ∧ (b = true → TwP n E u v) := by
  obtain ⟨b, hb, hw⟩ := twins_l0 (M := M) (E := E) hu hv hn n 0 (by omega)
  refine ⟨b, ?_, fun h w h1 h2 h3 => hw h w (Nat.zero_le _) h1 h2 h3⟩
  unfold beacon_graph_twins.f
  refine ev_pos (by simp [Gr]) ?_
  rw [gr0]; exact hb
theorem ris_snoc {i : Int} : ∀ {lo : Int} {s : List Int}, lo ≤ i → Ris i lo s → Ris (i + 1) lo (s ++ [i])
  | lo, [], h, _ => ⟨h, by omega, trivial⟩
  | lo, x :: s, h, ⟨h1, h2, h3⟩ => ⟨h1, by omega, ris_snoc (by omega) h3⟩
/-- A class: rising, two or more, each the first or a twin of it. -/
def Cls (n : Nat) (E : Nat → Nat → Bool) (c : List Int) : Prop := Ris n 0 c ∧ 2 ≤ c.length ∧ ∃ u, u < n ∧ ∀ x : Nat, (x : Int) ∈ c → x = u ∨ TwP n E u x
def Good (n : Nat) (E : Nat → Nat → Bool) (R : List (List Int)) : Prop := R.length ≤ 10 ∧ ∀ c ∈ R, Cls n E c
theorem tw_l1 {u : Nat} (hu : u < n) (hn : n ≤ 10) {out : List (List Int)} (ho : out.length ≤ u) (hoc : ∀ c ∈ out, Cls n E c)
    (cont : ∀ out' s', s'.length = n → out'.length ≤ u + 1 → (∀ c ∈ out', Cls n E c) → ∃ R, Good n E R ∧ Ev (fun k => beacon_Twins_tail.l0 k n (Gr n E M) out' s' n ((u + 1 : Nat) : Int)) (R, 0)) :
    ∀ (d i : Nat) (c : List Int) (s : List Bool), i + d = n → s.length = n → Ris i 0 c → (∀ x : Nat, (x : Int) ∈ c → x = u ∨ TwP n E u x) → ∃ R, Good n E R ∧ Ev (fun k => beacon_Twins_tail.l1 k n (Gr n E M) out s u c i n u) (R, 0)
  | 0, i, c, s, hd, hs, hc, hcm => by
    by_cases h2 : 2 ≤ c.length
    · obtain rfl : i = n := by omega
      obtain ⟨R, hR, hev⟩ := cont (out ++ [c]) s hs (by rw [List.length_append, List.length_singleton]; omega) (fun x hx => by
        rcases List.mem_append.1 hx with hx | hx
        · exact hoc x hx
        · rw [List.mem_singleton.1 hx]; exact ⟨hc, h2, u, hu, hcm⟩)
      refine ⟨R, hR, Ev.step (fun k => ?_) hev⟩
      simp only [beacon_Twins_tail.l1]
      rw [if_neg (by omega), if_pos (by omega), if_pos (by omega), succ_w u (by omega)]
    · obtain ⟨R, hR, hev⟩ := cont out s hs (by omega) hoc
      refine ⟨R, hR, Ev.step (fun k => ?_) hev⟩
      simp only [beacon_Twins_tail.l1]
      rw [if_neg (by omega), if_neg (by omega), succ_w u (by omega)]
  | d + 1, i, c, s, hd, hs, hc, hcm => by
    have hi : i < n := by omega
    have hlen := ris_len hc (by omega)
    have q : c.length < 17592186044416 := by omega
    have up : i = u ∨ TwP n E u i → ∃ R, Good n E R ∧ Ev (fun k => beacon_Twins_tail.l1 k n (Gr n E M) out (s.set i true) u (c ++ [(i : Int)]) ((i + 1 : Nat) : Int) n u) (R, 0) := fun h =>
      tw_l1 hu hn ho hoc cont d (i + 1) (c ++ [(i : Int)]) (s.set i true) (by omega) (by rw [List.length_set]; exact hs) (ris_snoc (by omega) hc) (fun x hx => by
        rcases List.mem_append.1 hx with hx | hx
        · exact hcm x hx
        · have : x = i := Int.ofNat.inj (List.mem_singleton.1 hx)
          subst this; exact h)
    by_cases e : i = u
    · obtain ⟨R, hR, hev⟩ := up (.inl e)
      refine ⟨R, hR, Ev.step (fun k => ?_) hev⟩
      simp only [beacon_Twins_tail.l1]
      rw [if_pos (by omega), if_pos (by omega), if_pos q, if_pos (by omega), if_pos (by omega), succ_w i (by omega), Int.toNat_natCast]
    · obtain ⟨b, hb, htw⟩ := twins_ev (M := M) (E := E) hu hi hn
      have e0 : ¬ (i : Int) = (u : Int) := by omega
      have q1 : (i : Int) < n := by omega
      have q2 : (0 : Int) ≤ i := by omega
      have q3 : (i : Int) < s.length := by omega
      cases hbb : b with
      | true =>
        obtain ⟨R, hR, hev⟩ := up (.inr (htw hbb))
        rw [hbb] at hb
        refine ⟨R, hR, Ev.step (f := fun k => (beacon_graph_twins.f k (Gr n E M) (u : Int) (i : Int)).bind fun t118 => if t118 = true then beacon_Twins_tail.l1 k n (Gr n E M) out (s.set i true) u (c ++ [(i : Int)]) ((i + 1 : Nat) : Int) n u else beacon_Twins_tail.l1 k n (Gr n E M) out s u c ((i + 1 : Nat) : Int) n u) (fun k => ?_) (Ev.bind hb (ev_pos rfl hev))⟩
        simp only [beacon_Twins_tail.l1]
        simp only [if_pos q1, if_neg e0, if_pos q, if_pos q2, if_pos q3, succ_w i (by omega), Int.toNat_natCast]
      | false =>
        obtain ⟨R, hR, hev⟩ := tw_l1 hu hn ho hoc cont d (i + 1) c s (by omega) hs (Ris.up (by omega) hc) hcm
        rw [hbb] at hb
        refine ⟨R, hR, Ev.step (f := fun k => (beacon_graph_twins.f k (Gr n E M) (u : Int) (i : Int)).bind fun t118 => if t118 = true then beacon_Twins_tail.l1 k n (Gr n E M) out (s.set i true) u (c ++ [(i : Int)]) ((i + 1 : Nat) : Int) n u else beacon_Twins_tail.l1 k n (Gr n E M) out s u c ((i + 1 : Nat) : Int) n u) (fun k => ?_) (Ev.bind hb (ev_neg (by decide) hev))⟩
        simp only [beacon_Twins_tail.l1]
        simp only [if_pos q1, if_neg e0, if_pos q, if_pos q2, if_pos q3, succ_w i (by omega), Int.toNat_natCast]
theorem tw_l0 (hn : n ≤ 10) : ∀ (d u : Nat) (out : List (List Int)) (s : List Bool), u + d = n → s.length = n → out.length ≤ u → (∀ c ∈ out, Cls n E c) → ∃ R, Good n E R ∧ Ev (fun k => beacon_Twins_tail.l0 k n (Gr n E M) out s n u) (R, 0)
  | 0, u, out, s, hd, hs, ho, hoc => by
    refine ⟨out, ⟨by omega, hoc⟩, Ev.step (f := fun _ => some (out, 0)) (fun k => ?_) (Ev.now _)⟩
    simp only [beacon_Twins_tail.l0]
    rw [if_neg (by omega)]
  | d + 1, u, out, s, hd, hs, ho, hoc => by
    by_cases h : rdOf false s (u : Int) = true
    · obtain ⟨R, hR, hev⟩ := tw_l0 hn d (u + 1) out s (by omega) hs (by omega) hoc
      refine ⟨R, hR, Ev.step (fun k => ?_) hev⟩
      simp only [beacon_Twins_tail.l0]
      rw [if_pos (by omega), if_pos (by omega), if_pos (by omega), if_pos h, succ_w u (by omega)]
    · obtain ⟨R, hR, hev⟩ := tw_l1 (M := M) (u := u) (by omega) hn ho hoc (fun out' s' h1 h2 h3 => tw_l0 hn d (u + 1) out' s' (by omega) h1 h2 h3) (n - u) u [] s (by omega) hs trivial (fun x hx => by cases hx)
      refine ⟨R, hR, Ev.step (fun k => ?_) hev⟩
      simp only [beacon_Twins_tail.l0]
      rw [if_pos (by omega), if_pos (by omega), if_pos (by omega), if_neg h]
theorem tw_pair (hs : ∀ i j, E i j = E j i) {u v w : Nat} (hu : u < n) (hv : v < n) (hw : w < n) (h1 : v = u ∨ TwP n E u v) (h2 : w = u ∨ TwP n E u w) (hne : v ≠ w) {x : Nat} (hx : x < n) (hxv : x ≠ v) (hxw : x ≠ w) : E v x = E w x := by
  by_cases e1 : v = u
  · subst e1
    rcases h2 with h2 | h2
    · exact absurd h2.symm hne
    · exact h2 x hx hxv hxw
  · have t1 : TwP n E u v := h1.resolve_left e1
    by_cases e2 : w = u
    · subst e2; exact (t1 x hx hxw hxv).symm
    · have t2 : TwP n E u w := h2.resolve_left e2
      by_cases e3 : x = u
      · subst e3
        have a1 := t2 v hv e1 hne
        have a2 := t1 w hw e2 (fun e => hne e.symm)
        rw [hs v x, a1, hs w v, ← a2, hs x w]
      · rw [← t1 x hx e3 hxv, ← t2 x hx e3 hxw]
theorem twin_wk {v w x : Nat} (h : ∀ y, y < n → y ≠ v → y ≠ w → E v y = E w y) (hxw : x ≠ w) : ∀ r, Wk n E r w x → ∃ r', r' ≤ r ∧ Wk n E r' v x
  | 0, hw => absurd (Eq.symm (show w = x from hw)) hxw
  | r + 1, ⟨y, hy, hE, hw⟩ => by
    by_cases e1 : y = v
    · subst e1; exact ⟨r, by omega, hw⟩
    · by_cases e2 : y = w
      · subst e2
        obtain ⟨r', h1, h2⟩ := twin_wk h hxw r hw
        exact ⟨r', by omega, h2⟩
      · exact ⟨r + 1, Nat.le_refl _, y, hy, by rw [h y hy e1 e2]; exact hE, hw⟩
theorem twin_le (hM : Met n E M) {v w x : Nat} (hv : v < n) (hw : w < n) (hx : x < n) (h : ∀ y, y < n → y ≠ v → y ≠ w → E v y = E w y) (hxw : x ≠ w) : M v x ≤ M w x := by
  obtain ⟨r', h1, h2⟩ := twin_wk h hxw _ (hM.fl.wk w x hw hx (hM.lt w x hw hx))
  have := hM.fl.le_walk r' v x hv hx h2
  have := hM.pos hw hx
  omega
theorem cls_one (hM : Met n E M) {c m : List Int} (hc : Cls n E c) (hm : Ris n 0 m) (hr : resP n M m = true) {v w : Nat} (hv : (v : Int) ∈ c) (hw : (w : Int) ∈ c) (hne : v ≠ w) : (v : Int) ∈ m ∨ (w : Int) ∈ m := by
  obtain ⟨h1, _, u, hu, hcm⟩ := hc
  have bv := ris_mem (Int.le_refl _) h1 v hv
  have bw := ris_mem (Int.le_refl _) h1 w hw
  obtain ⟨a, ha, hd⟩ := res_ne hr (x := v) (y := w) (by omega) (by omega) hne
  have ba := ris_mem (Int.le_refl _) hm a ha
  obtain ⟨A, rfl⟩ : ∃ A : Nat, a = A := ⟨a.toNat, by omega⟩
  rw [Int.toNat_natCast] at hd
  by_cases e1 : A = v
  · subst e1; exact .inl ha
  · by_cases e2 : A = w
    · subst e2; exact .inr ha
    · have tw : ∀ y, y < n → y ≠ v → y ≠ w → E v y = E w y := fun y hy h1 h2 => tw_pair hM.es hu (by omega) (by omega) (hcm v hv) (hcm w hw) hne hy h1 h2
      have l1 := twin_le hM (v := v) (w := w) (x := A) (by omega) (by omega) (by omega) tw e2
      have l2 := twin_le hM (v := w) (w := v) (x := A) (by omega) (by omega) (by omega) (fun y hy h1 h2 => (tw y hy h2 h1).symm) e1
      omega
theorem cls_count (hM : Met n E M) {c m : List Int} (hc : Cls n E c) (hm : Ris n 0 m) (hr : resP n M m = true) {T U : Nat} (hT : T < 1024) (hU : U < 1024) (eT : memI T = c) (eU : memI U = m) : c.length ≤ (memI (T &&& U)).length + 1 := by
  have hTU : T &&& U < 1024 := Nat.lt_of_le_of_lt Nat.and_le_left hT
  have hin : ∀ x ∈ c, x ∈ m → x ∈ memI (T &&& U) := fun x h1 h2 => by
    have b := ris_mem (Int.le_refl _) hm x h2
    obtain ⟨X, rfl⟩ : ∃ X : Nat, x = X := ⟨x.toNat, by omega⟩
    rw [← eT, memI_mem hT] at h1
    rw [← eU, memI_mem hU] at h2
    rw [memI_mem hTU, Nat.testBit_and, h1, h2]; rfl
  have hnd := ris_nodup hc.1
  by_cases hz : ∃ z ∈ c, z ∉ m
  · obtain ⟨z, hz1, hz2⟩ := hz
    have := nodup_sub c (z :: memI (T &&& U)) hnd fun x hx => by
      by_cases e : x = z
      · subst e; simp
      · have bz := ris_mem (Int.le_refl _) hc.1 z hz1
        have bx := ris_mem (Int.le_refl _) hc.1 x hx
        obtain ⟨Z, rfl⟩ : ∃ Z : Nat, z = Z := ⟨z.toNat, by omega⟩
        obtain ⟨X, rfl⟩ : ∃ X : Nat, x = X := ⟨x.toNat, by omega⟩
        rcases cls_one hM hc hm hr hx hz1 (fun e2 => e (by rw [e2])) with h | h
        · exact List.mem_cons_of_mem _ (hin _ hx h)
        · exact absurd h hz2
    simpa using this
  · have := nodup_sub c (memI (T &&& U)) hnd fun x hx => hin x hx (by
      by_cases h : x ∈ m
      · exact h
      · exact absurd ⟨x, hx, h⟩ hz)
    omega
end
theorem twins_all {n : Nat} {l : List S47} (hr : readOk (n : Int) l = true) (hn : n ≤ 10) : ∃ R, Good n (edE l) R ∧ Ev (fun k => beacon_Twins.f k n l) (R, 0) := by
  obtain ⟨R, hR, hev⟩ := tw_l0 (E := edE l) (M := finalM n l) hn n 0 [] (List.replicate n false) (by omega) (by simp) (by simp) (fun c hc => by cases hc)
  refine ⟨R, hR, ?_⟩
  unfold beacon_Twins.f
  refine ev_pos hr ?_
  unfold beacon_Twins_tail.f
  refine ev_pos (by omega) (ev_pos (by rw [Int.toNat_natCast]; omega) ?_)
  rw [Int.toNat_natCast]
  exact hev
section
variable {n : Nat} {l : List S47} {G : List (List Int)} {m : List Int}
theorem tlaw_l1 (hM : Met n (edE l) (finalM n l)) (hn : n ≤ 10) (hG : Good n (edE l) G) (hm : Ris n 0 m) {S : List (List Int)} {b : Nat} (hb : b ≤ 10) {r : Bool}
    (hev : Ev (fun k => wogglelaw07_BeaconTwins.l0 k n l G S 2 ((b + 1 : Nat) : Int)) r) : ∀ (d i : Nat), i + d = G.length → Ev (fun k => wogglelaw07_BeaconTwins.l1 k n l G m (resP n (finalM n l) m) (i : Int) S 2 b) r
  | 0, i, hd => by
    have : Ev (fun k => wogglelaw07_BeaconTwins.j3 k n l G m (resP n (finalM n l) m) (i : Int) S 2 b false) r := by
      refine Ev.step (fun k => ?_) hev
      simp only [wogglelaw07_BeaconTwins.j3]
      rw [if_neg (by decide), succ_w b (by omega)]
    refine Ev.step (fun k => ?_) this
    simp only [wogglelaw07_BeaconTwins.l1]
    rw [if_neg (by omega)]
  | d + 1, i, hd => by
    have hG10 := hG.1
    have hi : i < G.length := by omega
    have hj : Ev (fun k => wogglelaw07_BeaconTwins.j3 k n l G m (resP n (finalM n l) m) (i : Int) S 2 b (resP n (finalM n l) m)) r := by
      by_cases hr : resP n (finalM n l) m = true
      · have hc := hG.2 G[i] (List.getElem_mem hi)
        have e0 : rd_L5 G (i : Int) = G[i] := by unfold rd_L5; simp [hi]
        obtain ⟨T, hT, eT, hTev⟩ := bits_nat hn hc.1
        obtain ⟨U, hU, eU, hUev⟩ := bits_nat hn hm
        have hTU : T &&& U < 1024 := Nat.lt_of_le_of_lt Nat.and_le_left hT
        have hcount := cls_count hM hc hm hr hT hU eT eU
        have hlen := ris_len hc.1 (by omega)
        have hlc : (memI (T &&& U)).length ≤ 10 := by
          unfold memI
          have := List.length_filter_le (fun x : Int => (T &&& U).testBit x.toNat) (fullL 10)
          simpa [fullL] using this
        have hsz : Ev (fun k => woggleref06_Size.f k (Go.bits .and .i64 (T : Int) (U : Int))) ((memI (T &&& U)).length : Int) := by
          rw [and_nat (by omega) (by omega)]
          unfold woggleref06_Size.f
          exact Ev.bind (Ev.mono_at (woggleref01_Members.mono _) (eq_of_beq (List.all_eq_true.1 members_is (T &&& U) (List.mem_range.2 hTU)))) (Ev.now _)
        have q1 : (0 : Int) ≤ i := by omega
        have q2 : (i : Int) < (G.length : Int) := by omega
        refine Ev.step (f := fun k => (woggleref01_Rising.f k n G[i]).bind fun t636 => (if t636 = true then (if ((G[i]).length : Int) < 2 then (some false) else ((woggleref01_Bits.f k G[i]).bind fun t640 => ((woggleref01_Bits.f k m).bind fun t641 => ((woggleref06_Size.f k (Go.bits .and .i64 t640 t641)).bind fun t642 => (if (wrap64 (((G[i]).length : Int) - t642)) > 1 then (some false) else (wogglelaw07_BeaconTwins.l1 k n l G m (resP n (finalM n l) m) ((i + 1 : Nat) : Int) S 2 b)))))) else (some false))) (fun k => ?_) ?_
        · simp only [wogglelaw07_BeaconTwins.j3]
          rw [if_pos hr, if_pos q1, if_pos q2, e0, succ_w i (by omega)]
        · refine Ev.bind (rising_ev hn hc.1).1 ?_
          simp only [if_true]
          have h2 := hc.2.1
          refine ev_neg (by omega) (Ev.bind hTev (Ev.bind hUev (Ev.bind hsz ?_)))
          refine ev_neg ?_ (tlaw_l1 hM hn hG hm hb hev d (i + 1) (by omega))
          rw [IntWalk.wrap64_in _ (by omega)]
          omega
      · refine Ev.step (fun k => ?_) hev
        simp only [wogglelaw07_BeaconTwins.j3]
        rw [if_neg hr, succ_w b (by omega)]
    refine Ev.step (fun k => ?_) hj
    simp only [wogglelaw07_BeaconTwins.l1]
    rw [if_pos (by omega)]
theorem tlaw_l0 {l : List S47} (hr : readOk (n : Int) l = true) (hn : n ≤ 10) (hG : Good n (edE l) G) {p m : List Int} (hp : Ris n 0 p) (hm : Ris n 0 m) :
    ∀ (d b : Nat), b + d = 2 → Ev (fun k => wogglelaw07_BeaconTwins.l0 k n l G [p, m] 2 (b : Int)) true
  | 0, b, hd => by
    refine Ev.step (f := fun _ => some true) (fun k => ?_) (Ev.now _)
    simp only [wogglelaw07_BeaconTwins.l0]
    rw [if_neg (by omega)]
  | d + 1, b, hd => by
    have hb : b < 2 := by omega
    have hx : Ris n 0 (rd_L5 [p, m] (b : Int)) := by
      rcases (by omega : b = 0 ∨ b = 1) with rfl | rfl
      · exact hp
      · exact hm
    generalize hX : rd_L5 [p, m] (b : Int) = X at hx
    refine Ev.step (f := fun k => (beacon_Resolves.f k n l X).bind fun bt633 => (if bt633.2 = 0 then (wogglelaw07_BeaconTwins.l1 k n l G X bt633.1 0 [p, m] 2 b) else (some false))) (fun k => ?_) ?_
    · simp only [wogglelaw07_BeaconTwins.l0]
      rw [if_pos (by omega), if_pos (by omega), if_pos (by simp; omega), hX]
    · refine Ev.bind (resolves_ev hr hn hx) ?_
      simp only [if_true]
      exact tlaw_l1 (met_of hr) hn hG hx (by omega) (tlaw_l0 hr hn hG hp hm d (b + 1) (by omega)) G.length 0 (by omega)
end
theorem BeaconTwins : wogglelaw07_BeaconTwins.Pure := by
  intro l0 a1 hl0 ha1
  obtain ⟨N, l, hm, hev⟩ := made_ev (x := l0) (fun e he => u8_pair (hl0.2 e he))
  have hr := hm.readOk
  have hn := hm.n10
  obtain ⟨p, hp, hp1, hp2, hp3⟩ := basis_ex hr
  obtain ⟨m, hmr, hmev⟩ := marks_ev hn ha1
  obtain ⟨G, hG, hGev⟩ := twins_all hr hn
  have hj0 : Ev (fun k => wogglelaw07_BeaconTwins.j0 k a1 N l G p false) true := by
    refine Ev.step (f := fun k => (wogglelaw07_marks.f k N a1).bind fun t626 => wogglelaw07_BeaconTwins.l0 k N l G [p, t626] 2 0) (fun k => ?_) (Ev.bind hmev (tlaw_l0 hr hn hG hp2 hmr 2 0 rfl))
    simp only [wogglelaw07_BeaconTwins.j0]
    rw [if_neg (by decide)]
    rfl
  have key : Ev (fun k => wogglelaw07_BeaconTwins.f k l0 a1) true := by
    unfold wogglelaw07_BeaconTwins.f
    refine Ev.bind hev (Ev.bind hGev ?_)
    simp only [hp, Option.bind_some, if_true]
    refine Ev.bind (rising_ev hn hp2).1 ?_
    simp only [if_true]
    exact Ev.bind lives_ev hj0
  obtain ⟨K, h⟩ := key
  exact ⟨K, h K (Nat.le_refl _)⟩
end Go.Proofs.YtbeimdngghedjaaDoor.Pure
