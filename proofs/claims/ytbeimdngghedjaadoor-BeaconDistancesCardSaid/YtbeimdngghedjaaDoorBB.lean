/- The contracts of beacon.Basis and beacon.Double, and what their search finds. -/
import Derived.Test.YtbeimdngghedjaaDoorBQ
import Derived.Test.YtbeimdngghedjaaDoorBG
namespace Go.Proofs.YtbeimdngghedjaaDoor.P
set_option linter.unusedVariables false
set_option linter.unusedSimpArgs false
open Go Go.RowKit Go.Proofs.YtbeimdngghedjaaDoor.Pure Go.Proofs.YtbeimdngghedjaaDoorW.PrintWords Go.Proofs.YtbeimdngghedjaaDoorW.PrintLast Go.Proofs.YtbeimdngghedjaaDoorW.PrintMore

theorem finalM_bd {n : Nat} (hn : 1 ≤ n) (l : List S47) : Bd n (finalM n l) := Bd.foldl (fun M j h => h.flK j) _ _ (edM_bd n hn l)
/-- Rising numbers from lo to n - 1. -/
def Ris (n : Int) : Int → List Int → Prop
  | _, [] => True
  | lo, x :: s => lo ≤ x ∧ x < n ∧ Ris n (x + 1) s
theorem tryF_some {F : List Int → Option (List Int)} {l : List Int} : ∀ {d : Nat} {v : Int} {r : List Int}, tryF F l d v = some r → ∃ x, v ≤ x ∧ x < v + d ∧ F (l ++ [x]) = some r ∧ ∀ y, v ≤ y → y < x → F (l ++ [y]) = none
  | 0, v, r, h => by cases h
  | d + 1, v, r, h => by
    simp only [tryF] at h
    cases hf : F (l ++ [v]) with
    | some q =>
      rw [hf] at h
      obtain rfl := Option.some.inj h
      exact ⟨v, by omega, by omega, hf, fun y h1 h2 => by omega⟩
    | none =>
      rw [hf] at h
      obtain ⟨x, h1, h2, h3, h4⟩ := tryF_some h
      refine ⟨x, by omega, by omega, h3, fun y hy1 hy2 => ?_⟩
      by_cases e : y = v
      · subst e; exact hf
      · exact h4 y (by omega) hy2
theorem tryF_none {F : List Int → Option (List Int)} {l : List Int} : ∀ {d : Nat} {v : Int}, tryF F l d v = none → ∀ y, v ≤ y → y < v + d → F (l ++ [y]) = none
  | 0, v, h, y, h1, h2 => by omega
  | d + 1, v, h, y, h1, h2 => by
    simp only [tryF] at h
    cases hf : F (l ++ [v]) with
    | some q => rw [hf] at h; cases h
    | none =>
      rw [hf] at h
      by_cases e : y = v
      · subst e; exact hf
      · exact tryF_none h y (by omega) (by omega)
theorem findF_sound {p : List Int → Bool} {n : Nat} : ∀ {k : Nat} {l r : List Int}, findF p n k l = some r → p r = true ∧ ∃ s, r = l ++ s ∧ s.length = k ∧ Ris n (fromI l) s
  | 0, l, r, h => by
    simp only [findF] at h
    by_cases hp : p l = true
    · rw [if_pos hp] at h
      obtain rfl := Option.some.inj h
      exact ⟨hp, [], by simp, rfl, trivial⟩
    · rw [if_neg hp] at h; cases h
  | k + 1, l, r, h => by
    simp only [findF] at h
    obtain ⟨x, h1, h2, h3, _⟩ := tryF_some h
    obtain ⟨hp, s, rfl, hs, hr⟩ := findF_sound h3
    rw [fromI_snoc] at hr
    exact ⟨hp, x :: s, by simp, by simp [hs], h1, by omega, hr⟩
theorem findF_complete {p : List Int → Bool} {n : Nat} : ∀ {k : Nat} {l s : List Int}, s.length = k → Ris n (fromI l) s → p (l ++ s) = true → ∃ r, findF p n k l = some r
  | 0, l, s, hs, _, hp => by
    obtain rfl : s = [] := List.eq_nil_of_length_eq_zero hs
    rw [List.append_nil] at hp
    exact ⟨l, by simp only [findF]; rw [if_pos hp]⟩
  | k + 1, l, s, hs, hr, hp => by
    cases s with
    | nil => simp at hs
    | cons x s =>
      obtain ⟨h1, h2, h3⟩ := hr
      cases ht : tryF (findF p n k) l ((n : Int) - fromI l).toNat (fromI l) with
      | some r => exact ⟨r, ht⟩
      | none =>
        have h0 := tryF_none ht x h1 (by omega)
        obtain ⟨r, hr⟩ := findF_complete (p := p) (l := l ++ [x]) (s := s) (by simpa using hs) (by rw [fromI_snoc]; exact h3) (by simpa using hp)
        rw [h0] at hr; cases hr
theorem smallF_some {p : List Int → Bool} {n : Nat} : ∀ {K k : Nat} {r : List Int}, smallF p n K k = some r → ∃ j, k ≤ j ∧ j < k + K ∧ findF p n j [] = some r ∧ ∀ i, k ≤ i → i < j → findF p n i [] = none
  | 0, k, r, h => by cases h
  | K + 1, k, r, h => by
    simp only [smallF] at h
    cases hf : findF p n k [] with
    | some q =>
      rw [hf] at h
      obtain rfl := Option.some.inj h
      exact ⟨k, by omega, by omega, hf, fun i h1 h2 => by omega⟩
    | none =>
      rw [hf] at h
      obtain ⟨j, h1, h2, h3, h4⟩ := smallF_some h
      refine ⟨j, by omega, by omega, h3, fun i hi1 hi2 => ?_⟩
      by_cases e : i = k
      · subst e; exact hf
      · exact h4 i (by omega) hi2
theorem smallF_ex {p : List Int → Bool} {n : Nat} : ∀ {K k j : Nat} {r : List Int}, k ≤ j → j < k + K → findF p n j [] = some r → ∃ q, smallF p n K k = some q
  | 0, k, j, r, h1, h2, _ => by omega
  | K + 1, k, j, r, h1, h2, h => by
    simp only [smallF]
    cases hf : findF p n k [] with
    | some q => exact ⟨q, rfl⟩
    | none =>
      have : k ≠ j := fun e => by subst e; rw [hf] at h; cases h
      exact smallF_ex (j := j) (by omega) (by omega) h
/-- The result: good, rising, and none that is good has fewer. -/
theorem smallF_least {p : List Int → Bool} {n : Nat} {r : List Int} (h : smallF p n 11 0 = some r) : p r = true ∧ Ris n 0 r ∧ ∀ s, Ris n 0 s → p s = true → r.length ≤ s.length := by
  obtain ⟨j, _, hj, hf, hmin⟩ := smallF_some h
  obtain ⟨hp, s, es, hs, hr⟩ := findF_sound hf
  obtain rfl : r = s := es
  refine ⟨hp, hr, fun t ht hpt => ?_⟩
  rcases Nat.lt_or_ge t.length r.length with hlt | hge
  · obtain ⟨q, hq⟩ := findF_complete (p := p) (n := n) (l := []) (s := t) rfl ht (by simpa using hpt)
    rw [hmin t.length (Nat.zero_le _) (by omega)] at hq; cases hq
  · exact hge
/-- All vertices. -/
def fullL (n : Nat) : List Int := (List.range n).map fun i : Nat => (i : Int)
theorem ris_from (n : Nat) : ∀ (d a : Nat), a + d = n → Ris n a ((List.range' a d).map fun i : Nat => (i : Int))
  | 0, a, _ => trivial
  | d + 1, a, h => by
    rw [List.range'_succ, List.map_cons]
    exact ⟨Int.le_refl _, by omega, ris_from n d (a + 1) (by omega)⟩
theorem ris_full (n : Nat) : Ris n 0 (fullL n) := by
  unfold fullL
  rw [List.range_eq_range']
  exact ris_from n n 0 (by omega)
theorem small_ex {p : List Int → Bool} {n : Nat} (hn : n ≤ 10) (hp : p (fullL n) = true) : ∃ r, smallF p n 11 0 = some r := by
  obtain ⟨r, hr⟩ := findF_complete (p := p) (n := n) (k := n) (l := []) (s := fullL n) (by simp [fullL]) (ris_full n) (by simpa using hp)
  exact smallF_ex (j := n) (Nat.zero_le _) (by omega) hr
theorem good_res {n : Nat} (l : List S47) (hn : n ≤ 10) (B : Option Addr) (w : World) (hg : Kd.C k82 w B 1 [graphOf n l]) (hd : Door w) : GoodFn 47 B (resP n (finalM n l)) n w := by
  intro W A c m hb hr hc hx hl
  obtain ⟨K, hk⟩ := res_ev (E := edE l) (M := finalM n l) hn (m := m) ⟨by omega, hx⟩
  exact beacon_graph_resolves.calls K B 1 [graphOf n l] A c m _ W (Kd.C_below hg hb) (by simp) hr hc (hd.below hb) (hk K (Nat.le_refl _))
theorem good_dbl {n : Nat} (l : List S47) (h1 : 1 ≤ n) (hn : n ≤ 10) (B : Option Addr) (w : World) (hg : Kd.C k82 w B 1 [graphOf n l]) : GoodFn 49 B (dblP n (finalM n l)) n w := by
  intro W A c m hb hr hc hx hl
  obtain ⟨K, hk⟩ := dbl_ev (E := edE l) (M := finalM n l) hn (m := m) ⟨by omega, hx⟩ (finalM_bd h1 l)
  exact beacon_graph_doubly.calls K B 1 [graphOf n l] A c m _ W (Kd.C_below hg hb) (by simp) hr hc (hk K (Nat.le_refl _))
/-- What Basis answers. -/
def beacon_Basis.f (a0 : Int) (l1 : List S47) : Option (List Int × Int) := if readOk a0 l1 = true then (smallF (resP a0.toNat (finalM a0.toNat l1)) a0.toNat 11 0).map fun r => (r, 0) else some ([], 1)
/-- What Double answers. -/
def beacon_Double.f (a0 : Int) (l1 : List S47) : Option (List Int × Int) := if readOk a0 l1 = true then (smallF (dblP a0.toNat (finalM a0.toNat l1)) a0.toNat 11 0).map fun r => (r, 0) else some ([], 1)
set_option maxRecDepth 100000 in
set_option maxHeartbeats 4000000 in
theorem beacon_Basis.calls (a0 : Int) (A1 : Option Addr) (c1 : Nat) (l1 : List S47) (r1 : List Int) (r2 : Int) (w : World) (hr1 : Kd.C k47 w A1 l1.length l1) (hc1 : l1.length ≤ c1) (hdoor : Door w) (h : beacon_Basis.f a0 l1 = some (r1, r2)) :
    Calls Tryd.prog 17 #[.int .i64 a0, .slice A1 l1.length c1] w fun e w' => ∃ v0_ : Value, e = .returned (.tuple #[v0_, .int .i64 r2]) ∧ Kd.R (Kd.int .i64) 3 w' w.heap.size (fun _ => True) v0_ r1 ∧ Below w.heap.size w w' := by
  have HRD := Aside0.mk (read_calls a0 A1 c1 l1 w hr1 hc1)
  have HD := Aside0.mk hdoor
  unfold beacon_Basis.f at h
  cases ho : readOk a0 l1 with
  | false =>
    rw [ho] at HRD h
    rw [if_neg (by decide)] at h
    obtain ⟨rfl, rfl⟩ : [] = r1 ∧ (1 : Int) = r2 := by simpa using h
    clear h ho hr1 hc1 hdoor
    go_enter Tryd.func17, Tryd.ntmps17
    go_wp2_with (fail)
    refine HRD.out.mono ?_
    rintro e w1 ⟨B, rfl, hb, _⟩
    clear HRD
    go_wp2
    go_ret2
    exact ⟨_, rfl, Kd.R_nil _ _ _ _ _, hb⟩
  | true =>
    rw [ho] at HRD h
    rw [if_pos rfl] at h
    obtain ⟨q, hq, he⟩ := Option.map_eq_some_iff.1 h
    obtain ⟨rfl, rfl⟩ : q = r1 ∧ (0 : Int) = r2 := by simpa using he
    have HQ := Aside0.mk hq
    clear h he ho hr1 hc1 hdoor hq
    go_enter Tryd.func17, Tryd.ntmps17
    go_wp2_with (fail)
    refine HRD.out.mono ?_
    rintro e w1 ⟨B, rfl, hb, hG⟩
    obtain ⟨g1, g2, hg⟩ := hG (by trivial)
    have HB := Aside0.mk hb
    have HS := Aside0.mk (smallest_calls _ 47 (Go.Proofs.enters_of Tryd.func47 (by kernel_rfl) rfl) a0.toNat w1 B (good_res l1 (by omega) B w1 hg (HD.out.below hb)) [graphOf a0.toNat l1] (by omega) hg rfl q HQ.out)
    clear hb hG hg HRD HQ
    go_wp2_with (fail)
    refine HS.out.mono ?_
    rintro e w2 ⟨v, rfl, hv, hb2⟩
    clear HS
    go_wp2
    go_ret2
    exact ⟨v, rfl, Kd.R_lower (Kd.R_of_own hv (fun _ _ => trivial)) HB.out.size, HB.out.trans (hb2.mono HB.out.size)⟩
set_option maxRecDepth 100000 in
set_option maxHeartbeats 4000000 in
theorem beacon_Double.calls (a0 : Int) (A1 : Option Addr) (c1 : Nat) (l1 : List S47) (r1 : List Int) (r2 : Int) (w : World) (hr1 : Kd.C k47 w A1 l1.length l1) (hc1 : l1.length ≤ c1) (h : beacon_Double.f a0 l1 = some (r1, r2)) :
    Calls Tryd.prog 18 #[.int .i64 a0, .slice A1 l1.length c1] w fun e w' => ∃ v0_ : Value, e = .returned (.tuple #[v0_, .int .i64 r2]) ∧ Kd.R (Kd.int .i64) 3 w' w.heap.size (fun _ => True) v0_ r1 ∧ Below w.heap.size w w' := by
  have HRD := Aside0.mk (read_calls a0 A1 c1 l1 w hr1 hc1)
  unfold beacon_Double.f at h
  cases ho : readOk a0 l1 with
  | false =>
    rw [ho] at HRD h
    rw [if_neg (by decide)] at h
    obtain ⟨rfl, rfl⟩ : [] = r1 ∧ (1 : Int) = r2 := by simpa using h
    clear h ho hr1 hc1
    go_enter Tryd.func18, Tryd.ntmps18
    go_wp2_with (fail)
    refine HRD.out.mono ?_
    rintro e w1 ⟨B, rfl, hb, _⟩
    clear HRD
    go_wp2
    go_ret2
    exact ⟨_, rfl, Kd.R_nil _ _ _ _ _, hb⟩
  | true =>
    rw [ho] at HRD h
    rw [if_pos rfl] at h
    obtain ⟨q, hq, he⟩ := Option.map_eq_some_iff.1 h
    obtain ⟨rfl, rfl⟩ : q = r1 ∧ (0 : Int) = r2 := by simpa using he
    have HQ := Aside0.mk hq
    clear h he ho hr1 hc1 hq
    go_enter Tryd.func18, Tryd.ntmps18
    go_wp2_with (fail)
    refine HRD.out.mono ?_
    rintro e w1 ⟨B, rfl, hb, hG⟩
    obtain ⟨g1, g2, hg⟩ := hG (by trivial)
    have HB := Aside0.mk hb
    have HS := Aside0.mk (smallest_calls _ 49 (Go.Proofs.enters_of Tryd.func49 (by kernel_rfl) rfl) a0.toNat w1 B (good_dbl l1 (by omega) (by omega) B w1 hg) [graphOf a0.toNat l1] (by omega) hg rfl q HQ.out)
    clear hb hG hg HRD HQ
    go_wp2_with (fail)
    refine HS.out.mono ?_
    rintro e w2 ⟨v, rfl, hv, hb2⟩
    clear HS
    go_wp2
    go_ret2
    exact ⟨v, rfl, Kd.R_lower (Kd.R_of_own hv (fun _ _ => trivial)) HB.out.size, HB.out.trans (hb2.mono HB.out.size)⟩
end Go.Proofs.YtbeimdngghedjaaDoor.P
