/- A graph with its vertices renamed has landmarks as few: for all graphs that are derived. -/
import Derived.Test.YtbeimdngghedjaaDoorPF5
import Derived.Test.YtbeimdngghedjaaDoorBO
import Derived.Test.YtbeimdngghedjaaDoorBL
import Derived.Test.YtbeimdngghedjaaDoorBE
namespace Go.Proofs.YtbeimdngghedjaaDoor.Pure
open Go Go.Proofs Go.RowKit Go.Proofs.YtbeimdngghedjaaDoor.P Go.Proofs.YtbeimdngghedjaaDoorW.PrintWords Go.Proofs.YtbeimdngghedjaaDoorW.PrintLast
set_option linter.unusedVariables false
/-- One edge renamed, its ends swapped. -/
def renE (n b : Nat) (e : S47) : S47 := ⟨(((e.f1.toNat + b) % n : Nat) : Int), (((e.f0.toNat + b) % n : Nat) : Int)⟩
theorem tmod_ren {n b : Nat} (h1 : 1 ≤ n) (hn : n ≤ 10) (hb : b < 256) {x : Int} (h0 : 0 ≤ x) (hx : x < n) : Int.tmod (wrap64 (x + wrap64 (b : Int))) (n : Int) = (((x.toNat + b) % n : Nat) : Int) := by
  rw [IntWalk.wrap64_in (b : Int) (by omega), IntWalk.wrap64_in _ (by omega), Int.tmod_eq_emod_of_nonneg (by omega)]
  obtain ⟨X, rfl⟩ : ∃ X : Nat, x = X := ⟨x.toNat, by omega⟩
  rw [Int.toNat_natCast]
  first | rfl | norm_cast | (rw [Int.natCast_emod, Int.natCast_add])
theorem ren_l0 {n b : Nat} (h1 : 1 ≤ n) (hn : n ≤ 10) (hb : b < 256) (l : List S47) (hl : l.length ≤ 60) (hok : l.all (edOk n) = true) (r : Bool)
    (hend : Ev (fun k => (beacon_Basis.f n l).bind fun bt362 => ((beacon_Basis.f n (l.map (renE n b))).bind fun bt366 => ((beacon_Double.f n l).bind fun bt370 => ((beacon_Double.f n (l.map (renE n b))).bind fun bt374 => (if bt362.2 = 0 then (if bt366.2 = 0 then (if bt370.2 = 0 then (if bt374.2 = 0 then (if (bt362.1.length : Int) = (bt366.1.length : Int) then (if (bt370.1.length : Int) = (bt374.1.length : Int) then ((wogglelaw07_lives.f k).bind fun t378 => (some t378)) else (some false)) else (some false)) else (some false)) else (some false)) else (some false)) else (some false)))))) r) :
    ∀ (d i : Nat), i + d = l.length → Ev (fun k => wogglelaw07_BeaconRenamed.l0 k (b : Int) (n : Int) l ((l.take i).map (renE n b)) (i : Int)) r
  | 0, i, hd => by
    obtain rfl : i = l.length := by omega
    rw [List.take_length]
    refine Ev.step (fun k => ?_) hend
    simp only [wogglelaw07_BeaconRenamed.l0]
    rw [if_neg (by omega)]
  | d + 1, i, hd => by
    have hi : i < l.length := by omega
    refine Ev.step (fun k => ?_) (ren_l0 h1 hn hb l hl hok r hend d (i + 1) (by omega))
    simp only [wogglelaw07_BeaconRenamed.l0]
    obtain ⟨_, q1, q2, q3, q4⟩ := edOk_ne hok l[i] (List.getElem_mem hi)
    have e0 : rd_T47 l (i : Int) = l[i] := by unfold rd_T47; simp [hi]
    rw [if_pos (by omega), if_pos (by omega), if_neg (by omega), if_pos (by simp; omega), e0, tmod_ren h1 hn hb q4 (by omega), tmod_ren h1 hn hb q3 (by omega), succ_w i (by omega)]
    have : (l.take i).map (renE n b) ++ [renE n b l[i]] = (l.take (i + 1)).map (renE n b) := by
      rw [List.take_succ_eq_append_getElem hi, List.map_append]; rfl
    rw [← this]; rfl
theorem mod_back {n b v : Nat} (h1 : 1 ≤ n) (hv : v < n) : ((v + b) % n + (n - b % n)) % n = v := by
  have hb := Nat.mod_lt b (show 0 < n by omega)
  rw [Nat.add_mod v b n, Nat.mod_eq_of_lt hv]
  generalize b % n = c at hb ⊢
  by_cases h : v + c < n
  · rw [Nat.mod_eq_of_lt h, show v + c + (n - c) = v + n by omega, Nat.add_mod_right, Nat.mod_eq_of_lt hv]
  · have e : (v + c) % n = v + c - n := by rw [Nat.mod_eq_sub_mod (by omega), Nat.mod_eq_of_lt (by omega)]
    rw [e, show v + c - n + (n - c) = v by omega, Nat.mod_eq_of_lt hv]
theorem mod_forth {n b v : Nat} (h1 : 1 ≤ n) (hv : v < n) : ((v + (n - b % n)) % n + b) % n = v := by
  have hb := Nat.mod_lt b (show 0 < n by omega)
  rw [Nat.add_mod _ b n, Nat.mod_mod]
  generalize b % n = c at hb ⊢
  by_cases h : v + (n - c) < n
  · rw [Nat.mod_eq_of_lt h, show v + (n - c) + c = v + n by omega, Nat.add_mod_right, Nat.mod_eq_of_lt hv]
  · have e : (v + (n - c)) % n = v + (n - c) - n := by rw [Nat.mod_eq_sub_mod (by omega), Nat.mod_eq_of_lt (by omega)]
    rw [e, show v + (n - c) - n + c = v by omega, Nat.mod_eq_of_lt hv]
theorem ren_edge {n b : Nat} {l : List S47} (i j : Nat) : edE (l.map (renE n b)) i j = true ↔ ∃ x y, edE l x y = true ∧ (∃ e ∈ l, (x = e.f0.toNat ∧ y = e.f1.toNat) ∨ (x = e.f1.toNat ∧ y = e.f0.toNat)) ∧ i = (x + b) % n ∧ j = (y + b) % n := by
  rw [edE_iff]
  constructor
  · rintro ⟨e, he, h⟩
    obtain ⟨e, he2, rfl⟩ := List.mem_map.1 he
    simp only [renE, Int.toNat_natCast] at h
    rcases h with ⟨h1, h2⟩ | ⟨h1, h2⟩
    · exact ⟨e.f1.toNat, e.f0.toNat, (edE_iff _ _ _).2 ⟨e, he2, .inr ⟨rfl, rfl⟩⟩, ⟨e, he2, .inr ⟨rfl, rfl⟩⟩, h1, h2⟩
    · exact ⟨e.f0.toNat, e.f1.toNat, (edE_iff _ _ _).2 ⟨e, he2, .inl ⟨rfl, rfl⟩⟩, ⟨e, he2, .inl ⟨rfl, rfl⟩⟩, h1, h2⟩
  · rintro ⟨x, y, _, ⟨e, he, h⟩, rfl, rfl⟩
    refine ⟨renE n b e, List.mem_map.2 ⟨e, he, rfl⟩, ?_⟩
    simp only [renE, Int.toNat_natCast]
    rcases h with ⟨rfl, rfl⟩ | ⟨rfl, rfl⟩
    · exact .inr ⟨rfl, rfl⟩
    · exact .inl ⟨rfl, rfl⟩
theorem ren_of {n b : Nat} {l : List S47} (h1 : 1 ≤ n) (hok : l.all (edOk n) = true) : Ren n (edE l) (edE (l.map (renE n b))) (fun v => (v + b) % n) (fun v => (v + (n - b % n)) % n) where
  hf := fun i _ => Nat.mod_lt _ (by omega)
  hg := fun i _ => Nat.mod_lt _ (by omega)
  gf := fun i hi => mod_back h1 hi
  fg := fun i hi => mod_forth h1 hi
  e1 := fun i j _ _ h => (ren_edge _ _).2 ⟨i, j, h, (edE_iff _ _ _).1 h, rfl, rfl⟩
  e2 := fun i j _ _ h => by
    obtain ⟨x, y, hE, ⟨e, he, hxy⟩, rfl, rfl⟩ := (ren_edge _ _).1 h
    obtain ⟨_, q1, q2, q3, q4⟩ := edOk_ne hok e he
    have hx : x < n := by omega
    have hy : y < n := by omega
    show edE l (((x + b) % n + (n - b % n)) % n) (((y + b) % n + (n - b % n)) % n) = true
    rw [mod_back h1 hx, mod_back h1 hy]; exact hE
theorem ren_all {n b : Nat} {l : List S47} (h1 : 1 ≤ n) (hok : l.all (edOk n) = true) : (l.map (renE n b)).all (edOk n) = true := by
  rw [List.all_eq_true]
  intro e he
  obtain ⟨e, he2, rfl⟩ := List.mem_map.1 he
  obtain ⟨q0, q1, q2, q3, q4⟩ := edOk_ne hok e he2
  refine edOk_mk (by omega) (by have := Nat.mod_lt (e.f1.toNat + b) (show 0 < n by omega); omega) (by omega) (by have := Nat.mod_lt (e.f0.toNat + b) (show 0 < n by omega); omega) fun hh => q0 ?_
  have h2 : (e.f1.toNat + b) % n = (e.f0.toNat + b) % n := Int.ofNat.inj hh
  have a1 := mod_back (b := b) h1 q1
  have a2 := mod_back (b := b) h1 q2
  rw [h2, a1] at a2
  exact a2
theorem BeaconRenamed : wogglelaw07_BeaconRenamed.Pure := by
  intro l0 a1 hl0 ha1
  obtain ⟨N, l, hm, hev⟩ := made_ev (x := l0) (fun e he => u8_pair (hl0.2 e he))
  obtain ⟨b0, b1⟩ := u8_of ha1
  obtain ⟨b, rfl⟩ : ∃ b : Nat, a1 = b := ⟨a1.toNat, by omega⟩
  have hR := ren_of (b := b) hm.n1 hm.ok
  have hok2 := ren_all (b := b) hm.n1 hm.ok
  have hn1 := hm.n1
  have hlen := hm.len
  have hro : readOk (N : Int) (l.map (renE N b)) = true := by
    refine readOk_mk hm.n1 hm.n10 (by simp; omega) hok2 fun j hj => ?_
    obtain ⟨r, hr⟩ := hm.walk ((0 + (N - b % N)) % N) (hR.hg 0 (by omega))
    obtain ⟨s, hs⟩ := hm.walk ((j + (N - b % N)) % N) (hR.hg j hj)
    have hw := (hr.rev (edE_sym l) (by omega)).cat hs
    have := Wk.map hR.hf hR.e1 (hR.hg 0 (by omega)) hw
    rw [hR.fg 0 (by omega), hR.fg j hj] at this
    exact ⟨_, this⟩
  have m1 := met_of hm.readOk
  have m2 := met_of hro
  obtain ⟨p, hp, hp1, hp2, hp3⟩ := basis_ex hm.readOk
  obtain ⟨p', hp', hp1', hp2', hp3'⟩ := basis_ex hro
  obtain ⟨q, hq, hq1, hq2, hq3⟩ := double_ex hm.readOk
  obtain ⟨q', hq', hq1', hq2', hq3'⟩ := double_ex hro
  have c1 : p.length = p'.length := by
    have a1 := hp3' _ (renS_ris _ _ _) (hR.res m1 m2 hp2 hp1)
    have a2 := renS_len (n := N) (f := fun v => (v + b) % N) (g := fun v => (v + (N - b % N)) % N) hR.fg p
    have a3 := hp3 _ (renS_ris _ _ _) (hR.symm.res m2 m1 hp2' hp1')
    have a4 := renS_len (n := N) (g := fun v => (v + b) % N) (f := fun v => (v + (N - b % N)) % N) hR.gf p'
    omega
  have c2 : q.length = q'.length := by
    have a1 := hq3' _ (renS_ris _ _ _) (hR.dbl m1 m2 hq2 hq1)
    have a2 := renS_len (n := N) (f := fun v => (v + b) % N) (g := fun v => (v + (N - b % N)) % N) hR.fg q
    have a3 := hq3 _ (renS_ris _ _ _) (hR.symm.dbl m2 m1 hq2' hq1')
    have a4 := renS_len (n := N) (g := fun v => (v + b) % N) (f := fun v => (v + (N - b % N)) % N) hR.gf q'
    omega
  have key : Ev (fun k => wogglelaw07_BeaconRenamed.f k l0 (b : Int)) true := by
    unfold wogglelaw07_BeaconRenamed.f
    refine Ev.bind hev ?_
    have := ren_l0 hm.n1 hm.n10 (b := b) (by omega) l (by omega) hm.ok true (by
      simp only [hp, hp', hq, hq', Option.bind_some, c1, c2, if_true]
      exact Ev.bind lives_ev (Ev.now _)) l.length 0 (by omega)
    simpa using this
  obtain ⟨K, h⟩ := key
  exact ⟨K, h K (Nat.le_refl _)⟩
end Go.Proofs.YtbeimdngghedjaaDoor.Pure
