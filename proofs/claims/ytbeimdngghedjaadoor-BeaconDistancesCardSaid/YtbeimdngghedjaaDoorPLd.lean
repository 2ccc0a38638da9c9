/- Plain facts on graphs, glued. -/
import Derived.Test.YtbeimdngghedjaaDoorBB
import Derived.Test.YtbeimdngghedjaaDoorPX16d
import Derived.Test.YtbeimdngghedjaaDoorPF52
/-! The distances as lists of lists: what a small graph's reading comes to can be reckoned. -/
namespace Go.Proofs.YtbeimdngghedjaaDoor.Pure
open Go Go.Proofs Go.RowKit Go.Proofs.YtbeimdngghedjaaDoor.P Go.Proofs.YtbeimdngghedjaaDoorW.PrintWords Go.Proofs.YtbeimdngghedjaaDoorW.PrintLast
set_option linter.unusedVariables false

def getT (L : List (List Int)) (i j : Nat) : Int := (L.getD i []).getD j 0
def setT (L : List (List Int)) (i j : Nat) (v : Int) : List (List Int) := L.set i ((L.getD i []).set j v)
theorem getT_rows (n : Nat) (M : Mt) (i j : Nat) (hi : i < n) (hj : j < n) : getT (rowsA n M) i j = M i j := by unfold getT rowsA; simp [hi, hj]
theorem rows_get (n : Nat) (M : Mt) (i : Nat) (hi : i < n) : (rowsA n M).getD i [] = (List.range n).map (M i) := by unfold rowsA; simp [hi]
theorem setT_rows (n : Nat) (M : Mt) (i j : Nat) (v : Int) (hi : i < n) (hj : j < n) : setT (rowsA n M) i j v = rowsA n (upd M i j v) := by
  unfold setT
  rw [rows_get n M i hi]
  unfold rowsA
  refine List.ext_getElem (by simp) fun a h1 h2 => ?_
  rw [List.getElem_set]
  simp only [List.getElem_map, List.getElem_range]
  have ha : a < n := by simpa using h2
  by_cases e : i = a
  · subst e
    rw [if_pos rfl]
    refine List.ext_getElem (by simp) fun b h3 h4 => ?_
    rw [List.getElem_set]
    simp only [List.getElem_map, List.getElem_range]
    unfold upd
    by_cases e2 : j = b
    · subst e2; rw [if_pos rfl, if_pos ⟨rfl, rfl⟩]
    · rw [if_neg e2, if_neg (fun h => e2 h.2.symm)]
  · rw [if_neg e]
    refine List.map_congr_left fun b _ => ?_
    unfold upd
    rw [if_neg (fun h => e h.1.symm)]
def tJ (k i : Nat) (L : List (List Int)) (j : Nat) : List (List Int) := setT L i j (mnI (getT L i j) (getT L i k + getT L k j))
def tI (n k : Nat) (L : List (List Int)) (i : Nat) : List (List Int) := (List.range n).foldl (tJ k i) L
def tK (n : Nat) (L : List (List Int)) (k : Nat) : List (List Int) := (List.range n).foldl (tI n k) L
def floydT (n : Nat) (L : List (List Int)) : List (List Int) := (List.range n).foldl (tK n) L
theorem fold_rows {n : Nat} (f : List (List Int) → Nat → List (List Int)) (g : Mt → Nat → Mt) (h : ∀ M x, x < n → f (rowsA n M) x = rowsA n (g M x)) : ∀ (l : List Nat) (M : Mt), (∀ x ∈ l, x < n) → l.foldl f (rowsA n M) = rowsA n (l.foldl g M)
  | [], _, _ => rfl
  | x :: l, M, hx => by
    rw [List.foldl_cons, List.foldl_cons, h M x (hx x List.mem_cons_self)]
    exact fold_rows f g h l (g M x) (fun y hy => hx y (List.mem_cons_of_mem _ hy))
theorem tJ_rows (n k i : Nat) (hk : k < n) (hi : i < n) (M : Mt) (j : Nat) (hj : j < n) : tJ k i (rowsA n M) j = rowsA n (flJ k i M j) := by
  unfold tJ
  rw [getT_rows n M i j hi hj, getT_rows n M i k hi hk, getT_rows n M k j hk hj, setT_rows n M i j _ hi hj]; rfl
theorem floydT_rows (n : Nat) (M : Mt) : floydT n (rowsA n M) = rowsA n (floyd n M) :=
  fold_rows _ _ (fun M k hk => fold_rows _ _ (fun M i hi => fold_rows _ _ (fun M j hj => tJ_rows n k i hk hi M j hj) _ M (fun x hx => by simpa using hx)) _ M (fun x hx => by simpa using hx)) _ M (fun x hx => by simpa using hx)
/-- What read makes of a graph whose distances were reckoned. -/
theorem final_rows {n : Nat} {l : List S47} {T : List (List Int)} (h : floydT n (rowsA n (edM n l)) = T) : rowsA n (finalM n l) = T := by rw [← h, floydT_rows]; rfl
theorem final_at {n : Nat} {l : List S47} {T : List (List Int)} (h : floydT n (rowsA n (edM n l)) = T) (i j : Nat) (hi : i < n) (hj : j < n) : finalM n l i j = getT T i j := by rw [← final_rows h, getT_rows n _ i j hi hj]
theorem codeL_congr {n : Nat} {M M' : Mt} {m : List Int} (h : ∀ i j, i < n → j < n → M i j = M' i j) (hm : ∀ x ∈ m, 0 ≤ x ∧ x < (n : Int)) (v : Nat) (hv : v < n) : codeL M v m = codeL M' v m :=
  List.map_congr_left fun x hx => h v x.toNat hv (by have := hm x hx; omega)
theorem cfV_congr {n : Nat} {M M' : Mt} {m : List Int} (h : ∀ i j, i < n → j < n → M i j = M' i j) (hm : ∀ x ∈ m, 0 ≤ x ∧ x < (n : Int)) (u : Nat) (hu : u < n) : ∀ (d v : Nat), v + d ≤ n → cfV M m u d v = cfV M' m u d v
  | 0, _, _ => rfl
  | d + 1, v, hd => by
    simp only [cfV]
    rw [codeL_congr h hm u hu, codeL_congr h hm v (by omega), cfV_congr h hm u hu d (v + 1) (by omega)]
theorem cfU_congr {n : Nat} {M M' : Mt} {m : List Int} (h : ∀ i j, i < n → j < n → M i j = M' i j) (hm : ∀ x ∈ m, 0 ≤ x ∧ x < (n : Int)) : ∀ (d u : Nat), u + d ≤ n → cfU M m n d u = cfU M' m n d u
  | 0, _, _ => rfl
  | d + 1, u, hd => by
    simp only [cfU]
    rw [cfV_congr h hm u (by omega) _ _ (by omega), cfU_congr h hm d (u + 1) (by omega)]
theorem resP_congr {n : Nat} {M M' : Mt} {m : List Int} (h : ∀ i j, i < n → j < n → M i j = M' i j) (hm : ∀ x ∈ m, 0 ≤ x ∧ x < (n : Int)) : resP n M m = resP n M' m := by
  unfold resP confF
  rw [cfU_congr h hm n 0 (by omega)]
theorem all_congr' {α : Type} {p q : α → Bool} : ∀ {l : List α}, (∀ x ∈ l, p x = q x) → l.all p = l.all q
  | [], _ => rfl
  | x :: l, h => by
    simp only [List.all_cons]
    rw [h x List.mem_cons_self, all_congr' (fun y hy => h y (List.mem_cons_of_mem _ hy))]
theorem dblP_congr {n : Nat} {M M' : Mt} {m : List Int} (h : ∀ i j, i < n → j < n → M i j = M' i j) (hm : ∀ x ∈ m, 0 ≤ x ∧ x < (n : Int)) : dblP n M m = dblP n M' m := by
  unfold dblP
  refine all_congr' fun u hu => all_congr' fun v hv => ?_
  have hun : u < n := by simpa using hu
  have hvu : v < u := by simpa using hv
  have e : difL M u v m = difL M' u v m := List.map_congr_left fun x hx => by
    have := hm x hx
    rw [h u x.toNat hun (by omega), h v x.toNat (by omega) (by omega)]
  unfold sepP
  rw [e]
theorem tryF_congr {F G : List Int → Option (List Int)} {l : List Int} {n : Int} (h : ∀ x, 0 ≤ x → x < n → F (l ++ [x]) = G (l ++ [x])) : ∀ (d : Nat) (v : Int), 0 ≤ v → v + d ≤ n → tryF F l d v = tryF G l d v
  | 0, _, _, _ => rfl
  | d + 1, v, h0, h1 => by
    simp only [tryF]
    rw [h v h0 (by omega), tryF_congr h d (v + 1) (by omega) (by omega)]
theorem findF_congr {p q : List Int → Bool} {n : Nat} (h : ∀ m : List Int, (∀ x ∈ m, 0 ≤ x ∧ x < (n : Int)) → p m = q m) : ∀ (k : Nat) (l : List Int), (∀ x ∈ l, 0 ≤ x ∧ x < (n : Int)) → findF p n k l = findF q n k l
  | 0, l, hl => by simp only [findF]; rw [h l hl]
  | k + 1, l, hl => by
    simp only [findF]
    have hf := fromI_le hl
    refine tryF_congr (n := n) (fun x hx0 hx1 => findF_congr h k (l ++ [x]) fun y hy => ?_) _ _ hf.1 (by omega)
    rcases List.mem_append.1 hy with hy | hy
    · exact hl y hy
    · obtain rfl := List.mem_singleton.1 hy; exact ⟨hx0, hx1⟩
theorem smallF_congr {p q : List Int → Bool} {n : Nat} (h : ∀ m : List Int, (∀ x ∈ m, 0 ≤ x ∧ x < (n : Int)) → p m = q m) : ∀ (K k : Nat), smallF p n K k = smallF q n K k
  | 0, _ => rfl
  | K + 1, k => by
    simp only [smallF]
    rw [findF_congr h k [] (fun x hx => by cases hx), smallF_congr h K (k + 1)]
end Go.Proofs.YtbeimdngghedjaaDoor.Pure

/-! What beacon's lives answers: true, and nothing else. -/
namespace Go.Proofs.YtbeimdngghedjaaDoor.P
open Go Go.RowKit Go.Proofs.YtbeimdngghedjaaDoor.Pure Go.Proofs.YtbeimdngghedjaaDoorW.PrintWords
set_option maxRecDepth 100000
def star : List S47 := [(⟨0, 1⟩ : S47), (⟨0, 2⟩ : S47), (⟨0, 3⟩ : S47)]
def path3 : List S47 := [(⟨0, 1⟩ : S47), (⟨1, 2⟩ : S47)]
def starT : List (List Int) := [[0, 1, 1, 1], [1, 0, 2, 2], [1, 2, 0, 2], [1, 2, 2, 0]]
def pathT : List (List Int) := [[0, 1, 2], [1, 0, 1], [2, 1, 0]]
theorem star_floyd : floydT 4 (rowsA 4 (edM 4 star)) = starT := by decide +kernel
theorem path_floyd : floydT 3 (rowsA 3 (edM 3 path3)) = pathT := by decide +kernel
theorem star_row : (List.range 4).map (finalM 4 star 0) = [0, 1, 1, 1] := by
  rw [← rows_get 4 (finalM 4 star) 0 (by decide), final_rows star_floyd]; rfl
theorem path_row : (List.range 3).map (finalM 3 path3 0) = [0, 1, 2] := by
  rw [← rows_get 3 (finalM 3 path3) 0 (by decide), final_rows path_floyd]; rfl
theorem star_ok : readOk 4 star = true := by
  unfold readOk rowMax
  rw [show (4 : Int).toNat = 4 from rfl, star_row]
  decide +kernel
theorem path_ok : readOk 3 path3 = true := by
  unfold readOk rowMax
  rw [show (3 : Int).toNat = 3 from rfl, path_row]
  decide +kernel
theorem star_basis : beacon_Basis.f 4 star = some ([1, 2], 0) := by
  unfold beacon_Basis.f
  rw [if_pos star_ok, show (4 : Int).toNat = 4 from rfl, smallF_congr (q := resP 4 (getT starT)) (fun m hm => resP_congr (fun i j hi hj => final_at star_floyd i j hi hj) hm)]
  decide +kernel
theorem path_double : beacon_Double.f 3 path3 = some ([0, 2], 0) := by
  unfold beacon_Double.f
  rw [if_pos path_ok, show (3 : Int).toNat = 3 from rfl, smallF_congr (q := dblP 3 (getT pathT)) (fun m hm => dblP_congr (fun i j hi hj => final_at path_floyd i j hi hj) hm)]
  decide +kernel
theorem star_with : withErr 4 star [1, 2] = 0 := by
  unfold withErr
  rw [if_pos star_ok]
  decide +kernel
theorem star_graph : graphOf 4 star = ⟨4, rowsE 4 (edE star), starT⟩ := by
  unfold graphOf
  rw [final_rows star_floyd]; rfl
theorem star_codes : beacon_Codes.f 100 4 star [1, 2] = some ([[1, 1], [0, 2], [2, 0], [2, 2]], 0) := by
  unfold beacon_Codes.f
  rw [if_pos star_with, show (4 : Int).toNat = 4 from rfl, star_graph]
  decide +kernel
theorem star_slater : beacon_Slater.f 100 4 star = some (2, 0) := by
  unfold beacon_Slater.f
  rw [if_pos star_ok, show (4 : Int).toNat = 4 from rfl, star_graph]
  decide +kernel
theorem lives_at : wogglelaw07_lives.f 100 = some true := by
  unfold wogglelaw07_lives.f
  show (some star).bind _ = _
  rw [Option.bind_some, star_basis, Option.bind_some, star_codes, Option.bind_some, star_slater, Option.bind_some]
  show (beacon_Double.f 3 path3).bind _ = _
  rw [path_double, Option.bind_some]
  decide +kernel
theorem leo_up {α : Type} {f : Nat → Option α} (m : ∀ k, LeO (f k) (f (k + 1))) {k : Nat} {r : α} (h : f k = some r) : ∀ j, f (k + j) = some r
  | 0 => h
  | j + 1 => m _ _ (leo_up m h j)
theorem wogglelaw07_lives.only (k : Nat) (r : Bool) (h : wogglelaw07_lives.f k = some r) : r = true := by
  have h1 := leo_up wogglelaw07_lives.mono h 100
  have h2 := leo_up wogglelaw07_lives.mono lives_at k
  rw [Nat.add_comm] at h2
  exact Option.some.inj (h1.symm.trans h2)
theorem lives_ev : Ev (fun k => wogglelaw07_lives.f k) true := ⟨100, fun k hk => by
  have := leo_up wogglelaw07_lives.mono lives_at (k - 100)
  rwa [show 100 + (k - 100) = k by omega] at this⟩
end Go.Proofs.YtbeimdngghedjaaDoor.P

/-! Plain facts on graphs: what read makes of a list of edges is a metric; who resolves, who doubly resolves; the search finds. -/
namespace Go.Proofs.YtbeimdngghedjaaDoor.Pure
open Go Go.Proofs Go.RowKit Go.Proofs.YtbeimdngghedjaaDoor.P Go.Proofs.YtbeimdngghedjaaDoorW.PrintWords Go.Proofs.YtbeimdngghedjaaDoorW.PrintLast
set_option linter.unusedVariables false

theorem snoc_ind {α : Type} {P : List α → Prop} (h0 : P []) (h1 : ∀ l x, P l → P (l ++ [x])) (l : List α) : P l := by
  have : ∀ r : List α, P r.reverse := by
    intro r
    induction r with
    | nil => exact h0
    | cons x r ih => rw [List.reverse_cons]; exact h1 _ _ ih
  simpa using this l.reverse
theorem updE_iff {E : Nat → Nat → Bool} {i j a b : Nat} : GM.updE E i j a b = true ↔ (a = i ∧ b = j) ∨ E a b = true := by
  unfold GM.updE
  by_cases h : a = i ∧ b = j
  · rw [if_pos h]; simp [h]
  · rw [if_neg h]; simp [h]
theorem edE_iff (l : List S47) (i j : Nat) : edE l i j = true ↔ ∃ e ∈ l, (i = e.f0.toNat ∧ j = e.f1.toNat) ∨ (i = e.f1.toNat ∧ j = e.f0.toNat) := by
  induction l using snoc_ind with
  | h0 => simp [edE, noE]
  | h1 l x ih =>
    rw [edE_snoc, updE_iff, updE_iff, ih]
    constructor
    · rintro (h | h | ⟨e, he, h⟩)
      · exact ⟨x, by simp, .inr h⟩
      · exact ⟨x, by simp, .inl h⟩
      · exact ⟨e, by simp [he], h⟩
    · rintro ⟨e, he, h⟩
      rcases List.mem_append.1 he with he | he
      · exact .inr (.inr ⟨e, he, h⟩)
      · obtain rfl := List.mem_singleton.1 he
        rcases h with h | h
        · exact .inr (.inl h)
        · exact .inl h
theorem edE_sym (l : List S47) (i j : Nat) : edE l i j = edE l j i := by
  rw [Bool.eq_iff_iff, edE_iff, edE_iff]
  constructor <;> rintro ⟨e, he, h⟩ <;> exact ⟨e, he, by omega⟩
theorem edE_irr {l : List S47} (h : ∀ e ∈ l, e.f0.toNat ≠ e.f1.toNat) (i : Nat) : edE l i i = false := by
  cases hE : edE l i i with
  | false => rfl
  | true =>
    obtain ⟨e, he, h1⟩ := (edE_iff l i i).1 hE
    exact absurd (show e.f0.toNat = e.f1.toNat by omega) (h e he)
theorem edM_start (n : Nat) {l : List S47} (h : ∀ e ∈ l, e.f0.toNat ≠ e.f1.toNat) : edM n l = P.start n (edE l) := by
  induction l using snoc_ind with
  | h0 => funext i j; simp [edM, edE, noE, P.start, initM]
  | h1 l x ih =>
    rw [edM_snoc, edE_snoc, ih (fun e he => h e (by simp [he]))]
    have hx := h x (by simp)
    funext i j
    unfold upd P.start
    by_cases h1 : i = x.f1.toNat ∧ j = x.f0.toNat
    · rw [if_pos h1, if_pos (updE_iff.2 (.inl h1))]
    · rw [if_neg h1]
      by_cases h2 : i = x.f0.toNat ∧ j = x.f1.toNat
      · rw [if_pos h2, if_pos (updE_iff.2 (.inr (updE_iff.2 (.inl h2))))]
      · rw [if_neg h2]
        by_cases h3 : edE l i j = true
        · rw [if_pos h3, if_pos (updE_iff.2 (.inr (updE_iff.2 (.inr h3))))]
        · rw [if_neg h3, if_neg (fun h => (updE_iff.1 h).elim h1 fun h => (updE_iff.1 h).elim h2 h3)]
theorem edOk_ne {n : Nat} {l : List S47} (h : l.all (edOk n) = true) : ∀ e ∈ l, e.f0.toNat ≠ e.f1.toNat ∧ e.f0.toNat < n ∧ e.f1.toNat < n ∧ 0 ≤ e.f0 ∧ 0 ≤ e.f1 := by
  intro e he
  obtain ⟨h1, h2, h3, h4, h5⟩ := edOk_parts (a := e.f0) (b := e.f1) (List.all_eq_true.1 h e he)
  omega
theorem final_ok {n : Nat} (hn : 1 ≤ n) {l : List S47} (h : l.all (edOk n) = true) : FlOk n (edE l) n (finalM n l) := by
  unfold finalM
  rw [edM_start n (fun e he => (edOk_ne h e he).1)]
  exact floyd_ok n (edE l) hn (edE_irr fun e he => (edOk_ne h e he).1)
/-! ### The greatest and the least -/
theorem mx_ge (a b : Int) : a ≤ mx a b ∧ b ≤ mx a b := by unfold mx; split <;> omega
theorem mn_le (a b : Int) : mn a b ≤ a ∧ mn a b ≤ b := by unfold mn; split <;> omega
theorem mx_or (a b : Int) : mx a b = a ∨ mx a b = b := by unfold mx; split <;> simp
theorem mn_or (a b : Int) : mn a b = a ∨ mn a b = b := by unfold mn; split <;> simp
theorem maxTo_ge (l : List Int) : ∀ t, t ≤ l.length → ∀ i, i < t → rd l i ≤ maxTo l t
  | 0, _, i, hi => by omega
  | t + 1, ht, i, hi => by
    rw [maxTo_succ l t (by omega)]
    by_cases e : i = t
    · subst e; exact (mx_ge _ _).2
    · exact Int.le_trans (maxTo_ge l t (by omega) i (by omega)) (mx_ge _ _).1
theorem minTo_le (l : List Int) : ∀ t, t ≤ l.length → ∀ i, i < t → minTo l t ≤ rd l i
  | 0, _, i, hi => by omega
  | t + 1, ht, i, hi => by
    rw [minTo_succ l t (by omega)]
    by_cases e : i = t
    · subst e; exact (mn_le _ _).2
    · exact Int.le_trans (mn_le _ _).1 (minTo_le l t (by omega) i (by omega))
theorem maxTo_mem (l : List Int) : ∀ t, t ≤ l.length → 0 < t → ∃ i, i < t ∧ maxTo l t = rd l i
  | 0, _, h => by omega
  | t + 1, ht, _ => by
    rw [maxTo_succ l t (by omega)]
    rcases mx_or (maxTo l t) (rd l t) with h | h
    · by_cases h0 : t = 0
      · subst h0; exact ⟨0, by omega, by rw [h]; rfl⟩
      · obtain ⟨i, hi, e⟩ := maxTo_mem l t (by omega) (by omega)
        exact ⟨i, by omega, by rw [h, e]⟩
    · exact ⟨t, by omega, h⟩
theorem minTo_mem (l : List Int) : ∀ t, t ≤ l.length → 0 < t → ∃ i, i < t ∧ minTo l t = rd l i
  | 0, _, h => by omega
  | t + 1, ht, _ => by
    rw [minTo_succ l t (by omega)]
    rcases mn_or (minTo l t) (rd l t) with h | h
    · by_cases h0 : t = 0
      · subst h0; exact ⟨0, by omega, by rw [h]; rfl⟩
      · obtain ⟨i, hi, e⟩ := minTo_mem l t (by omega) (by omega)
        exact ⟨i, by omega, by rw [h, e]⟩
    · exact ⟨t, by omega, h⟩
theorem rd_map (n : Nat) (f : Nat → Int) (i : Nat) (hi : i < n) : rd ((List.range n).map f) (i : Int) = f i := by unfold rd; simp [hi]
theorem rowMax_iff {n : Nat} (hn : 1 ≤ n) (l : List S47) (b : Int) : rowMax n l < b ↔ ∀ j, j < n → finalM n l 0 j < b := by
  unfold rowMax
  constructor
  · intro h j hj
    have := maxTo_ge ((List.range n).map (finalM n l 0)) n (by simp) j hj
    rw [rd_map n _ j hj] at this
    omega
  · intro h
    obtain ⟨i, hi, e⟩ := maxTo_mem ((List.range n).map (finalM n l 0)) n (by simp) (by omega)
    rw [e, rd_map n _ i hi]
    exact h i hi
/-- A connected graph with its distances. -/
structure Met (n : Nat) (E : Nat → Nat → Bool) (M : Mt) : Prop where
  n1 : 1 ≤ n
  n10 : n ≤ 10
  fl : FlOk n E n M
  es : ∀ i j, E i j = E j i
  lt : ∀ a b, a < n → b < n → M a b < n
  bd : Bd n M
namespace Met
variable {n : Nat} {E : Nat → Nat → Bool} {M : Mt}
theorem pos (h : Met n E M) {a b : Nat} (ha : a < n) (hb : b < n) : 0 ≤ M a b := h.fl.pos a b ha hb
theorem self (h : Met n E M) {a : Nat} (ha : a < n) : M a a = 0 := h.fl.diag a ha
theorem sym (h : Met n E M) {a b : Nat} (ha : a < n) (hb : b < n) : M a b = M b a := h.fl.sym h.es a b ha hb
theorem tri (h : Met n E M) {a b c : Nat} (ha : a < n) (hb : b < n) (hc : c < n) : M a c ≤ M a b + M b c := h.fl.tri b a c hb hb ha hc
theorem zero (h : Met n E M) {a b : Nat} (ha : a < n) (hb : b < n) (h0 : M a b = 0) : a = b := by
  have := h.fl.wk a b ha hb (h.lt a b ha hb)
  rw [h0] at this
  exact this
theorem ne (h : Met n E M) {a b : Nat} (ha : a < n) (hb : b < n) (hab : a ≠ b) : 1 ≤ M a b := by
  have := h.pos ha hb
  have : M a b ≠ 0 := fun e => hab (h.zero ha hb e)
  omega
end Met
theorem readOk_parts {n : Int} {l : List S47} (h : readOk n l = true) : ∃ N : Nat, n = N ∧ 1 ≤ N ∧ N ≤ 10 ∧ l.length ≤ 60 ∧ l.all (edOk N) = true ∧ rowMax N l < N := by
  unfold readOk at h
  simp only [Bool.and_eq_true, decide_eq_true_eq] at h
  obtain ⟨⟨⟨⟨h1, h2⟩, h3⟩, h4⟩, h5⟩ := h
  exact ⟨n.toNat, by omega, by omega, by omega, h3, h4, by omega⟩
theorem met_of {n : Nat} {l : List S47} (h : readOk (n : Int) l = true) : Met n (edE l) (finalM n l) := by
  obtain ⟨N, e, h1, h2, h3, h4, h5⟩ := readOk_parts h
  obtain rfl : n = N := by omega
  have hf := final_ok h1 h4
  rw [rowMax_iff h1] at h5
  have w0 : ∀ a, a < n → ∃ r, Wk n (edE l) r 0 a := fun a ha => ⟨_, hf.wk 0 a (by omega) ha (h5 a ha)⟩
  refine ⟨h1, h2, hf, edE_sym l, fun a b ha hb => ?_, finalM_bd h1 l⟩
  obtain ⟨r, hr⟩ := w0 a ha
  obtain ⟨s, hs⟩ := w0 b hb
  exact hf.reach _ a b ha hb ((hr.rev (edE_sym l) (by omega)).cat hs)
theorem readOk_mk {n : Nat} {l : List S47} (h1 : 1 ≤ n) (h2 : n ≤ 10) (h3 : l.length ≤ 60) (h4 : l.all (edOk n) = true) (h5 : ∀ j, j < n → ∃ r, Wk n (edE l) r 0 j) : readOk (n : Int) l = true := by
  unfold readOk
  simp only [Bool.and_eq_true, decide_eq_true_eq, Int.toNat_natCast]
  refine ⟨⟨⟨⟨by omega, by omega⟩, h3⟩, h4⟩, (rowMax_iff h1 l n).2 fun j hj => ?_⟩
  obtain ⟨r, hr⟩ := h5 j hj
  exact (final_ok h1 h4).reach r 0 j (by omega) hj hr
/-! ### Who resolves -/
section
variable {n : Nat} {E : Nat → Nat → Bool} {M : Mt} {m : List Int}
theorem codeL_eq (x y : Nat) : codeL M x m = codeL M y m ↔ ∀ a ∈ m, M x a.toNat = M y a.toNat := by
  unfold codeL
  exact List.map_inj_left
theorem mem_full {n x : Nat} (h : x < n) : (x : Int) ∈ fullL n := List.mem_map.2 ⟨x, by simpa using h, rfl⟩
theorem res_full (h : Met n E M) : resP n M (fullL n) = true := by
  rw [resP_iff]
  intro x y hxy hy e
  have := (codeL_eq x y).1 e (x : Int) (mem_full (by omega))
  rw [Int.toNat_natCast, h.self (by omega)] at this
  have := h.zero (a := y) (b := x) hy (by omega) this.symm
  omega
theorem difL_rd (u v i : Nat) (hi : i < m.length) : rd (difL M u v m) (i : Int) = M u m[i].toNat - M v m[i].toNat := by unfold difL rd; simp [hi]
theorem sep_iff (u v : Nat) : sepP M u v m = true ↔ ∃ a ∈ m, ∃ b ∈ m, M u a.toNat - M v a.toNat ≠ M u b.toNat - M v b.toNat := by
  unfold sepP
  have hl := difL_len (M := M) (m := m) u v
  constructor
  · intro h
    by_cases h2 : m.length < 2
    · rw [if_pos h2] at h; cases h
    · rw [if_neg h2] at h
      by_cases h3 : minTo (difL M u v m) m.length = maxTo (difL M u v m) m.length
      · rw [if_pos h3] at h; cases h
      · obtain ⟨i, hi, ei⟩ := minTo_mem (difL M u v m) m.length (by omega) (by omega)
        obtain ⟨j, hj, ej⟩ := maxTo_mem (difL M u v m) m.length (by omega) (by omega)
        rw [difL_rd u v i hi] at ei
        rw [difL_rd u v j hj] at ej
        exact ⟨m[i], List.getElem_mem hi, m[j], List.getElem_mem hj, by omega⟩
  · rintro ⟨a, ha, b, hb, hne⟩
    obtain ⟨i, hi, rfl⟩ := List.getElem_of_mem ha
    obtain ⟨j, hj, rfl⟩ := List.getElem_of_mem hb
    have hij : i ≠ j := fun e => by subst e; exact hne rfl
    rw [if_neg (by omega), if_neg]
    intro e
    have a1 := minTo_le (difL M u v m) m.length (by omega) i hi
    have a2 := minTo_le (difL M u v m) m.length (by omega) j hj
    have b1 := maxTo_ge (difL M u v m) m.length (by omega) i hi
    have b2 := maxTo_ge (difL M u v m) m.length (by omega) j hj
    rw [difL_rd u v i hi] at a1 b1
    rw [difL_rd u v j hj] at a2 b2
    omega
theorem dblP_iff : dblP n M m = true ↔ ∀ u v, v < u → u < n → sepP M u v m = true := by
  unfold dblP
  rw [List.all_eq_true]
  constructor
  · intro h u v hv hu
    have := h u (by simpa using hu)
    rw [List.all_eq_true] at this
    exact this v (by simpa using hv)
  · intro h u hu
    rw [List.all_eq_true]
    exact fun v hv => h u v (by simpa using hv) (by simpa using hu)
theorem dbl_full (h : Met n E M) : dblP n M (fullL n) = true := by
  rw [dblP_iff]
  intro u v hv hu
  rw [sep_iff]
  refine ⟨(u : Int), mem_full hu, (v : Int), mem_full (by omega), ?_⟩
  rw [Int.toNat_natCast, Int.toNat_natCast, h.self hu, h.self (a := v) (by omega), h.sym (a := v) (b := u) (by omega) hu]
  have := h.ne (a := u) (b := v) hu (by omega) (by omega)
  omega
theorem res_of_dbl (hd : dblP n M m = true) : resP n M m = true := by
  rw [resP_iff]
  intro x y hxy hy e
  rw [codeL_eq] at e
  obtain ⟨a, ha, b, hb, hne⟩ := (sep_iff y x).1 ((dblP_iff.1 hd) y x hxy hy)
  have := e a ha; have := e b hb
  omega
end
theorem basis_ex {n : Nat} {l : List S47} (h : readOk (n : Int) l = true) : ∃ r, beacon_Basis.f n l = some (r, 0) ∧ resP n (finalM n l) r = true ∧ Ris n 0 r ∧ ∀ s, Ris n 0 s → resP n (finalM n l) s = true → r.length ≤ s.length := by
  have hm := met_of h
  obtain ⟨r, hr⟩ := small_ex hm.n10 (res_full hm)
  refine ⟨r, ?_, smallF_least hr⟩
  unfold beacon_Basis.f
  rw [if_pos h, Int.toNat_natCast, hr]; rfl
theorem double_ex {n : Nat} {l : List S47} (h : readOk (n : Int) l = true) : ∃ r, beacon_Double.f n l = some (r, 0) ∧ dblP n (finalM n l) r = true ∧ Ris n 0 r ∧ ∀ s, Ris n 0 s → dblP n (finalM n l) s = true → r.length ≤ s.length := by
  have hm := met_of h
  obtain ⟨r, hr⟩ := small_ex hm.n10 (dbl_full hm)
  refine ⟨r, ?_, smallF_least hr⟩
  unfold beacon_Double.f
  rw [if_pos h, Int.toNat_natCast, hr]; rfl
theorem ris_mem {n : Int} : ∀ {lo : Int} {s : List Int}, 0 ≤ lo → Ris n lo s → ∀ x ∈ s, lo ≤ x ∧ x < n
  | _, [], _, _, x, hx => by cases hx
  | lo, y :: s, h0, ⟨h1, h2, h3⟩, x, hx => by
    rcases List.mem_cons.1 hx with rfl | hx
    · exact ⟨h1, h2⟩
    · have := ris_mem (lo := y + 1) (by omega) h3 x hx
      omega
theorem ris_len {n : Int} : ∀ {lo : Int} {s : List Int}, Ris n lo s → lo ≤ n → (s.length : Int) ≤ n - lo
  | _, [], _, h => by simp; omega
  | lo, y :: s, ⟨h1, h2, h3⟩, _ => by
    have := ris_len h3 (by omega)
    simp only [List.length_cons]
    omega
end Go.Proofs.YtbeimdngghedjaaDoor.Pure

/-! Plain facts on graphs renamed: distances go over, marks that resolve go over to at most as many that resolve. -/
namespace Go.Proofs.YtbeimdngghedjaaDoor.Pure
open Go Go.Proofs Go.RowKit Go.Proofs.YtbeimdngghedjaaDoor.P Go.Proofs.YtbeimdngghedjaaDoorW.PrintWords Go.Proofs.YtbeimdngghedjaaDoorW.PrintLast
set_option linter.unusedVariables false

theorem Wk.map {n : Nat} {E E' : Nat → Nat → Bool} {f : Nat → Nat} (hf : ∀ i, i < n → f i < n) (he : ∀ i j, i < n → j < n → E i j = true → E' (f i) (f j) = true) : ∀ {r i j : Nat}, i < n → Wk n E r i j → Wk n E' r (f i) (f j)
  | 0, i, j, _, h => congrArg f (show i = j from h)
  | r + 1, i, j, hi, ⟨m, hm, h1, h2⟩ => ⟨f m, hf m hm, he i m hi hm h1, Wk.map hf he hm h2⟩
/-- One graph is the other with its vertices renamed by f. -/
structure Ren (n : Nat) (E E' : Nat → Nat → Bool) (f g : Nat → Nat) : Prop where
  hf : ∀ i, i < n → f i < n
  hg : ∀ i, i < n → g i < n
  gf : ∀ i, i < n → g (f i) = i
  fg : ∀ i, i < n → f (g i) = i
  e1 : ∀ i j, i < n → j < n → E i j = true → E' (f i) (f j) = true
  e2 : ∀ i j, i < n → j < n → E' i j = true → E (g i) (g j) = true
namespace Ren
variable {n : Nat} {E E' : Nat → Nat → Bool} {M M' : Mt} {f g : Nat → Nat}
theorem symm (R : Ren n E E' f g) : Ren n E' E g f := ⟨R.hg, R.hf, R.fg, R.gf, R.e2, R.e1⟩
theorem le (R : Ren n E E' f g) (h : Met n E M) (h' : Met n E' M') {i j : Nat} (hi : i < n) (hj : j < n) : M' (f i) (f j) ≤ M i j := by
  have hw := h.fl.wk i j hi hj (h.lt i j hi hj)
  have := h'.fl.le_walk _ (f i) (f j) (R.hf i hi) (R.hf j hj) (Wk.map R.hf R.e1 hi hw)
  have hp := h.pos hi hj
  omega
theorem eq (R : Ren n E E' f g) (h : Met n E M) (h' : Met n E' M') {i j : Nat} (hi : i < n) (hj : j < n) : M' (f i) (f j) = M i j := by
  have h1 := R.le h h' hi hj
  have h2 := R.symm.le h' h (R.hf i hi) (R.hf j hj)
  rw [R.gf i hi, R.gf j hj] at h2
  omega
end Ren
theorem nodup_sub {α : Type} [DecidableEq α] : ∀ (l s : List α), l.Nodup → (∀ x ∈ l, x ∈ s) → l.length ≤ s.length
  | [], s, _, _ => Nat.zero_le _
  | a :: l, s, hn, hs => by
    have ha := hs a (by simp)
    obtain ⟨h1, h2⟩ := List.nodup_cons.1 hn
    have := nodup_sub l (s.erase a) h2 fun x hx => (List.mem_erase_of_ne (fun e => h1 (by rw [← e]; exact hx))).2 (hs x (by simp [hx]))
    rw [List.length_erase_of_mem ha] at this
    have := List.length_pos_of_mem ha
    simp only [List.length_cons]
    omega
theorem Ris.low {n : Int} : ∀ {lo hi : Int} {s : List Int}, lo ≤ hi → Ris n hi s → Ris n lo s
  | _, _, [], _, _ => trivial
  | lo, hi, x :: s, h, ⟨h1, h2, h3⟩ => ⟨by omega, h2, h3⟩
theorem Ris.filter {n : Int} (p : Int → Bool) : ∀ {lo : Int} {s : List Int}, Ris n lo s → Ris n lo (s.filter p)
  | _, [], _ => trivial
  | lo, x :: s, ⟨h1, h2, h3⟩ => by
    by_cases h : p x = true
    · rw [List.filter_cons_of_pos h]; exact ⟨h1, h2, Ris.filter p h3⟩
    · rw [List.filter_cons_of_neg h]; exact Ris.low (by omega) (Ris.filter p h3)
theorem ris_ge {n : Int} : ∀ {lo : Int} {s : List Int}, Ris n lo s → ∀ x ∈ s, lo ≤ x
  | _, [], _, x, hx => by cases hx
  | lo, y :: s, ⟨h1, h2, h3⟩, x, hx => by
    rcases List.mem_cons.1 hx with rfl | hx
    · exact h1
    · have := ris_ge h3 x hx
      omega
theorem ris_nodup {n : Int} : ∀ {lo : Int} {s : List Int}, Ris n lo s → s.Nodup
  | _, [], _ => List.nodup_nil
  | lo, x :: s, ⟨h1, h2, h3⟩ => List.nodup_cons.2 ⟨fun h => by have := ris_ge h3 x h; omega, ris_nodup h3⟩
theorem nodup_map_on {α β : Type} {f : α → β} : ∀ {l : List α}, l.Nodup → (∀ x ∈ l, ∀ y ∈ l, f x = f y → x = y) → (l.map f).Nodup
  | [], _, _ => List.nodup_nil
  | a :: l, h, hi => by
    obtain ⟨h1, h2⟩ := List.nodup_cons.1 h
    rw [List.map_cons]
    refine List.nodup_cons.2 ⟨fun hm => ?_, nodup_map_on h2 fun x hx y hy => hi x (by simp [hx]) y (by simp [hy])⟩
    obtain ⟨b, hb, e⟩ := List.mem_map.1 hm
    obtain rfl := hi b (by simp [hb]) a (by simp) e
    exact h1 hb
/-- The marks of s under f, in order. -/
def renS (n : Nat) (g : Nat → Nat) (s : List Int) : List Int := (fullL n).filter fun y => s.contains ((g y.toNat : Nat) : Int)
theorem renS_ris (n : Nat) (g : Nat → Nat) (s : List Int) : Ris n 0 (renS n g s) := Ris.filter _ (ris_full n)
theorem renS_mem {n : Nat} {f g : Nat → Nat} (hf : ∀ i, i < n → f i < n) (gf : ∀ i, i < n → g (f i) = i) {s : List Int} {a : Nat} (ha : a < n) (h : (a : Int) ∈ s) : (f a : Int) ∈ renS n g s := by
  unfold renS
  refine List.mem_filter.2 ⟨mem_full (hf a ha), ?_⟩
  rw [Int.toNat_natCast, gf a ha]
  simpa using h
theorem renS_len {n : Nat} {f g : Nat → Nat} (fg : ∀ i, i < n → f (g i) = i) (s : List Int) : (renS n g s).length ≤ s.length := by
  have hr := renS_ris n g s
  have hb : ∀ x ∈ renS n g s, 0 ≤ x ∧ x < (n : Int) := ris_mem (Int.le_refl _) hr
  have := nodup_sub ((renS n g s).map fun y => ((g y.toNat : Nat) : Int)) s (nodup_map_on (ris_nodup hr) fun x hx y hy e => by
    have hx := hb x hx
    have hy := hb y hy
    have e2 : g x.toNat = g y.toNat := Int.ofNat.inj e
    have e3 := congrArg f e2
    rw [fg _ (by omega), fg _ (by omega)] at e3
    omega) fun z hz => by
      obtain ⟨y, hy, rfl⟩ := List.mem_map.1 hz
      simpa using (List.mem_filter.1 hy).2
  simpa using this
section
variable {n : Nat} {E E' : Nat → Nat → Bool} {M M' : Mt} {f g : Nat → Nat} {s : List Int}
theorem res_ne (h : resP n M s = true) {x y : Nat} (hx : x < n) (hy : y < n) (hxy : x ≠ y) : ∃ a ∈ s, M x a.toNat ≠ M y a.toNat := by
  have key : ∀ x y, x < y → y < n → ∃ a ∈ s, M x a.toNat ≠ M y a.toNat := fun x y h1 h2 => by
    have h3 := resP_iff.1 h x y h1 h2
    rw [Ne, codeL_eq] at h3
    by_cases h4 : ∃ a ∈ s, M x a.toNat ≠ M y a.toNat
    · exact h4
    · exact absurd (fun a ha => by
        by_cases h5 : M x a.toNat = M y a.toNat
        · exact h5
        · exact absurd ⟨a, ha, h5⟩ h4) h3
  rcases Nat.lt_or_gt_of_ne hxy with h1 | h1
  · exact key x y h1 hy
  · obtain ⟨a, ha, h2⟩ := key y x h1 hx
    exact ⟨a, ha, fun e => h2 e.symm⟩
theorem sep_symm {u v : Nat} : sepP M u v s = true ↔ sepP M v u s = true := by
  rw [sep_iff, sep_iff]
  constructor <;> rintro ⟨a, ha, b, hb, h⟩ <;> exact ⟨a, ha, b, hb, by omega⟩
theorem dbl_ne (h : dblP n M s = true) {x y : Nat} (hx : x < n) (hy : y < n) (hxy : x ≠ y) : sepP M x y s = true := by
  rcases Nat.lt_or_gt_of_ne hxy with h1 | h1
  · exact sep_symm.1 (dblP_iff.1 h y x h1 hy)
  · exact dblP_iff.1 h x y h1 hx
theorem Ren.ne (R : Ren n E E' f g) {x y : Nat} (hx : x < n) (hy : y < n) (h : x ≠ y) : g x ≠ g y := fun e => h (by rw [← R.fg x hx, ← R.fg y hy, e])
theorem Ren.at (R : Ren n E E' f g) (h : Met n E M) (h' : Met n E' M') {x a : Nat} (hx : x < n) (ha : a < n) : M' x (f a) = M (g x) a := by
  have := R.eq h h' (R.hg x hx) ha
  rwa [R.fg x hx] at this
theorem Ren.res (R : Ren n E E' f g) (h : Met n E M) (h' : Met n E' M') (hs : Ris n 0 s) (hr : resP n M s = true) : resP n M' (renS n g s) = true := by
  rw [resP_iff]
  intro x y hxy hy e
  rw [codeL_eq] at e
  obtain ⟨a, ha, hne⟩ := res_ne hr (R.hg x (by omega)) (R.hg y hy) (R.ne (by omega) hy (by omega))
  have hb := ris_mem (Int.le_refl _) hs a ha
  obtain ⟨A, rfl⟩ : ∃ A : Nat, a = A := ⟨a.toNat, by omega⟩
  have h2 := e _ (renS_mem R.hf R.gf (by omega) ha)
  rw [Int.toNat_natCast] at h2 hne
  rw [R.at h h' (by omega) (by omega), R.at h h' hy (by omega)] at h2
  exact hne h2
theorem Ren.dbl (R : Ren n E E' f g) (h : Met n E M) (h' : Met n E' M') (hs : Ris n 0 s) (hr : dblP n M s = true) : dblP n M' (renS n g s) = true := by
  rw [dblP_iff]
  intro u v hv hu
  obtain ⟨a, ha, b, hb, hne⟩ := sep_iff _ _ |>.1 (dbl_ne hr (R.hg u hu) (R.hg v (by omega)) (R.ne hu (by omega) (by omega)))
  have h1 := ris_mem (Int.le_refl _) hs a ha
  have h2 := ris_mem (Int.le_refl _) hs b hb
  obtain ⟨A, rfl⟩ : ∃ A : Nat, a = A := ⟨a.toNat, by omega⟩
  obtain ⟨B, rfl⟩ : ∃ B : Nat, b = B := ⟨b.toNat, by omega⟩
  rw [sep_iff]
  refine ⟨_, renS_mem R.hf R.gf (by omega) ha, _, renS_mem R.hf R.gf (by omega) hb, ?_⟩
  rw [Int.toNat_natCast, Int.toNat_natCast] at hne ⊢
  rw [R.at h h' hu (by omega), R.at h h' (by omega) (by omega), R.at h h' hu (by omega), R.at h h' (by omega) (by omega)]
  exact hne
end
end Go.Proofs.YtbeimdngghedjaaDoor.Pure

/-! Sets of vertices as bits: what the laws' marks, and the reference's Members, Bits and Rising answer. -/
namespace Go.Proofs.YtbeimdngghedjaaDoor.Pure
open Go Go.Proofs Go.RowKit Go.Proofs.YtbeimdngghedjaaDoor.P Go.Proofs.YtbeimdngghedjaaDoorW.PrintWords Go.Proofs.YtbeimdngghedjaaDoorW.PrintLast
set_option linter.unusedVariables false
set_option maxRecDepth 100000

theorem Ev.mono_at {α : Type} {f : Nat → Option α} (m : ∀ k, LeO (f k) (f (k + 1))) {k : Nat} {r : α} (h : f k = some r) : Ev f r := ⟨k, fun j hj => by
  have := leo_up m h (j - k)
  rwa [show k + (j - k) = j by omega] at this⟩
/-- All rising lists of numbers lo .. lo + d - 1. -/
def enum : Nat → Int → List (List Int)
  | 0, _ => [[]]
  | d + 1, lo => enum d (lo + 1) ++ (enum d (lo + 1)).map (lo :: ·)
theorem nil_enum : ∀ (d : Nat) (lo : Int), ([] : List Int) ∈ enum d lo
  | 0, _ => List.mem_singleton.2 rfl
  | d + 1, lo => List.mem_append.2 (.inl (nil_enum d (lo + 1)))
theorem ris_enum {n : Int} : ∀ (d : Nat) (lo : Int) (m : List Int), lo + d = n → Ris n lo m → m ∈ enum d lo
  | d, lo, [], _, _ => nil_enum d lo
  | 0, lo, x :: s, h, ⟨h1, h2, _⟩ => by omega
  | d + 1, lo, x :: s, h, ⟨h1, h2, h3⟩ => by
    by_cases hx : x = lo
    · subst hx
      exact List.mem_append.2 (.inr (List.mem_map.2 ⟨s, ris_enum d (x + 1) s (by omega) h3, rfl⟩))
    · exact List.mem_append.2 (.inl (ris_enum d (lo + 1) (x :: s) (by omega) ⟨by omega, h2, h3⟩))
def risB (n : Int) : Int → List Int → Bool
  | _, [] => true
  | lo, x :: s => decide (lo ≤ x) && decide (x < n) && risB n (x + 1) s
theorem ris_of_B {n : Int} : ∀ {lo : Int} {s : List Int}, risB n lo s = true → Ris n lo s
  | _, [], _ => trivial
  | lo, x :: s, h => by
    simp only [risB, Bool.and_eq_true, decide_eq_true_eq] at h
    exact ⟨h.1.1, h.1.2, ris_of_B h.2⟩
theorem Ris.up {n n' : Int} (hn : n ≤ n') : ∀ {lo : Int} {s : List Int}, Ris n lo s → Ris n' lo s
  | _, [], _ => trivial
  | lo, x :: s, ⟨h1, h2, h3⟩ => ⟨h1, by omega, Ris.up hn h3⟩
theorem masks : ((List.range 11).all fun n => wrap64 ((shl .i64 1 (n : Int)) - 1) == (((2 ^ n - 1 : Nat)) : Int)) = true := by decide +kernel
end Go.Proofs.YtbeimdngghedjaaDoor.Pure
