/- The distances as lists of lists: what a small graph's reading comes to can be reckoned. -/
import Derived.Test.YtbeimdngghedjaaDoorBB
namespace Go.Proofs.YtbeimdngghedjaaDoor.Pure
open Go Go.Proofs Go.RowKit Go.Proofs.YtbeimdngghedjaaDoor.P Go.Proofs.YtbeimdngghedjaaDoorW.PrintWords Go.Proofs.YtbeimdngghedjaaDoorW.PrintLast
set_option linter.unusedVariables false

def getT (L : List (List Int)) (i j : Nat) : Int := (L.getD i []).getD j 0
def setT (L : List (List Int)) (i j : Nat) (v : Int) : List (List Int) := L.set i ((L.getD i []).set j v)
theorem getT_rows (n : Nat) (M : Mt) (i j : Nat) (hi : i < n) (hj : j < n) : getT (rowsA n M) i j = M i j := by unfold getT rowsA; simp [hi, hj]
theorem rows_get (n : Nat) (M : Mt) (i : Nat) (hi : i < n) : (rowsA n M).getD i [] = (List.range n).map (M i) := by unfold rowsA; simp [hi]
theorem setT_rows (n : Nat) (M : Mt) (i j : Nat) (v : Int) (hi : i < n) (hj : j < n) : setT (rowsA n M) i j v = rowsA n (upd M i j v) := by
  unfold setT
  rw [rows_get n M i hi]
  unfold rowsA
  refine List.ext_getElem (by simp) fun a h1 h2 => ?_
  rw [List.getElem_set]
  simp only [List.getElem_map, List.getElem_range]
  have ha : a < n := by simpa using h2
  by_cases e : i = a
  · subst e
    rw [if_pos rfl]
    refine List.ext_getElem (by simp) fun b h3 h4 => ?_
    rw [List.getElem_set]
    simp only [List.getElem_map, List.getElem_range]
    unfold upd
    by_cases e2 : j = b
    · subst e2; rw [if_pos rfl, if_pos ⟨rfl, rfl⟩]
    · rw [if_neg e2, if_neg (fun h => e2 h.2.symm)]
  · rw [if_neg e]
    refine List.map_congr_left fun b _ => ?_
    unfold upd
    rw [if_neg (fun h => e h.1.symm)]
def tJ (k i : Nat) (L : List (List Int)) (j : Nat) : List (List Int) := setT L i j (mnI (getT L i j) (getT L i k + getT L k j))
def tI (n k : Nat) (L : List (List Int)) (i : Nat) : List (List Int) := (List.range n).foldl (tJ k i) L
def tK (n : Nat) (L : List (List Int)) (k : Nat) : List (List Int) := (List.range n).foldl (tI n k) L
def floydT (n : Nat) (L : List (List Int)) : List (List Int) := (List.range n).foldl (tK n) L
theorem fold_rows {n : Nat} (f : List (List Int) → Nat → List (List Int)) (g : Mt → Nat → Mt) (h : ∀ M x, x < n → f (rowsA n M) x = rowsA n (g M x)) : ∀ (l : List Nat) (M : Mt), (∀ x ∈ l, x < n) → l.foldl f (rowsA n M) = rowsA n (l.foldl g M)
  | [], _, _ => rfl
  | x :: l, M, hx => by
    rw [List.foldl_cons, List.foldl_cons, h M x (hx x List.mem_cons_self)]
    exact fold_rows f g h l (g M x) (fun y hy => hx y (List.mem_cons_of_mem _ hy))
theorem tJ_rows (n k i : Nat) (hk : k < n) (hi : i < n) (M : Mt) (j : Nat) (hj : j < n) : tJ k i (rowsA n M) j = rowsA n (flJ k i M j) := by
  unfold tJ
  rw [getT_rows n M i j hi hj, getT_rows n M i k hi hk, getT_rows n M k j hk hj, setT_rows n M i j _ hi hj]; rfl
theorem floydT_rows (n : Nat) (M : Mt) : floydT n (rowsA n M) = rowsA n (floyd n M) :=
  fold_rows _ _ (fun M k hk => fold_rows _ _ (fun M i hi => fold_rows _ _ (fun M j hj => tJ_rows n k i hk hi M j hj) _ M (fun x hx => by simpa using hx)) _ M (fun x hx => by simpa using hx)) _ M (fun x hx => by simpa using hx)
/-- What read makes of a graph whose distances were reckoned. -/
theorem final_rows {n : Nat} {l : List S47} {T : List (List Int)} (h : floydT n (rowsA n (edM n l)) = T) : rowsA n (finalM n l) = T := by rw [← h, floydT_rows]; rfl
theorem final_at {n : Nat} {l : List S47} {T : List (List Int)} (h : floydT n (rowsA n (edM n l)) = T) (i j : Nat) (hi : i < n) (hj : j < n) : finalM n l i j = getT T i j := by rw [← final_rows h, getT_rows n _ i j hi hj]
theorem codeL_congr {n : Nat} {M M' : Mt} {m : List Int} (h : ∀ i j, i < n → j < n → M i j = M' i j) (hm : ∀ x ∈ m, 0 ≤ x ∧ x < (n : Int)) (v : Nat) (hv : v < n) : codeL M v m = codeL M' v m :=
  List.map_congr_left fun x hx => h v x.toNat hv (by have := hm x hx; omega)
theorem cfV_congr {n : Nat} {M M' : Mt} {m : List Int} (h : ∀ i j, i < n → j < n → M i j = M' i j) (hm : ∀ x ∈ m, 0 ≤ x ∧ x < (n : Int)) (u : Nat) (hu : u < n) : ∀ (d v : Nat), v + d ≤ n → cfV M m u d v = cfV M' m u d v
  | 0, _, _ => rfl
  | d + 1, v, hd => by
    simp only [cfV]
    rw [codeL_congr h hm u hu, codeL_congr h hm v (by omega), cfV_congr h hm u hu d (v + 1) (by omega)]
theorem cfU_congr {n : Nat} {M M' : Mt} {m : List Int} (h : ∀ i j, i < n → j < n → M i j = M' i j) (hm : ∀ x ∈ m, 0 ≤ x ∧ x < (n : Int)) : ∀ (d u : Nat), u + d ≤ n → cfU M m n d u = cfU M' m n d u
  | 0, _, _ => rfl
  | d + 1, u, hd => by
    simp only [cfU]
    rw [cfV_congr h hm u (by omega) _ _ (by omega), cfU_congr h hm d (u + 1) (by omega)]
theorem resP_congr {n : Nat} {M M' : Mt} {m : List Int} (h : ∀ i j, i < n → j < n → M i j = M' i j) (hm : ∀ x ∈ m, 0 ≤ x ∧ x < (n : Int)) : resP n M m = resP n M' m := by
  unfold resP confF
  rw [cfU_congr h hm n 0 (by omega)]
theorem all_congr' {α : Type} {p q : α → Bool} : ∀ {l : List α}, (∀ x ∈ l, p x = q x) → l.all p = l.all q
  | [], _ => rfl
  | x :: l, h => by
    simp only [List.all_cons]
    rw [h x List.mem_cons_self, all_congr' (fun y hy => h y (List.mem_cons_of_mem _ hy))]
theorem dblP_congr {n : Nat} {M M' : Mt} {m : List Int} (h : ∀ i j, i < n → j < n → M i j = M' i j) (hm : ∀ x ∈ m, 0 ≤ x ∧ x < (n : Int)) : dblP n M m = dblP n M' m := by
  unfold dblP
  refine all_congr' fun u hu => all_congr' fun v hv => ?_
  have hun : u < n := by simpa using hu
  have hvu : v < u := by simpa using hv
  have e : difL M u v m = difL M' u v m := List.map_congr_left fun x hx => by
    have := hm x hx
    rw [h u x.toNat hun (by omega), h v x.toNat (by omega) (by omega)]
  unfold sepP
  rw [e]
theorem tryF_congr {F G : List Int → Option (List Int)} {l : List Int} {n : Int} (h : ∀ x, 0 ≤ x → x < n → F (l ++ [x]) = G (l ++ [x])) : ∀ (d : Nat) (v : Int), 0 ≤ v → v + d ≤ n → tryF F l d v = tryF G l d v
  | 0, _, _, _ => rfl
  | d + 1, v, h0, h1 => by
    simp only [tryF]
    rw [h v h0 (by omega), tryF_congr h d (v + 1) (by omega) (by omega)]
theorem findF_congr {p q : List Int → Bool} {n : Nat} (h : ∀ m : List Int, (∀ x ∈ m, 0 ≤ x ∧ x < (n : Int)) → p m = q m) : ∀ (k : Nat) (l : List Int), (∀ x ∈ l, 0 ≤ x ∧ x < (n : Int)) → findF p n k l = findF q n k l
  | 0, l, hl => by simp only [findF]; rw [h l hl]
  | k + 1, l, hl => by
    simp only [findF]
    have hf := fromI_le hl
    refine tryF_congr (n := n) (fun x hx0 hx1 => findF_congr h k (l ++ [x]) fun y hy => ?_) _ _ hf.1 (by omega)
    rcases List.mem_append.1 hy with hy | hy
    · exact hl y hy
    · obtain rfl := List.mem_singleton.1 hy; exact ⟨hx0, hx1⟩
theorem smallF_congr {p q : List Int → Bool} {n : Nat} (h : ∀ m : List Int, (∀ x ∈ m, 0 ≤ x ∧ x < (n : Int)) → p m = q m) : ∀ (K k : Nat), smallF p n K k = smallF q n K k
  | 0, _ => rfl
  | K + 1, k => by
    simp only [smallF]
    rw [findF_congr h k [] (fun x hx => by cases hx), smallF_congr h K (k + 1)]
end Go.Proofs.YtbeimdngghedjaaDoor.Pure
