/- What beacon's lives answers: true, and nothing else. -/
import Derived.Test.YtbeimdngghedjaaDoorBT
import Derived.Test.YtbeimdngghedjaaDoorPF16d
namespace Go.Proofs.YtbeimdngghedjaaDoor.P
open Go Go.RowKit Go.Proofs.YtbeimdngghedjaaDoor.Pure Go.Proofs.YtbeimdngghedjaaDoorW.PrintWords
set_option maxRecDepth 100000
def star : List S47 := [(⟨0, 1⟩ : S47), (⟨0, 2⟩ : S47), (⟨0, 3⟩ : S47)]
def path3 : List S47 := [(⟨0, 1⟩ : S47), (⟨1, 2⟩ : S47)]
def starT : List (List Int) := [[0, 1, 1, 1], [1, 0, 2, 2], [1, 2, 0, 2], [1, 2, 2, 0]]
def pathT : List (List Int) := [[0, 1, 2], [1, 0, 1], [2, 1, 0]]
theorem star_floyd : floydT 4 (rowsA 4 (edM 4 star)) = starT := by decide +kernel
theorem path_floyd : floydT 3 (rowsA 3 (edM 3 path3)) = pathT := by decide +kernel
theorem star_row : (List.range 4).map (finalM 4 star 0) = [0, 1, 1, 1] := by
  rw [← rows_get 4 (finalM 4 star) 0 (by decide), final_rows star_floyd]; rfl
theorem path_row : (List.range 3).map (finalM 3 path3 0) = [0, 1, 2] := by
  rw [← rows_get 3 (finalM 3 path3) 0 (by decide), final_rows path_floyd]; rfl
theorem star_ok : readOk 4 star = true := by
  unfold readOk rowMax
  rw [show (4 : Int).toNat = 4 from rfl, star_row]
  decide +kernel
theorem path_ok : readOk 3 path3 = true := by
  unfold readOk rowMax
  rw [show (3 : Int).toNat = 3 from rfl, path_row]
  decide +kernel
theorem star_basis : beacon_Basis.f 4 star = some ([1, 2], 0) := by
  unfold beacon_Basis.f
  rw [if_pos star_ok, show (4 : Int).toNat = 4 from rfl, smallF_congr (q := resP 4 (getT starT)) (fun m hm => resP_congr (fun i j hi hj => final_at star_floyd i j hi hj) hm)]
  decide +kernel
theorem path_double : beacon_Double.f 3 path3 = some ([0, 2], 0) := by
  unfold beacon_Double.f
  rw [if_pos path_ok, show (3 : Int).toNat = 3 from rfl, smallF_congr (q := dblP 3 (getT pathT)) (fun m hm => dblP_congr (fun i j hi hj => final_at path_floyd i j hi hj) hm)]
  decide +kernel
theorem star_with : withErr 4 star [1, 2] = 0 := by
  unfold withErr
  rw [if_pos star_ok]
  decide +kernel
theorem star_graph : graphOf 4 star = ⟨4, rowsE 4 (edE star), starT⟩ := by
  unfold graphOf
  rw [final_rows star_floyd]; rfl
theorem star_codes : beacon_Codes.f 100 4 star [1, 2] = some ([[1, 1], [0, 2], [2, 0], [2, 2]], 0) := by
  unfold beacon_Codes.f
  rw [if_pos star_with, show (4 : Int).toNat = 4 from rfl, star_graph]
  decide +kernel
theorem star_slater : beacon_Slater.f 100 4 star = some (2, 0) := by
  unfold beacon_Slater.f
  rw [if_pos star_ok, show (4 : Int).toNat = 4 from rfl, star_graph]
  decide +kernel
theorem lives_at : wogglelaw07_lives.f 100 = some true := by
  unfold wogglelaw07_lives.f
  show (some star).bind _ = _
  rw [Option.bind_some, star_basis, Option.bind_some, star_codes, Option.bind_some, star_slater, Option.bind_some]
  show (beacon_Double.f 3 path3).bind _ = _
  rw [path_double, Option.bind_some]
  decide +kernel
theorem leo_up {α : Type} {f : Nat → Option α} (m : ∀ k, LeO (f k) (f (k + 1))) {k : Nat} {r : α} (h : f k = some r) : ∀ j, f (k + j) = some r
  | 0 => h
  | j + 1 => m _ _ (leo_up m h j)
theorem wogglelaw07_lives.only (k : Nat) (r : Bool) (h : wogglelaw07_lives.f k = some r) : r = true := by
  have h1 := leo_up wogglelaw07_lives.mono h 100
  have h2 := leo_up wogglelaw07_lives.mono lives_at k
  rw [Nat.add_comm] at h2
  exact Option.some.inj (h1.symm.trans h2)
theorem lives_ev : Ev (fun k => wogglelaw07_lives.f k) true := ⟨100, fun k hk => by
  have := leo_up wogglelaw07_lives.mono lives_at (k - 100)
  rwa [show 100 + (k - 100) = k by omega] at this⟩
end Go.Proofs.YtbeimdngghedjaaDoor.P
