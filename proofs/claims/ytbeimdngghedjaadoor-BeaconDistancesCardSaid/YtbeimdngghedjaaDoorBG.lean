/- The contract of graph.smallest, for any predicate. -/
import Derived.Test.YtbeimdngghedjaaDoorBF
import Derived.Laws.EntriesVeiled
namespace Go.Proofs.YtbeimdngghedjaaDoor.P
set_option linter.unusedVariables false
set_option linter.unusedSimpArgs false
open Go Go.RowKit Go.Proofs.YtbeimdngghedjaaDoorW.PrintWords Go.Proofs.YtbeimdngghedjaaDoorW.PrintLast Go.Proofs.YtbeimdngghedjaaDoorW.PrintMore

/-- The first smallest landmarks that are good, of at most so many sizes. -/
def smallF (p : List Int → Bool) (n : Nat) : Nat → Nat → Option (List Int)
  | 0, _ => none
  | K + 1, k => match findF p n k [] with
    | some r => some r
    | none => smallF p n K (k + 1)
theorem caps_start (w : World) (B : Option Addr) (gf n : Nat) (G : List S82) (hg : Kd.C k82 w B 1 G) (hgn : (rd_T82 G 0).f0 = n) :
    Caps (((w.alloc (.cells #[.pointer B] 71)).alloc (.cells #[.func (.func gf) #[.pointer B] #[]] 43)).alloc (.cells #[.func (.func 65) #[] #[.pointer (some ⟨w.heap.size + 1, 0, none⟩), .pointer (some ⟨w.heap.size, 0, none⟩), .pointer (some ⟨w.heap.size + 2, 0, none⟩)]] 91))
      w.heap.size (w.heap.size + 1) (w.heap.size + 2) B gf n G := by
  obtain ⟨w1, h1⟩ : ∃ w1, w.alloc (.cells #[.pointer B] 71) = w1 := ⟨_, rfl⟩
  obtain ⟨w2, h2⟩ : ∃ w2, w1.alloc (.cells #[.func (.func gf) #[.pointer B] #[]] 43) = w2 := ⟨_, rfl⟩
  obtain ⟨w3, h3⟩ : ∃ w3, w2.alloc (.cells #[.func (.func 65) #[] #[.pointer (some ⟨w.heap.size + 1, 0, none⟩), .pointer (some ⟨w.heap.size, 0, none⟩), .pointer (some ⟨w.heap.size + 2, 0, none⟩)]] 91) = w3 := ⟨_, rfl⟩
  rw [h1, h2, h3]
  have s1 : w1.heap.size = w.heap.size + 1 := by rw [← h1]; simp
  have s2 : w2.heap.size = w.heap.size + 2 := by rw [← h2]; simp [s1]
  have k1 : w1.heap[w.heap.size]? = some (.cells #[.pointer B] 71 (0, 0)) := by rw [← h1]; exact blk_new _ _
  have k2 : w2.heap[w.heap.size + 1]? = some (.cells #[.func (.func gf) #[.pointer B] #[]] 43 (0, 0)) := by rw [← h2, ← s1]; exact blk_new _ _
  have k3 : w3.heap[w.heap.size + 2]? = some (.cells #[.func (.func 65) #[] #[.pointer (some ⟨w.heap.size + 1, 0, none⟩), .pointer (some ⟨w.heap.size, 0, none⟩), .pointer (some ⟨w.heap.size + 2, 0, none⟩)]] 91 (0, 0)) := by rw [← h3, ← s2]; exact blk_new _ _
  have k1' : w3.heap[w.heap.size]? = some (.cells #[.pointer B] 71 (0, 0)) := by rw [← h3, ← h2]; exact blk_alloc (blk_alloc k1 _) _
  have k2' : w3.heap[w.heap.size + 1]? = some (.cells #[.func (.func gf) #[.pointer B] #[]] 43 (0, 0)) := by rw [← h3]; exact blk_alloc k2 _
  have hb : Below w.heap.size w w3 := by rw [← h3, ← h2, ← h1]; exact below_alloc (below_alloc (below_alloc (Below.refl _ _) _) _) _
  refine ⟨?_, ?_, ?_, Kd.C_below hg hb, hgn⟩
  · rw [blk_cell k1']; rfl
  · rw [blk_cell k2']; rfl
  · rw [blk_cell k3]; rfl
set_option maxRecDepth 100000 in
set_option maxHeartbeats 4000000 in
theorem smallest_calls (p : List Int → Bool) (gf : Nat) (eg : ∀ args w, (callFunc gf args).run Tryd.prog w = .ok (.enter gf args) w) (n : Nat) (w : World) (B : Option Addr) (hp : GoodFn gf B p n w) (G : List S82) (hn : n ≤ 10)
    (hg : Kd.C k82 w B 1 G) (hgn : (rd_T82 G 0).f0 = n) (r : List Int) (h : smallF p n 11 0 = some r) :
    Calls Tryd.prog 48 #[.pointer B, .func (.func gf) #[.pointer B] #[]] w fun e w' => ∃ v, e = .returned v ∧ OwnI w' w.heap.size v r ∧ Below w.heap.size w w' := by
  have HG := Aside0.mk hg
  have HGN := Aside0.mk hgn
  have HF := Lib.hid (find_calls p gf eg n w B hp w.heap.size (w.heap.size + 1) (w.heap.size + 2) G w.heap.size hn)
  have HS := Aside0.mk h
  clear hp hg hgn h
  go_enter Tryd.func48, Tryd.ntmps48
  go_wp2
  go_loopg [6] 11 (fun gg v6 wr => ∃ k K : Nat, k + K = 11 ∧ K ≤ gg ∧ v6 = .int .i64 k ∧ Aside0 (smallF p n K k = some r) ∧ Aside0 (Caps wr w.heap.size (w.heap.size + 1) (w.heap.size + 2) B gf n G) ∧ Aside0 (Below w.heap.size w wr))
  case atStart =>
    refine ⟨0, 11, rfl, Nat.le_refl _, rfl, HS, ⟨?_⟩, ⟨?_⟩⟩
    · exact caps_start w B gf n G HG.out HGN.out
    · repeat (first | (with_reducible apply below_alloc) | (with_reducible refine below_set ?_ (by omega)) | exact Below.refl _ _)
  case round =>
    obtain ⟨k, K, hkK, hgg, rfl, HK, HC, HB⟩ := hrel
    cases K with
    | zero => exact absurd HK.out (by simp [smallF])
    | succ K =>
      have cf := HC.out.cf
      have HFK := Aside0.mk (HF.out k wr (.slice none 0 0) [] (by omega) HB.out HC.out ⟨rfl, .inl ⟨rfl, rfl⟩⟩ (fun x hx => by cases hx) (by simp [fromI]) HB.out.size (fun _ => rfl))
      have HU := Aside0.mk (show (match findF p n k [] with
        | some r => some r
        | none => smallF p n K (k + 1)) = some r from HK.out)
      cases hff : findF p n k [] with
      | some r2 =>
        rw [hff] at HFK HU
        obtain rfl : r2 = r := Option.some.inj HU.out
        clear HU hff
        go_wp2_with (go_at_call 65; with_reducible refine HFK.out.mono ?_; intro e w7 hpost; unfold FindPost at hpost; obtain ⟨⟨v7, he7, hr7⟩, hb7⟩ := hpost; subst he7; have HR7 := Aside0.mk hr7; have HB7 := Aside0.mk (HB.out.trans (hb7.mono HB.out.size)); clear hr7 hb7)
        go_ret
        exact ⟨v7, rfl, HR7.out _ rfl, HB7.out⟩
      | none =>
        rw [hff] at HFK HU
        clear hff
        go_wp2_with (go_at_call 65; with_reducible refine HFK.out.mono ?_; intro e w7 hpost; unfold FindPost at hpost; obtain ⟨⟨v7, he7, hr7⟩, hb7⟩ := hpost; subst he7; have HB7 := Aside0.mk (HB.out.trans (hb7.mono HB.out.size)); have HC7 := Aside0.mk (HC.out.below hb7); clear hr7 hb7)
        go_roundg K
        case measure => omega
        case rel => exact ⟨k + 1, K, by omega, Nat.le_refl _, by go_num, HU, HC7, HB7⟩
end Go.Proofs.YtbeimdngghedjaaDoor.P
