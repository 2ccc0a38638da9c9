/- Clone. -/
import Derived.Test.YtjjnglngldfglaaQU
import Derived.ArgAppend
import Derived.Lib.SliceRun
namespace Go.Proofs.Ytjjnglngldfglaa.P
set_option linter.unusedVariables false
open Go Go.RowKit Go.Proofs.YtjjnglngldfglaaW.PrintWords Go.Proofs.YtjjnglngldfglaaW.PrintLast Go.Proofs.YtjjnglngldfglaaW.PrintMore

theorem scV_one (l : List Sc) : ∀ u ∈ scV l, u.oneCell' = true := by
  induction l with
  | nil => intro u hu; cases hu
  | cons s l ih =>
    intro u hu
    rw [scV_cons] at hu
    obtain ⟨a, b, e⟩ : ∃ a b, s.st.val = .iface a b := by cases s.st <;> exact ⟨_, _, rfl⟩
    rw [e] at hu
    simp only [List.mem_cons] at hu
    rcases hu with rfl | rfl | rfl | hu
    · rfl
    · rfl
    · rfl
    · exact ih u hu
theorem nil_eql65 (W : World) (A : Addr) (n c : Nat) : (binOp .eql 65 (.slice (some A) n c) (.slice none 0 0)).run Try.prog W = .ok (.bool false) W := by
  exact Lib.run_eql_slice_nil (P := Try.prog) W 65 76 (some A) n c 0 0 Try.underlying65
set_option maxRecDepth 100000 in
set_option maxHeartbeats 400000 in
theorem CloneS_calls (W : World) (gs cp : Nat) (l : List Sc) (rest : List Value) (h : W.heap[gs]? = some (.cells (scV l ++ rest).toArray 76 (0, 0))) (h0 : 0 < l.length) (h4 : l.length ≤ 4) :
    Calls Try.prog 43 #[.slice (some ⟨gs, 0, none⟩) l.length cp] W fun e w' => ∃ g cap rest', e = .returned (.slice (some ⟨g, 0, none⟩) l.length cap) ∧ w'.heap[g]? = some (.cells (scV l ++ rest').toArray 76 (0, 0)) ∧ W.heap.size ≤ g ∧ g < w'.heap.size ∧ Below W.heap.size W w' := by
  have H := Aside0.mk h
  have HL := Aside0.mk (And.intro h0 h4)
  obtain ⟨i0, hi, hz0, hsz, hby⟩ := info_parts info76
  have HI := Aside0.mk (And.intro hi (And.intro hz0 (And.intro hsz hby)))
  have HB1 := Aside0.mk (below_alloc (Below.refl W.heap.size W) (.cells #[] 76))
  have hcell := Aside0.mk (show ∀ (j : Nat) (u : Value), (scV l)[j]? = some u → (W.alloc (.cells #[] 76)).cell? ((⟨gs, 0, none⟩ : Addr).add j) = some u from fun j u hj => by
    have e : (⟨gs, 0, none⟩ : Addr).add j = ⟨gs, j, none⟩ := by cases j <;> simp [Addr.add]
    rw [e]
    have h2 : (W.alloc (.cells #[] 76)).heap[gs]? = some (.cells (scV l ++ rest).toArray 76 (0, 0)) := (HB1.out.block gs (Array.getElem?_eq_some_iff.1 h).1).trans h
    simp only [World.cell?, h2]
    have h3 : (scV l ++ rest)[j]? = some u := by rw [List.getElem?_append_left (List.getElem?_eq_some_iff.1 hj).1]; exact hj
    simp [h3])
  have hlen := Aside0.mk (show (scV l).length = l.length * 3 by rw [scV_length, Nat.mul_comm])
  have hnil := nil_eql65 W ⟨gs, 0, none⟩ l.length cp
  clear h h0 h4 hi hz0 hsz hby
  go_enter Try.func43, Try.ntmps43
  go_wp2_with (first | ((with_reducible refine gate_builtin (b := .append) (xs := #[.tmp 5, .tmp 6]) rfl ?_); at_builtin; go_loud (refine wpList_append_grows _ rfl (.tmp 5) (.tmp 6) 65 rfl 76 _ (.agg #[.bool false, .int .i64 0, .nilIface]) 3 32 Try.underlying65 HI.out.1 HI.out.2.1 HI.out.2.2.1 HI.out.2.2.2 rfl (by decide) (some ⟨W.heap.size, 0, none⟩) 0 0 [] rfl (fun h => by cases h) rfl (fun _ _ j u hj => by simp at hj) ⟨gs, 0, none⟩ l.length cp (scV l) rfl hlen.out hcell.out (scV_one l) ?c1 ?c2 ?c3 ?_; (case c1 => have := HL.out; omega); (case c2 => have := HL.out; unfold maxLen; omega); (case c3 => have := HL.out; omega); intro v' w2 hown hgrow; have HOW := Aside0.mk hown; have HGR := Aside0.mk hgrow; clear hown hgrow)))
  have hown := HOW.out
  obtain ⟨hx, hy | ⟨g, cap, cur, rfl, hb, hc, hn, hm, hs, ht⟩⟩ := hown
  · have := HL.out; have := hy.2; omega
  · simp only [Nat.zero_add, List.nil_append] at *
    have HC := Aside0.mk (show w2.heap[g]? = some (.cells (scV l ++ cur.toList.drop (l.length * 3)).toArray 76 (0, 0)) by
      rw [hc]
      have e : scV l ++ cur.toList.drop (l.length * 3) = cur.toList := by rw [← ht]; exact List.take_append_drop _ _
      rw [e])
    have HG := Aside0.mk (show W.heap.size ≤ g by simp at hb; omega)
    have HL2 := Aside0.mk (Array.getElem?_eq_some_iff.1 hc).1
    have HB2 := Aside0.mk (show Below W.heap.size W w2 from (HB1.out.grown HGR.out (by simp) (by simp)))
    clear hx hb hc hn hm hs ht HOW
    go_wp2
    go_ret
    exact ⟨g, cap, _, rfl, HC.out, HG.out, HL2.out, HB2.out⟩
set_option maxRecDepth 100000 in
set_option maxHeartbeats 400000 in
theorem Clone_calls (W : World) (b g gs : Nat) (sh : Sh) (h : Shp W b g gs sh) : Calls Try.prog 30 #[.pointer (some ⟨g, 0, none⟩)] W fun e w' => ∃ G gs' cap, e = .returned (.pointer (some ⟨G, 0, none⟩)) ∧ Shp w' W.heap.size G gs' { sh with cp := cap } ∧ Below W.heap.size W w' := by
  have hc := Aside0.mk (made_calls W b g gs sh h)
  have H := Aside0.mk h
  have c0 := h.c0
  have c1 := h.c1
  have c2 := h.c2
  obtain ⟨w1, hw1⟩ : ∃ w1, W.alloc (.cells #[.slice (some ⟨gs, 0, none⟩) sh.sc.length sh.cp, .bool sh.cl, .int .i64 sh.tk] 67) = w1 := ⟨_, rfl⟩
  obtain ⟨G, hG⟩ : ∃ G, W.heap.size = G := ⟨_, rfl⟩
  have HGE := Aside0.mk hG
  have hb1 := Aside0.mk (show Below W.heap.size W w1 by rw [← hw1]; exact below_alloc (Below.refl _ _) _)
  have hblk := Aside0.mk (show w1.heap[G]? = some (.cells #[.slice (some ⟨gs, 0, none⟩) sh.sc.length sh.cp, .bool sh.cl, .int .i64 sh.tk] 67 (0, 0)) by rw [← hw1, ← hG]; exact alloc_at _ _)
  have H1 := Aside0.mk (H.out.below hb1.out)
  have z0 := H1.out.c0
  clear h
  obtain ⟨rest, hrest⟩ := H1.out.hs
  have HCL := Aside0.mk (CloneS_calls w1 gs sh.cp sh.sc rest hrest H.out.pos H.out.few)
  clear hrest
  go_enter Try.func30, Try.ntmps30
  go_wp2_with (fail)
  refine hc.out.mono ?_
  rintro e w' ⟨rfl, rfl⟩
  go_wp2_with (fail)
  clear hw1
  refine HCL.out.mono ?_
  rintro e w2 ⟨g', cap, rest', rfl, hs, hle, hlt, hb⟩
  have hblk2 := Aside0.mk ((hb.block G (Array.getElem?_eq_some_iff.1 hblk.out).1).trans hblk.out)
  have HS2 := Aside0.mk hs
  have HLE := Aside0.mk (And.intro hle hlt)
  have HB2 := Aside0.mk (hb1.out.trans (hb.mono hb1.out.size))
  have HLG := Aside0.mk (show G < w1.heap.size from (Array.getElem?_eq_some_iff.1 hblk.out).1)
  have y0 : w2.cell? ⟨G, 0, none⟩ = some (.slice (some ⟨gs, 0, none⟩) sh.sc.length sh.cp) := by have := hblk2.out; simp [World.cell?, this]
  have y1 : w2.frozen? ⟨G, 0, none⟩ = false := by have := hblk2.out; simp [World.frozen?, this]
  clear hs hle hlt hb c0 c1 c2 z0
  go_wp2
  go_ret
  refine ⟨G, g', cap, rfl, ⟨?_, ⟨rest', ?_⟩, by have := HGE.out; omega, by have := HLE.out.1; have := hb1.out.size; omega, H.out.pos, H.out.few⟩, HB2.out.setCell (by have := HGE.out; show _ ≤ G; omega) _⟩
  · rw [heap_setCell_same w2 G _ _ 67 _ hblk2.out]
    simp
  · rw [Below.heap_setCell w2 _ _ g' (by have := HLE.out.1; have := HLG.out; show g' ≠ G; omega)]
    exact HS2.out
end Go.Proofs.Ytjjnglngldfglaa.P
