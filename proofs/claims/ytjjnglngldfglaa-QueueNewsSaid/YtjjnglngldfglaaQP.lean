/- Run. -/
import Derived.Test.YtjjnglngldfglaaQN
import Derived.Test.YtjjnglngldfglaaQO
namespace Go.Proofs.Ytjjnglngldfglaa.P
set_option linter.unusedVariables false
open Go Go.RowKit Go.Proofs.YtjjnglngldfglaaW.PrintWords Go.Proofs.YtjjnglngldfglaaW.PrintLast Go.Proofs.YtjjnglngldfglaaW.PrintMore
attribute [local go_sem] max2_int max_two

/-- One element of a schedule. -/
def adv (sh : Sh) (k : Nat) : Sh := if (scAt sh k).st.isIdle = true then upd sh k (scAt sh k).ch (scAt sh k).no .announce else stepS sh k
def advR (s : Sh × Int) (i : Int) : Sh × Int := (adv s.1 i.toNat, if s.2 < ((insL (adv s.1 i.toNat)).length : Int) then ((insL (adv s.1 i.toNat)).length : Int) else s.2)
def runS (sh : Sh) (l : List Int) : Sh × Int := l.foldl advR (sh, ((insL sh).length : Int))
theorem runS_snoc (sh : Sh) (l : List Int) (x : Int) : runS sh (l ++ [x]) = advR (runS sh l) x := by unfold runS; rw [List.foldl_append]; rfl
theorem upd_cl (sh : Sh) (k : Nat) (c : Bool) (m : Int) (s : St) : (upd sh k c m s).sc.length = sh.sc.length := upd_len sh k c m s
theorem stepS_len (sh : Sh) (k : Nat) : (stepS sh k).sc.length = sh.sc.length := by
  unfold stepS
  split <;> (try split) <;> (try split) <;> (try split) <;> first | rfl | exact upd_len _ _ _ _ _
theorem adv_len (sh : Sh) (k : Nat) : (adv sh k).sc.length = sh.sc.length := by
  unfold adv
  split
  · exact upd_len _ _ _ _ _
  · exact stepS_len sh k
theorem okSh_adv {sh : Sh} (h : okSh sh) (k : Nat) (hk : k < sh.sc.length) : okSh (adv sh k) := by
  unfold adv
  split
  · exact okSh_upd0 h k hk _ _ _ trivial
  · exact okSh_step h k hk
theorem errI_of (sh : Sh) (n : Nat) (h : sh.sc.length = n) (i : Int) : errI sh i = if i < 0 then 1 else if i ≥ (n : Int) then 1 else 0 := by unfold errI; rw [h]
theorem snoc_ind {p : List Int → Prop} (h0 : p []) (h1 : ∀ l x, p l → p (l ++ [x])) (l : List Int) : p l := by
  rw [← l.reverse_reverse]
  induction l.reverse with
  | nil => exact h0
  | cons x l ih => rw [List.reverse_cons]; exact h1 _ _ ih
theorem runS_ok {sh : Sh} (h : okSh sh) (l : List Int) : (∀ i ∈ l, errI sh i = 0) → okSh (runS sh l).1 ∧ (runS sh l).1.sc.length = sh.sc.length := by
  induction l using snoc_ind with
  | h0 => exact fun _ => ⟨h, rfl⟩
  | h1 l x ih =>
    intro hl
    obtain ⟨h1, h2⟩ := ih (fun i hi => hl i (List.mem_append_left _ hi))
    rw [runS_snoc]
    obtain ⟨k, rfl, hk⟩ := errI_ok (hl x (by simp))
    exact ⟨okSh_adv h1 k (by rw [h2]; exact hk), (adv_len _ _).trans h2⟩
theorem Run_lit (W : World) (b g gs B : Nat) (sh : Sh) (h : Shp W b g gs sh) (hc : W.cell? ⟨B, 0, none⟩ = some (.pointer (some ⟨g, 0, none⟩))) (x : Int) :
    Calls Try.prog 36 #[.int .i64 x, .pointer (some ⟨B, 0, none⟩)] W fun e w' => e = .returned (.bool (errI sh x != 0)) ∧ W = w' := by
  have HC := Aside0.mk (check_calls W b g gs sh h x)
  clear h
  generalize errI sh x = r at *
  go_enter Try.func36, Try.ntmps36
  go_wp2_with (fail)
  refine HC.out.mono ?_
  rintro e w' ⟨rfl, rfl⟩
  go_wp2
  go_ret
  exact ⟨rfl, rfl⟩
theorem take_snocI (l : List Int) (m : Nat) (h : m < l.length) : l.take (m + 1) = l.take m ++ [rd l m] := by
  rw [List.take_succ_eq_append_getElem h]
  congr 2
  unfold rd; simp [h]
theorem rd_in (l : List Int) (m : Nat) (h : m < l.length) : rd l m ∈ l := by
  have : rd l m = l[m] := by unfold rd; simp [h]
  rw [this]; exact List.getElem_mem h
theorem want_idle {sh : Sh} {k : Nat} (hk : k < sh.sc.length) (h : (scAt sh k).st.isIdle = true) : wantE sh k = 0 ∧ wantS sh k = adv sh k := by
  have he : errI sh k = 0 := by unfold errI; rw [if_neg (by omega), if_neg (by omega)]
  unfold wantE wantS adv
  rw [if_pos he, if_pos he, if_pos h, if_pos h, if_pos h]
  exact ⟨rfl, rfl⟩
theorem want_busy {sh : Sh} {k : Nat} (hk : k < sh.sc.length) (h : ¬ (scAt sh k).st.isIdle = true) : wantE sh k = 7 ∧ wantS sh k = sh ∧ adv sh k = stepS sh k := by
  have he : errI sh k = 0 := by unfold errI; rw [if_neg (by omega), if_neg (by omega)]
  unfold wantE wantS adv
  rw [if_pos he, if_pos he, if_neg h, if_neg h, if_neg h]
  exact ⟨rfl, rfl, rfl⟩
set_option maxRecDepth 100000 in
set_option maxHeartbeats 400000 in
theorem Run_calls (W : World) (b g gs : Nat) (sh : Sh) (h : Shp W b g gs sh) (hok : okSh sh) (hb : b ≤ W.heap.size) (A : Option Addr) (c : Nat) (l : List Int)
    (hr : ∀ w', Moved W w' b g gs → Kd.C (Kd.int .i64) w' A l.length l) (hlen : l.length ≤ 4000) (hin : ∀ i ∈ l, errI sh i = 0) :
    Calls Try.prog 15 #[.pointer (some ⟨g, 0, none⟩), .slice A l.length c] W fun e w' => e = .returned (.tuple #[.int .i64 (runS sh l).2, .int .i64 0]) ∧ Shp w' b g gs (runS sh l).1 ∧ Moved W w' b g gs := by
  obtain ⟨w1, hw1⟩ : ∃ w1, W.alloc (.cells #[.pointer (some ⟨g, 0, none⟩)] 23) = w1 := ⟨_, rfl⟩
  have hb1 : Below W.heap.size W w1 := by rw [← hw1]; exact below_alloc (Below.refl _ _) _
  have hbp : w1.cell? ⟨W.heap.size, 0, none⟩ = some (.pointer (some ⟨g, 0, none⟩)) := by rw [← hw1]; simp
  have hlt1 : W.heap.size < w1.heap.size := by rw [← hw1]; simp
  have H1 := Aside0.mk (h.below hb1)
  have M1 := Aside0.mk (Moved.of_below (g := g) (gs := gs) hb1 hb)
  have HL := Aside0.mk hr
  have LT := Aside0.mk (And.intro h.lt h.lts)
  have HK := Aside0.mk (And.intro hlt1 hb)
  have HP := Aside0.mk hbp
  have HI := Aside0.mk hin
  have HO := Aside0.mk hok
  have hany : l.any (fun x => errI sh x != 0) = false := by rw [List.any_eq_false]; intro x hx; rw [hin x hx]; decide
  have HA := Aside0.mk hany
  have hg4 : decide (4000 < (l.length : Int)) = false := decide_eq_false (by omega)
  have hg4c : decide (4000 < l.length) = false := decide_eq_false (by omega)
  have hm1 := Aside0.mk (made_calls w1 b g gs sh H1.out)
  have hcf := Aside0.mk (containsFunc.calls (fun x => errI sh x != 0) 36 #[.pointer (some ⟨W.heap.size, 0, none⟩)] (Go.Proofs.enters_of Try.func36 (by kernel_rfl) rfl) A c l w1 (hr w1 M1.out) (fun W' x hb' =>
    (Run_lit W' b g gs W.heap.size sh (H1.out.below hb') ((hb'.cell (p := ⟨W.heap.size, 0, none⟩) hlt1).trans hbp) x).mono (by rintro e w' ⟨rfl, rfl⟩; exact ⟨rfl, hb'⟩)))
  rw [HA.out] at hcf
  have HN := Aside0.mk hlen
  clear h hok hb hr hlen hin hb1 hlt1 hany
  go_enter Try.func15, Try.ntmps15
  go_wp2_with (fail)
  refine hm1.out.mono ?_
  rintro e w' ⟨rfl, rfl⟩
  go_wp2_with (fail)
  refine hcf.out.mono ?_
  rintro e w2 ⟨rfl, hb2⟩
  have M2 := Aside0.mk (M1.out.trans (Moved.of_below (g := g) (gs := gs) hb2 (by have := HK.out; omega)))
  have hbp2 := (hb2.cell (p := ⟨W.heap.size, 0, none⟩) HK.out.1).trans HP.out
  have K2 := Aside0.mk (Nat.lt_of_lt_of_le HK.out.1 hb2.size)
  have H2 := Aside0.mk (H1.out.below hb2)
  clear hb2 hbp hw1
  go_wp2_with (fail)
  refine (Inside_calls w2 b g gs sh H2.out).mono ?_
  rintro e w3 ⟨v, rfl, hR, hb3⟩
  obtain ⟨A3, c3, rfl, -, -⟩ := Kd.R_reads hR
  have M3 := Aside0.mk (M2.out.trans (Moved.of_below (g := g) (gs := gs) hb3 (by have := HK.out; have := K2.out; omega)))
  have HP3 := Aside0.mk ((hb3.cell (p := ⟨W.heap.size, 0, none⟩) K2.out).trans hbp2)
  have K3 := Aside0.mk (Nat.lt_of_lt_of_le K2.out hb3.size)
  have H3 := Aside0.mk (H2.out.below hb3)
  clear hb3 hbp2 hR
  go_wp2
  go_loopg [6, 8, 26] l.length (fun gg v6 v8 v26 w' => ∃ m : Nat, m ≤ l.length ∧ l.length - m ≤ gg ∧ v26 = .int .i64 m ∧ v6 = .int .i64 (runS sh (l.take m)).2 ∧ Aside0 (Shp w' b g gs (runS sh (l.take m)).1) ∧ Aside0 (Moved W w' b g gs) ∧ Aside0 (w'.cell? ⟨W.heap.size, 0, none⟩ = some (.pointer (some ⟨g, 0, none⟩))) ∧ Aside0 (W.heap.size < w'.heap.size))
  case atStart => exact ⟨0, Nat.zero_le _, by omega, rfl, rfl, H3, M3, HP3, K3⟩
  case round =>
    obtain ⟨m, hm, hgg, rfl, rfl, HS, HM, HB, HZ⟩ := hrel
    by_cases hlt : m < l.length
    · have hltb : decide ((m : Int) < (l.length : Int)) = true := decide_eq_true (by omega)
      have hltc : decide (m < l.length) = true := decide_eq_true hlt
      have hltz : ((m : Int) < (l.length : Int)) = True := eq_true (by omega)
      have hm1' : (m : Int) + 1 ≤ 4000 := by have := HN.out; omega
      have HLT := Aside0.mk hlt
      obtain ⟨ad, e1, hx⟩ := Kd.at_int (HL.out wr HM.out) m (by omega) (by omega)
      cases e1
      rw [Int.toNat_natCast] at hx
      have HOK := Aside0.mk (runS_ok HO.out (l.take m) (fun i hi => HI.out i (List.mem_of_mem_take hi)))
      obtain ⟨k, hk, hkl⟩ := errI_ok (HI.out _ (rd_in l m hlt))
      have HKL := Aside0.mk (show k < (runS sh (l.take m)).1.sc.length by rw [HOK.out.2]; exact hkl)
      have HT := Aside0.mk (show runS sh (l.take (m + 1)) = advR (runS sh (l.take m)) k by rw [take_snocI l m hlt, runS_snoc, hk])
      have hbp := HB.out
      rw [hk] at hx
      clear hk hkl hlt
      generalize runS sh (l.take m) = sm at *
      obtain ⟨shm, mm⟩ := sm
      have HW := Aside0.mk (Want_calls wr b g gs shm HS.out k)
      by_cases d : (scAt shm k).st.isIdle = true
      · obtain ⟨q1, q2⟩ := want_idle HKL.out d
        rw [q1, q2] at HW
        clear d q1 q2
        go_wp2_with (fail)
        refine HW.out.mono ?_
        rintro e w4 ⟨rfl, hs4, hm4⟩
        have hbp4 : w4.cell? ⟨W.heap.size, 0, none⟩ = some (.pointer (some ⟨g, 0, none⟩)) := by
          have := hm4.keep W.heap.size HZ.out (by have := LT.out; omega) (by have := LT.out; omega)
          have h0 := HB.out
          simp only [World.cell?, this] at h0 ⊢
          exact h0
        have HS4 := Aside0.mk hs4
        have HM4 := Aside0.mk hm4
        clear hs4 hm4 hbp
        go_wp2_with (fail)
        refine (Inside_calls w4 b g gs (adv shm k) HS4.out).mono ?_
        rintro e w5 ⟨v, rfl, hR, hb5⟩
        obtain ⟨A5, c5, rfl, -, -⟩ := Kd.R_reads hR
        have HB5 := Aside0.mk hb5
        have Z4 := Aside0.mk (Nat.lt_of_lt_of_le HZ.out HM4.out.le)
        have HBP4 := Aside0.mk hbp4
        clear hb5 hR hbp4
        go_wp2
        all_goals
          go_roundg (l.length - (m + 1))
          case measure => have := HLT.out; omega
          case rel => exact ⟨m + 1, by have := HLT.out; omega, Nat.le_refl _, by go_num, by rw [HT.out]; simp only [advR, Int.toNat_natCast]; (congr 1; split <;> omega), ⟨by rw [HT.out]; exact HS4.out.below HB5.out⟩, ⟨(HM.out.trans HM4.out).trans (Moved.of_below HB5.out (by have := Z4.out; have := HK.out; omega))⟩, ⟨(HB5.out.cell (p := ⟨W.heap.size, 0, none⟩) Z4.out).trans HBP4.out⟩, ⟨Nat.lt_of_lt_of_le Z4.out HB5.out.size⟩⟩
      · obtain ⟨q1, q2, q3⟩ := want_busy HKL.out d
        rw [q1, q2] at HW
        rw [show advR (shm, mm) (k : Int) = (stepS shm k, if mm < ((insL (stepS shm k)).length : Int) then ((insL (stepS shm k)).length : Int) else mm) from by simp only [advR, Int.toNat_natCast]; rw [q3]] at HT
        clear d q1 q2 q3
        go_wp2_with (fail)
        refine HW.out.mono ?_
        rintro e w3' ⟨rfl, hs3, hm3⟩
        have hbp3 : w3'.cell? ⟨W.heap.size, 0, none⟩ = some (.pointer (some ⟨g, 0, none⟩)) := by
          have := hm3.keep W.heap.size HZ.out (by have := LT.out; omega) (by have := LT.out; omega)
          have h0 := HB.out
          simp only [World.cell?, this] at h0 ⊢
          exact h0
        have HS3' := Aside0.mk hs3
        have HM3' := Aside0.mk hm3
        have Z3 := Aside0.mk (Nat.lt_of_lt_of_le HZ.out hm3.le)
        have HBP3 := Aside0.mk hbp3
        clear hs3 hm3 hbp
        go_wp2_with (fail)
        refine (Step_calls w3' b g gs shm HS3'.out k HKL.out (HOK.out.1.2 k HKL.out) (by have := Z3.out; have := HK.out; omega)).mono ?_
        rintro e w4 ⟨rfl, hs4, hm4⟩
        have hbp4 : w4.cell? ⟨W.heap.size, 0, none⟩ = some (.pointer (some ⟨g, 0, none⟩)) := by
          have := hm4.keep W.heap.size Z3.out (by have := LT.out; omega) (by have := LT.out; omega)
          have h0 := HBP3.out
          simp only [World.cell?, this] at h0 ⊢
          exact h0
        have HS4 := Aside0.mk hs4
        have HM4 := Aside0.mk hm4
        clear hs4 hm4 hbp3
        go_wp2_with (fail)
        refine (Inside_calls w4 b g gs (stepS shm k) HS4.out).mono ?_
        rintro e w5 ⟨v, rfl, hR, hb5⟩
        obtain ⟨A5, c5, rfl, -, -⟩ := Kd.R_reads hR
        have HB5 := Aside0.mk hb5
        have Z4 := Aside0.mk (Nat.lt_of_lt_of_le Z3.out HM4.out.le)
        have HBP4 := Aside0.mk hbp4
        clear hb5 hR hbp4
        go_wp2
        all_goals
          go_roundg (l.length - (m + 1))
          case measure => have := HLT.out; omega
          case rel => exact ⟨m + 1, by have := HLT.out; omega, Nat.le_refl _, by go_num, by rw [HT.out]; (congr 1; split <;> omega), ⟨by rw [HT.out]; exact HS4.out.below HB5.out⟩, ⟨((HM.out.trans HM3'.out).trans HM4.out).trans (Moved.of_below HB5.out (by have := Z4.out; have := HK.out; omega))⟩, ⟨(HB5.out.cell (p := ⟨W.heap.size, 0, none⟩) Z4.out).trans HBP4.out⟩, ⟨Nat.lt_of_lt_of_le Z4.out HB5.out.size⟩⟩
    · have hltb : decide ((m : Int) < (l.length : Int)) = false := decide_eq_false (by omega)
      have hltc : decide (m < l.length) = false := decide_eq_false hlt
      have HE := Aside0.mk (show l.take m = l from List.take_of_length_le (by omega))
      clear hlt hm hgg
      go_wp2
      go_ret2
      have hS := HS.out
      have hE := HE.out
      rw [hE] at hS ⊢
      exact ⟨rfl, hS, HM.out⟩
end Go.Proofs.Ytjjnglngldfglaa.P
