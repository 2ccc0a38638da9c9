/- QueueNumbers: equal numbers were taken together. -/
import Derived.Test.YtjjnglngldfglaaQZ1
namespace Go.Proofs.Ytjjnglngldfglaa.P
set_option linter.unusedVariables false
open Go Go.RowKit Go.Proofs.YtjjnglngldfglaaW.PrintWords Go.Proofs.YtjjnglngldfglaaW.PrintLast Go.Proofs.YtjjnglngldfglaaW.PrintMore

/-- In stage 2 or 3. -/
def Two (s : St) : Prop := s.num = 2 ∨ s.num = 3
/-- What a choosing scout will take is at least a's number, as far as it has read. -/
def Sees (a : Sc) (i : Int) (b : Sc) : Prop :=
  match b.st with
  | .read j seen => i < j → a.no ≤ seen
  | .take seen => a.no ≤ seen
  | _ => True
/-- Two scouts that were not together since. -/
def Apart2 (x y : Int) (a b : Nat) : Prop := hasb x b = false ∧ hasb y a = false
structure NumI (sh : Sh) (tg : List Int) : Prop where
  len : tg.length = sh.sc.length
  rng : ∀ b : Nat, b < sh.sc.length → 0 ≤ rd tg b ∧ rd tg b < 16
  see : ∀ a b : Nat, a < sh.sc.length → b < sh.sc.length → a ≠ b → Apart2 (rd tg a) (rd tg b) a b → 3 < (scAt sh a).st.num → Sees (scAt sh a) a (scAt sh b)
  num : ∀ a b : Nat, a < sh.sc.length → b < sh.sc.length → a ≠ b → Apart2 (rd tg a) (rd tg b) a b → 3 < (scAt sh a).st.num → 3 < (scAt sh b).st.num → (scAt sh a).no ≠ (scAt sh b).no
/-- At the end of an element, also: who is in stage 2 or 3 with another is told. -/
def NumT (sh : Sh) (tg : List Int) : Prop := ∀ a b : Nat, a < sh.sc.length → b < sh.sc.length → Two (scAt sh a).st → Two (scAt sh b).st → hasb (rd tg a) b = true
theorem numI_new (k : Nat) : NumI (newSh k false) (List.replicate k 0) ∧ NumT (newSh k false) (List.replicate k 0) := by
  have hl : (newSh k false).sc.length = k := by simp [newSh]
  have e : ∀ i : Nat, i < (newSh k false).sc.length → scAt (newSh k false) i = sc0 := fun i hi => by rw [scAt_nat _ i hi]; simp [newSh]
  have z : ∀ b : Nat, b < k → rd (List.replicate k 0) b = 0 := fun b hb => by unfold rd; simp [List.getD_eq_getElem?_getD, hb]
  refine ⟨⟨by simp [newSh], fun b hb => by rw [z b (by omega)]; omega, fun a b ha hb _ _ h3 => ?_, fun a b ha hb _ _ h3 => ?_⟩, fun a b ha hb h2 => ?_⟩
  · rw [e a ha] at h3; simp [sc0, St.num] at h3
  · rw [e a ha] at h3; simp [sc0, St.num] at h3
  · rw [e a ha] at h2; simp [sc0, St.num, Two] at h2
/-- More bits do no harm. -/
theorem numI_more {sh : Sh} {tg tg' : List Int} (h : NumI sh tg) (hl : tg'.length = tg.length) (hr : ∀ b : Nat, b < sh.sc.length → 0 ≤ rd tg' b ∧ rd tg' b < 16) (hm : ∀ b d : Nat, b < sh.sc.length → d < sh.sc.length → hasb (rd tg b) d = true → hasb (rd tg' b) d = true) : NumI sh tg' := by
  have hap : ∀ a b : Nat, a < sh.sc.length → b < sh.sc.length → Apart2 (rd tg' a) (rd tg' b) a b → Apart2 (rd tg a) (rd tg b) a b := fun a b ha hb hp => by
    refine ⟨?_, ?_⟩
    · cases q : hasb (rd tg a) b with
      | false => rfl
      | true => have := hp.1; rw [hm a b ha hb q] at this; exact absurd this (by decide)
    · cases q : hasb (rd tg b) a with
      | false => rfl
      | true => have := hp.2; rw [hm b a hb ha q] at this; exact absurd this (by decide)
  exact ⟨hl.trans h.len, hr, fun a b ha hb hab hp => h.see a b ha hb hab (hap a b ha hb hp), fun a b ha hb hab hp => h.num a b ha hb hab (hap a b ha hb hp)⟩
/-- The step of scout v: the row of bits is as before for the other pairs, and for v if it does not leave stage 1. -/
theorem num_step {sh : Sh} {t : Int} (hB : Bak sh t) (ht : t < 1000000) {tg tg' : List Int} (h : NumI sh tg) (hT : NumT sh tg) (v : Nat) (hv : v < sh.sc.length)
    (hl' : tg'.length = tg.length) (hr : ∀ b : Nat, b < sh.sc.length → 0 ≤ rd tg' b ∧ rd tg' b < 16)
    (ho : ∀ a b : Nat, a < sh.sc.length → b < sh.sc.length → a ≠ v → b ≠ v → hasb (rd tg' a) b = hasb (rd tg a) b)
    (hs : (scAt sh v).st.num ≠ 1 → ∀ a b : Nat, a < sh.sc.length → b < sh.sc.length → hasb (rd tg' a) b = hasb (rd tg a) b) : NumI (adv sh v) tg' := by
  have hl := adv_len sh v
  have hat := adv_at hB ht v hv
  have hwv := hB.wf v hv
  -- what is so of v, seen by the others, and of the others, seen by v
  have key : ∀ b : Nat, b < sh.sc.length → b ≠ v → Apart2 (rd tg' v) (rd tg' b) v b →
      (3 < (scAt (adv sh v) v).st.num → Sees (scAt (adv sh v) v) v (scAt sh b)) ∧ (3 < (scAt sh b).st.num → Sees (scAt sh b) b (scAt (adv sh v) v)) ∧ (3 < (scAt (adv sh v) v).st.num → 3 < (scAt sh b).st.num → (scAt (adv sh v) v).no ≠ (scAt sh b).no) := fun b hb hbv hp => by
    by_cases c1 : (scAt sh v).st.num = 1
    · obtain ⟨hs1, hn⟩ := leave_one hB ht v hv c1
      unfold AdvAt at hat
      rw [hs1] at hat
      refine ⟨fun q => by omega, fun _ => ?_, fun q => by omega⟩
      rw [hat]
      exact fun q => by omega
    · have e1 := hs c1 v b hv hb
      have e2 := hs c1 b v hb hv
      have hp0 : Apart2 (rd tg v) (rd tg b) v b := ⟨e1.symm.trans hp.1, e2.symm.trans hp.2⟩
      have s1 := h.see v b hv hb (Ne.symm hbv) hp0
      have s2 := h.see b v hb hv hbv ⟨hp0.2, hp0.1⟩
      have s3 := h.num v b hv hb (Ne.symm hbv) hp0
      have tt : ¬ (Two (scAt sh v).st ∧ Two (scAt sh b).st) := fun q => by
        have := hT v b hv hb q.1 q.2
        rw [hp0.1] at this; cases this
      generalize scAt (adv sh v) v = x at *
      unfold AdvAt at hat
      have keep : 3 < (scAt sh v).st.num → x.no = (scAt sh v).no → ((3 < x.st.num → Sees x v (scAt sh b)) ∧ (3 < x.st.num → 3 < (scAt sh b).st.num → x.no ≠ (scAt sh b).no)) := fun q e => by
        refine ⟨fun _ => ?_, fun _ q2 => by rw [e]; exact s3 q q2⟩
        have := s1 q
        unfold Sees at *
        rw [e]; exact this
      cases hs0 : (scAt sh v).st with
      | idle =>
        rw [hs0] at hat
        subst hat
        exact ⟨fun q => by simp [St.num] at q, fun _ => trivial, fun q => by simp [St.num] at q⟩
      | announce => rw [hs0] at c1; exact absurd rfl c1
      | read j seen =>
        rw [hs0] at hat
        unfold Sees at s2
        rw [hs0] at s2
        obtain ⟨sn, e1, e2, e3, e4⟩ := hat
        have hk : 3 < (scAt sh b).st.num → (b : Int) < j + 1 → (scAt sh b).no ≤ sn := fun hq hk => by
          by_cases e : (b : Int) = j
          · rw [← e] at e2; exact e2
          · have := s2 hq (by omega); omega
        rcases e4 with ⟨e4, rfl⟩ | ⟨e4, rfl⟩
        · exact ⟨fun q => by simp [St.num] at q, fun q => hk q (by omega), fun q => by simp [St.num] at q⟩
        · exact ⟨fun q => by simp [St.num] at q, fun q => hk q, fun q => by simp [St.num] at q⟩
      | take seen =>
        rw [hs0] at hat
        unfold Sees at s2
        rw [hs0] at s2
        subst hat
        refine ⟨fun _ => ?_, fun _ => trivial, fun _ q => ?_⟩
        · have nb : ¬ Two (scAt sh b).st := fun q => tt ⟨by rw [hs0]; exact .inr rfl, q⟩
          unfold Sees
          cases hb0 : (scAt sh b).st <;> first | trivial | (rw [hb0] at nb; exact absurd (.inl rfl) nb) | (rw [hb0] at nb; exact absurd (.inr rfl) nb)
        · have s2 : (scAt sh b).no ≤ seen := s2 q
          show seen + 1 ≠ _
          omega
      | announced =>
        rw [hs0] at hat
        have kp := keep (by rw [hs0]; simp [St.num]) (by rw [hat])
        exact ⟨kp.1, fun _ => by rw [hat]; trivial, kp.2⟩
      | choice j =>
        rw [hs0] at hat
        obtain ⟨e1, e2⟩ := hat
        have kp := keep (by rw [hs0]; simp [St.num]) e1
        refine ⟨kp.1, fun _ => ?_, kp.2⟩
        unfold Sees
        rcases e2 with ⟨_, e3⟩ | ⟨_, i, e3 | e3⟩ <;> (rw [e3]; trivial)
      | turn j =>
        rw [hs0] at hat
        obtain ⟨e1, e2⟩ := hat
        have kp := keep (by rw [hs0]; simp [St.num]) e1
        refine ⟨kp.1, fun _ => ?_, kp.2⟩
        unfold Sees
        obtain ⟨i, e3 | e3⟩ := e2 <;> (rw [e3]; trivial)
      | inside =>
        rw [hs0] at hat
        subst hat
        exact ⟨fun q => by simp [St.num] at q, fun _ => trivial, fun q => by simp [St.num] at q⟩
  refine ⟨by rw [hl, hl']; exact h.len, by rw [hl]; exact hr, fun a b ha hb hab hp => ?_, fun a b ha hb hab hp => ?_⟩
  · rw [hl] at ha hb
    by_cases ea : a = v
    · subst ea
      rw [adv_ne sh a b (Ne.symm hab) hb]
      exact (key b hb (Ne.symm hab) hp).1
    · rw [adv_ne sh v a ea ha]
      by_cases eb : b = v
      · subst eb
        exact (key a ha hab ⟨hp.2, hp.1⟩).2.1
      · rw [adv_ne sh v b eb hb]
        exact h.see a b ha hb hab ⟨(ho a b ha hb ea eb).symm.trans hp.1, (ho b a hb ha eb ea).symm.trans hp.2⟩
  · rw [hl] at ha hb
    by_cases ea : a = v
    · subst ea
      rw [adv_ne sh a b (Ne.symm hab) hb]
      exact (key b hb (Ne.symm hab) hp).2.2
    · rw [adv_ne sh v a ea ha]
      by_cases eb : b = v
      · subst eb
        exact fun q1 q2 e => (key a ha hab ⟨hp.2, hp.1⟩).2.2 q2 q1 e.symm
      · rw [adv_ne sh v b eb hb]
        exact h.num a b ha hb hab ⟨(ho a b ha hb ea eb).symm.trans hp.1, (ho b a hb ha eb ea).symm.trans hp.2⟩
end Go.Proofs.Ytjjnglngldfglaa.P
