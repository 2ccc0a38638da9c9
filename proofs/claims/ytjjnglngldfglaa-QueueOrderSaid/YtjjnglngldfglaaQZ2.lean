/- QueueOrder: who finished stage 4 before goes first. -/
import Derived.Test.YtjjnglngldfglaaQZ1
namespace Go.Proofs.Ytjjnglngldfglaa.P
set_option linter.unusedVariables false
open Go Go.RowKit Go.Proofs.YtjjnglngldfglaaW.PrintWords Go.Proofs.YtjjnglngldfglaaW.PrintLast Go.Proofs.YtjjnglngldfglaaW.PrintMore

/-- b comes after a: its number will be above a's. -/
def After (a : Sc) (i : Int) (b : Sc) : Prop :=
  match b.st with
  | .read j seen => i < j → a.no ≤ seen
  | .take seen => a.no ≤ seen
  | .announced => a.no < b.no
  | .choice _ => a.no < b.no
  | .turn _ => a.no < b.no
  | _ => False
def Mid (s : St) : Prop := ∃ j, s = .choice j ∨ s = .turn j
/-- The bits that are told of shop sh. -/
def OrdBit (sh : Sh) (x : Int) (b : Nat) : Prop := 0 ≤ x ∧ x < 16 ∧ ∀ a : Nat, a < 4 → hasb x a = true → a < sh.sc.length ∧ a ≠ b ∧ Mid (scAt sh a).st ∧ After (scAt sh a) a (scAt sh b)
def OrdI (sh : Sh) (ah : List Int) : Prop := ah.length = sh.sc.length ∧ ∀ b : Nat, b < sh.sc.length → OrdBit sh (rd ah b) b
theorem ordI_new (k : Nat) : OrdI (newSh k false) (List.replicate k 0) := by
  refine ⟨by simp [newSh], fun b hb => ?_⟩
  have : rd (List.replicate k 0) b = 0 := by
    have hb' : b < k := by simpa [newSh] using hb
    unfold rd; simp [List.getD_eq_getElem?_getD, List.getElem?_replicate, hb']
  rw [this]
  exact ⟨by omega, by omega, fun a _ h => by rw [hasb_zero] at h; cases h⟩
/-- Scouts that did not move keep what is told of them. -/
theorem ordBit_keep {sh sh' : Sh} {x : Int} {b : Nat} (h : OrdBit sh x b) (hl : sh'.sc.length = sh.sc.length) (hb : scAt sh' b = scAt sh b) (ha : ∀ a : Nat, a < sh.sc.length → hasb x a = true → scAt sh' a = scAt sh a) : OrdBit sh' x b :=
  ⟨h.1, h.2.1, fun a h4 hx => by
    obtain ⟨p, q, r, s⟩ := h.2.2 a h4 hx
    rw [hl, hb, ha a p hx]
    exact ⟨p, q, r, s⟩⟩
/-- The scout that moved was told about, and stays in stage 5 or 6. -/
theorem ordBit_a {sh sh' : Sh} {t : Int} (hB : Bak sh t) {x : Int} {b v : Nat} (h : OrdBit sh x b) (hv : v < sh.sc.length) (hbv : b ≠ v) (hb : b < sh.sc.length) (hl : sh'.sc.length = sh.sc.length) (hne : ∀ i : Nat, i ≠ v → i < sh.sc.length → scAt sh' i = scAt sh i)
    (hmv : Mid (scAt sh v).st → Mid (scAt sh' v).st ∧ (scAt sh' v).no = (scAt sh v).no) : OrdBit sh' x b :=
  ⟨h.1, h.2.1, fun a h4 hx => by
    obtain ⟨p, q, r, s⟩ := h.2.2 a h4 hx
    rw [hl, hne b hbv hb]
    by_cases e : a = v
    · subst e
      obtain ⟨m1, m2⟩ := hmv r
      refine ⟨p, q, m1, ?_⟩
      unfold After at *
      rw [m2]; exact s
    · rw [hne a e p]
      exact ⟨p, q, r, s⟩⟩
theorem mid_num (s : St) : Mid s ↔ (s.num = 5 ∨ s.num = 6) := by
  unfold Mid
  cases s <;> simp [St.num]
/-- The step of a scout, when it neither leaves stage 1 nor goes inside. -/
theorem ord_other {sh : Sh} {t : Int} (hB : Bak sh t) (ht : t < 1000000) {ah : List Int} (h : OrdI sh ah) (v : Nat) (hv : v < sh.sc.length) (h1 : (scAt sh v).st.num ≠ 1) (h7 : (scAt sh v).st.num ≠ 7 → (scAt (adv sh v) v).st.num ≠ 7) : OrdI (adv sh v) ah := by
  have hl := adv_len sh v
  have hat := adv_at hB ht v hv
  have hw := hB.wf v hv
  have h4 := hB.few
  refine ⟨by rw [hl]; exact h.1, fun b hb => ?_⟩
  rw [hl] at hb
  have hbit := h.2 b hb
  by_cases e : b = v
  · subst e
    refine ⟨hbit.1, hbit.2.1, fun a ha4 hx => ?_⟩
    obtain ⟨p, q, r, s⟩ := hbit.2.2 a ha4 hx
    rw [hl, adv_ne sh b a q p]
    refine ⟨p, q, r, ?_⟩
    generalize scAt (adv sh b) b = x at *
    unfold AdvAt at hat
    unfold After at s
    cases hs : (scAt sh b).st with
    | idle => rw [hs] at s; exact s.elim
    | announce => rw [hs] at s; exact s.elim
    | read j seen =>
      rw [hs] at s hat
      obtain ⟨sn, e1, e2, e3, e4⟩ := hat
      have hk : (a : Int) < j + 1 → (scAt sh a).no ≤ sn := fun hk => by
        by_cases e : (a : Int) = j
        · rw [← e] at e2; exact e2
        · have := s (by omega); omega
      rcases e4 with ⟨e4, rfl⟩ | ⟨e4, rfl⟩
      · exact hk (by omega)
      · exact hk
    | take seen =>
      rw [hs] at s hat
      subst hat
      show (scAt sh a).no < seen + 1
      have s : (scAt sh a).no ≤ seen := s
      omega
    | announced => rw [hs] at s hat; subst hat; exact s
    | choice j =>
      rw [hs] at s hat h7
      have s : (scAt sh a).no < (scAt sh b).no := s
      obtain ⟨e1, e2⟩ := hat
      rw [← e1] at s
      rcases e2 with ⟨_, e3⟩ | ⟨_, i, e3 | e3⟩
      · rw [e3] at h7; exact absurd rfl (h7 (by simp [St.num]))
      · unfold After; rw [e3]; exact s
      · unfold After; rw [e3]; exact s
    | turn j =>
      rw [hs] at s hat
      have s : (scAt sh a).no < (scAt sh b).no := s
      obtain ⟨e1, i, e2 | e2⟩ := hat
      · rw [← e1] at s; unfold After; rw [e2]; exact s
      · rw [← e1] at s; unfold After; rw [e2]; exact s
    | inside => rw [hs] at s; exact s.elim
  · refine ordBit_a hB hbit hv e hb hl (fun i hi hil => adv_ne sh v i hi hil) (fun hm => ?_)
    generalize scAt (adv sh v) v = x at *
    unfold AdvAt at hat
    obtain ⟨j, hs | hs⟩ := hm
    · rw [hs] at hat h7
      obtain ⟨e1, e2⟩ := hat
      rcases e2 with ⟨_, e3⟩ | ⟨_, i, e3 | e3⟩
      · rw [e3] at h7; exact absurd rfl (h7 (by simp [St.num]))
      · exact ⟨⟨i, .inl e3⟩, e1⟩
      · exact ⟨⟨i, .inr e3⟩, e1⟩
    · rw [hs] at hat
      obtain ⟨e1, i, e2 | e2⟩ := hat
      · exact ⟨⟨i, .inl e2⟩, e1⟩
      · exact ⟨⟨i, .inr e2⟩, e1⟩
/-- The scout leaves stage 1: what stands of the others; of itself, by bits of scouts in stage 5 or 6. -/
theorem ord_leave {sh : Sh} {t : Int} (hB : Bak sh t) (ht : t < 1000000) {ah ah' : List Int} (h : OrdI sh ah) (v : Nat) (hv : v < sh.sc.length) (h1 : (scAt sh v).st = .announce)
    (hl' : ah'.length = ah.length) (ho : ∀ b : Nat, b ≠ v → rd ah' b = rd ah b) (hr : 0 ≤ rd ah' v ∧ rd ah' v < 16) (hbit : ∀ a : Nat, a < 4 → hasb (rd ah' v) a = true → a < sh.sc.length ∧ Mid (scAt (adv sh v) a).st) : OrdI (adv sh v) ah' := by
  have hl := adv_len sh v
  have hat := adv_at hB ht v hv
  unfold AdvAt at hat
  rw [h1] at hat
  refine ⟨by rw [hl, hl']; exact h.1, fun b hb => ?_⟩
  rw [hl] at hb
  by_cases e : b = v
  · subst e
    refine ⟨hr.1, hr.2, fun a ha4 hx => ?_⟩
    obtain ⟨p, q⟩ := hbit a ha4 hx
    have ne : a ≠ b := fun e => by
      subst e
      rw [hat] at q
      obtain ⟨j, q | q⟩ := q <;> cases q
    refine ⟨by rw [hl]; exact p, ne, q, ?_⟩
    rw [hat]
    exact fun hj => by omega
  · rw [ho b e]
    refine ordBit_keep (h.2 b hb) hl (adv_ne sh v b e hb) (fun a ha hx => ?_)
    by_cases e2 : a = v
    · subst e2
      obtain ⟨_, _, r, _⟩ := (h.2 b hb).2.2 a (by have := hB.few; omega) hx
      rw [h1] at r
      obtain ⟨j, r | r⟩ := r <;> cases r
    · exact adv_ne sh v a e2 ha
/-- Who goes inside has nobody ahead. -/
theorem ord_zero {sh : Sh} {t : Int} (hB : Bak sh t) {ah : List Int} (h : OrdI sh ah) (v : Nat) (hv : v < sh.sc.length) (hs : (scAt sh v).st = .choice sh.sc.length) : rd ah v = 0 := by
  obtain ⟨b0, b1, b2⟩ := h.2 v hv
  refine bit_zero b0 b1 (fun a ha => ?_)
  cases hx : hasb (rd ah v) a with
  | false => rfl
  | true =>
    obtain ⟨p, q, r, s⟩ := b2 a ha hx
    have lo := ((hB.pr v a hv p (Ne.symm q)).1 (by rw [hs]; show (a : Int) < _; omega)).2
    have hwa := hB.wf a p
    unfold Wf at hwa
    unfold After at s
    rw [hs] at s
    have s : (scAt sh a).no < (scAt sh v).no := s
    unfold Lo at lo
    obtain ⟨j, r | r⟩ := r
    · rw [r] at hwa; obtain ⟨-, w1, -⟩ := hwa; omega
    · rw [r] at hwa; obtain ⟨-, w1, -⟩ := hwa; omega
/-- The scout goes inside: its bit is struck everywhere. -/
theorem ord_in {sh : Sh} {t : Int} (hB : Bak sh t) (ht : t < 1000000) {ah ah' : List Int} (h : OrdI sh ah) (v : Nat) (hv : v < sh.sc.length) (hs : (scAt sh v).st = .choice sh.sc.length)
    (hl' : ah'.length = ah.length) (hbit : ∀ b : Nat, b < sh.sc.length → 0 ≤ rd ah' b ∧ rd ah' b < 16 ∧ ∀ a : Nat, a < 4 → hasb (rd ah' b) a = true → hasb (rd ah b) a = true ∧ a ≠ v) : OrdI (adv sh v) ah' := by
  have hl := adv_len sh v
  have hz := ord_zero hB h v hv hs
  refine ⟨by rw [hl, hl']; exact h.1, fun b hb => ?_⟩
  rw [hl] at hb
  obtain ⟨c0, c1, c2⟩ := hbit b hb
  refine ⟨c0, c1, fun a ha4 hx => ?_⟩
  obtain ⟨d1, d2⟩ := c2 a ha4 hx
  have e : b ≠ v := fun e => by
    subst e
    rw [hz, hasb_zero] at d1; cases d1
  obtain ⟨p, q, r, s⟩ := (h.2 b hb).2.2 a ha4 d1
  rw [hl, adv_ne sh v b e hb, adv_ne sh v a d2 p]
  exact ⟨p, q, r, s⟩
/-- Going inside is from the end of stage 5. -/
theorem to_inside {sh : Sh} {t : Int} (hB : Bak sh t) (ht : t < 1000000) (v : Nat) (hv : v < sh.sc.length) (h0 : (scAt sh v).st.num ≠ 7) (h7 : (scAt (adv sh v) v).st.num = 7) : (scAt sh v).st = .choice sh.sc.length := by
  have hat := adv_at hB ht v hv
  generalize scAt (adv sh v) v = x at *
  unfold AdvAt at hat
  cases hs : (scAt sh v).st with
  | idle => rw [hs] at hat; subst hat; simp [St.num] at h7
  | announce => rw [hs] at hat; subst hat; simp [St.num] at h7
  | read j seen =>
    rw [hs] at hat
    obtain ⟨sn, -, -, -, ⟨-, rfl⟩ | ⟨-, rfl⟩⟩ := hat <;> simp [St.num] at h7
  | take seen => rw [hs] at hat; subst hat; simp [St.num] at h7
  | announced => rw [hs] at hat; subst hat; simp [St.num] at h7
  | choice j =>
    rw [hs] at hat
    obtain ⟨-, ⟨e, -⟩ | ⟨-, i, e | e⟩⟩ := hat
    · rw [e]
    · rw [e] at h7; simp [St.num] at h7
    · rw [e] at h7; simp [St.num] at h7
  | turn j =>
    rw [hs] at hat
    obtain ⟨-, i, e | e⟩ := hat <;> (rw [e] at h7; simp [St.num] at h7)
  | inside => rw [hs] at h0; exact absurd rfl h0
theorem leave_one {sh : Sh} {t : Int} (hB : Bak sh t) (ht : t < 1000000) (v : Nat) (hv : v < sh.sc.length) (h0 : (scAt sh v).st.num = 1) : (scAt sh v).st = .announce ∧ (scAt (adv sh v) v).st.num = 2 := by
  have hat := adv_at hB ht v hv
  generalize scAt (adv sh v) v = x at *
  unfold AdvAt at hat
  cases hs : (scAt sh v).st <;> (rw [hs] at h0 hat) <;> simp [St.num] at h0
  subst hat
  exact ⟨rfl, rfl⟩
end Go.Proofs.Ytjjnglngldfglaa.P
