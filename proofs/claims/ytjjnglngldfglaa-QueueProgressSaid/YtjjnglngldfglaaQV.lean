/- Lamport's bakery: what holds in every state of a shop that is not careless. -/
import Derived.Test.YtjjnglngldfglaaQU
namespace Go.Proofs.Ytjjnglngldfglaa.P
set_option linter.unusedVariables false
open Go Go.RowKit Go.Proofs.YtjjnglngldfglaaW.PrintWords Go.Proofs.YtjjnglngldfglaaW.PrintLast Go.Proofs.YtjjnglngldfglaaW.PrintMore

/-- Scout i has passed scout k. -/
def Past : St → Int → Prop
  | .choice j, k => k < j
  | .turn j, k => k < j
  | .inside, _ => True
  | _, _ => False
/-- If b is choosing, its number will be above a's, as far as it has read. -/
def Qd (a : Sc) (i : Int) (b : Sc) : Prop :=
  match b.st with
  | .read j seen => i < j → a.no ≤ seen
  | .take seen => a.no ≤ seen
  | _ => True
def Lo (a : Sc) (i : Int) (b : Sc) (k : Int) : Prop := b.no = 0 ∨ a.no < b.no ∨ (a.no = b.no ∧ i < k)
def Pair (a : Sc) (i : Int) (b : Sc) (k : Int) : Prop := (Past a.st k → Qd a i b ∧ Lo a i b k) ∧ (a.st = .turn k → Qd a i b)
/-- What a scout is like. -/
def Wf (n : Int) (t : Int) (i : Int) (a : Sc) : Prop :=
  match a.st with
  | .idle => a.ch = false ∧ a.no = 0
  | .announce => a.ch = false ∧ a.no = 0
  | .read j seen => a.ch = true ∧ a.no = 0 ∧ 0 ≤ j ∧ j < n ∧ 0 ≤ seen ∧ seen ≤ t
  | .take seen => a.ch = true ∧ a.no = 0 ∧ 0 ≤ seen ∧ seen ≤ t
  | .announced => a.ch = true ∧ 1 ≤ a.no ∧ a.no ≤ t
  | .choice j => a.ch = false ∧ 1 ≤ a.no ∧ a.no ≤ t ∧ 0 ≤ j ∧ j ≤ n
  | .turn j => a.ch = false ∧ 1 ≤ a.no ∧ a.no ≤ t ∧ 0 ≤ j ∧ j < n ∧ j ≠ i
  | .inside => a.ch = false ∧ 1 ≤ a.no ∧ a.no ≤ t
structure Bak (sh : Sh) (t : Int) : Prop where
  cl : sh.cl = false
  few : sh.sc.length ≤ 4
  t0 : 0 ≤ t
  wf : ∀ i : Nat, i < sh.sc.length → Wf sh.sc.length t i (scAt sh i)
  pr : ∀ i k : Nat, i < sh.sc.length → k < sh.sc.length → i ≠ k → Pair (scAt sh i) i (scAt sh k) k
theorem Wf.mono {n t t' i : Int} {a : Sc} (h : Wf n t i a) (ht : t ≤ t') : Wf n t' i a := by
  unfold Wf at *
  split at h <;> first | exact h | (obtain ⟨h1, h2⟩ := h; refine ⟨h1, ?_⟩; omega) | skip
theorem Wf.no0 {n t i : Int} {a : Sc} (h : Wf n t i a) (ht : 0 ≤ t) : 0 ≤ a.no ∧ a.no ≤ t := by
  unfold Wf at h
  split at h <;> omega
theorem bak_upd {sh : Sh} {t t' : Int} (h : Bak sh t) (ht : t ≤ t') (m : Nat) (hm : m < sh.sc.length) (c : Bool) (no : Int) (st : St) (tk : Int) (hw : Wf sh.sc.length t' m ⟨c, no, st⟩)
    (hp : ∀ k : Nat, k < sh.sc.length → k ≠ m → Pair ⟨c, no, st⟩ m (scAt sh k) k ∧ Pair (scAt sh k) k ⟨c, no, st⟩ m) : Bak { upd sh m c no st with tk := tk } t' := by
  have hl : ({ upd sh m c no st with tk := tk } : Sh).sc.length = sh.sc.length := upd_len sh m c no st
  have e : ∀ i : Int, scAt { upd sh m c no st with tk := tk } i = scAt (upd sh m c no st) i := fun _ => rfl
  refine ⟨h.cl, by rw [hl]; exact h.few, by have := h.t0; omega, fun i hi => ?_, fun i k hi hk hik => ?_⟩
  · rw [hl] at hi ⊢
    rw [e]
    by_cases d : i = m
    · subst d; rw [upd_at _ _ _ _ _ hm]; exact hw
    · rw [scAt_upd_ne _ _ _ d hi]; exact (h.wf i hi).mono ht
  · rw [hl] at hi hk
    rw [e, e]
    by_cases d : i = m
    · subst d
      rw [upd_at _ _ _ _ _ hm, scAt_upd_ne _ _ _ (Ne.symm hik) hk]
      exact (hp k hk (Ne.symm hik)).1
    · rw [scAt_upd_ne _ _ _ d hi]
      by_cases d2 : k = m
      · subst d2; rw [upd_at _ _ _ _ _ hm]; exact (hp i hi d).2
      · rw [scAt_upd_ne _ _ _ d2 hk]; exact h.pr i k hi hk hik
/-- A scout that comes to a stage that is not past anybody, with number 0 or as before, and is not choosing. -/
theorem pair_new {a b x : Sc} {i k : Int} (h : Pair b k a i) (hx : ∀ p, x.st ≠ .turn p) (hp : ∀ p, ¬ Past x.st p) (hq : Past b.st i ∨ b.st = .turn i → Qd b k a → Qd b k x) (hl : Past b.st i → Qd b k a → Lo b k a i → Lo b k x i) : Pair x i b k ∧ Pair b k x i :=
  ⟨⟨fun c => absurd c (hp k), fun c => absurd c (hx k)⟩, fun c => ⟨hq (.inl c) (h.1 c).1, hl c (h.1 c).1 (h.1 c).2⟩, fun c => hq (.inr c) (h.2 c)⟩
theorem bak_adv {sh : Sh} {t : Int} (h : Bak sh t) (ht : t < 1000000) (m : Nat) (hm : m < sh.sc.length) : Bak (adv sh m) (t + 1) := by
  have hw := h.wf m hm
  have hpr : ∀ k : Nat, k < sh.sc.length → k ≠ m → Pair (scAt sh m) m (scAt sh k) k ∧ Pair (scAt sh k) k (scAt sh m) m := fun k hk d => ⟨h.pr m k hm hk (Ne.symm d), h.pr k m hk hm d⟩
  have hb : ∀ k : Nat, k < sh.sc.length → 0 ≤ (scAt sh k).no ∧ (scAt sh k).no ≤ t := fun k hk => (h.wf k hk).no0 h.t0
  have h4 := h.few
  have h0 := h.t0
  unfold adv
  by_cases c : (scAt sh m).st.isIdle = true
  · rw [if_pos c]
    have hs : (scAt sh m).st = .idle := by
      cases hs : (scAt sh m).st <;> rw [hs] at c <;> first | rfl | exact absurd c (by simp [St.isIdle])
    unfold Wf at hw
    rw [hs] at hw
    refine bak_upd h (by omega) m hm _ _ _ sh.tk ⟨hw.1, hw.2⟩ (fun k hk d => pair_new (hpr k hk d).2 (fun p e => by cases e) (fun p e => e) (fun _ _ => trivial) (fun _ _ _ => .inl hw.2))
  · rw [if_neg c]
    unfold stepS
    cases hs : (scAt sh m).st with
    | idle => rw [hs] at c; exact absurd rfl c
    | announce =>
      unfold Wf at hw
      rw [hs] at hw
      refine bak_upd h (by omega) m hm _ _ _ sh.tk ⟨rfl, hw.2, by omega, by omega, by omega, by omega⟩ (fun k hk d => pair_new (hpr k hk d).2 (fun p e => by cases e) (fun p e => e) (fun _ _ q => by omega) (fun _ _ _ => .inl hw.2))
    | read j seen =>
      unfold Wf at hw
      rw [hs] at hw
      obtain ⟨w1, w2, w3, w4, w5, w6⟩ := hw
      obtain ⟨j, rfl⟩ := Int.eq_ofNat_of_zero_le w3
      have hj := hb j (by omega)
      have hmx : ∀ k : Nat, Qd (scAt sh k) k (scAt sh m) → (k : Int) < (j : Int) + 1 → (scAt sh k).no ≤ (if seen < (scAt sh j).no then (scAt sh j).no else seen) := fun k hq hk => by
        unfold Qd at hq
        rw [hs] at hq
        have hq : (k : Int) < (j : Int) → (scAt sh k).no ≤ seen := hq
        by_cases e : k = j
        · subst e; split <;> omega
        · have := hq (by omega)
          split <;> omega
      obtain ⟨mxv, hg⟩ : ∃ v, (if seen < (scAt sh j).no then (scAt sh j).no else seen) = v := ⟨_, rfl⟩
      rw [hg] at hmx
      have hmb : 0 ≤ mxv ∧ mxv ≤ t := by rw [← hg]; split <;> omega
      by_cases e : (j : Int) + 1 = sh.sc.length
      · simp only [if_pos e, hg]
        refine bak_upd h (by omega) m hm _ _ _ sh.tk ⟨w1, w2, by omega, by omega⟩ (fun k hk d => pair_new (hpr k hk d).2 (fun p e => by cases e) (fun p e => e) (fun _ q => hmx k q (by omega)) (fun _ _ _ => .inl w2))
      · simp only [if_neg e, hg]
        refine bak_upd h (by omega) m hm _ _ _ sh.tk ⟨w1, w2, by omega, by omega, by omega, by omega⟩ (fun k hk d => pair_new (hpr k hk d).2 (fun p e => by cases e) (fun p e => e) (fun _ q => fun hkj => hmx k q hkj) (fun _ _ _ => .inl w2))
    | take seen =>
      unfold Wf at hw
      rw [hs] at hw
      obtain ⟨w1, w2, w3, w4⟩ := hw
      have e : wrap64 (seen + 1) = seen + 1 := by unfold wrap64; omega
      simp only [e]
      refine bak_upd h (by omega) m hm _ _ _ sh.tk ⟨w1, by show 1 ≤ seen + 1; omega, by show seen + 1 ≤ t + 1; omega⟩ (fun k hk d => pair_new (hpr k hk d).2 (fun p e => by cases e) (fun p e => e) (fun _ _ => trivial) (fun _ q _ => .inr (.inl ?_)))
      unfold Qd at q
      rw [hs] at q
      show (scAt sh k).no < seen + 1
      have q : (scAt sh k).no ≤ seen := q
      omega
    | announced =>
      unfold Wf at hw
      rw [hs] at hw
      obtain ⟨w1, w2, w3⟩ := hw
      refine bak_upd h (by omega) m hm _ _ _ sh.tk ⟨rfl, w2, by show (scAt sh m).no ≤ t + 1; omega, by omega, by omega⟩ (fun k hk d => ⟨⟨fun c => ?_, fun c => by cases c⟩, fun c => ⟨trivial, ((hpr k hk d).2.1 c).2⟩, fun _ => trivial⟩)
      exact absurd c (show ¬ ((k : Int) < 0) by omega)
    | choice j =>
      unfold Wf at hw
      rw [hs] at hw
      obtain ⟨w1, w2, w3, w4, w5⟩ := hw
      obtain ⟨j, rfl⟩ := Int.eq_ofNat_of_zero_le w4
      have hpa : ∀ k : Nat, k < sh.sc.length → k ≠ m → k < j → Qd (scAt sh m) m (scAt sh k) ∧ Lo (scAt sh m) m (scAt sh k) k := fun k hk d hkj => (hpr k hk d).1.1 (by rw [hs]; show (k : Int) < j; omega)
      by_cases e : (j : Int) = sh.sc.length
      · simp only [if_pos e]
        refine bak_upd h (by omega) m hm _ _ _ _ ⟨w1, w2, by show (scAt sh m).no ≤ t + 1; omega⟩ (fun k hk d => ⟨⟨fun _ => hpa k hk d (by omega), fun c => by cases c⟩, fun c => ⟨trivial, ((hpr k hk d).2.1 c).2⟩, fun _ => trivial⟩)
      · simp only [if_neg e]
        have ew : wrap64 ((j : Int) + 1) = (j : Int) + 1 := wrap_few j (by omega) (by omega)
        by_cases e2 : (j : Int) = m
        · simp only [if_pos e2, ew]
          refine bak_upd h (by omega) m hm _ _ _ sh.tk ⟨w1, w2, by show (scAt sh m).no ≤ t + 1; omega, by omega, by omega⟩ (fun k hk d => ⟨⟨fun c => hpa k hk d (by have : (k : Int) < (j : Int) + 1 := c; omega), fun c => by cases c⟩, fun c => ⟨trivial, ((hpr k hk d).2.1 c).2⟩, fun _ => trivial⟩)
        · simp only [if_neg e2]
          by_cases e3 : (scAt sh j).ch = true ∧ sh.cl = false
          · simp only [if_pos e3]
            exact ⟨h.cl, h.few, by omega, fun i hi => (h.wf i hi).mono (by omega), h.pr⟩
          · simp only [if_neg e3]
            have hch : (scAt sh j).ch = false := by
              cases hc : (scAt sh j).ch with
              | false => rfl
              | true => exact absurd ⟨hc, h.cl⟩ e3
            refine bak_upd h (by omega) m hm _ _ _ sh.tk ⟨w1, w2, by show (scAt sh m).no ≤ t + 1; omega, by omega, by omega, e2⟩ (fun k hk d => ⟨⟨fun c => hpa k hk d (by have : (k : Int) < (j : Int) := c; omega), fun c => ?_⟩, fun c => ⟨trivial, ((hpr k hk d).2.1 c).2⟩, fun _ => trivial⟩)
            have hk2 : j = k := by have : St.turn (j : Int) = St.turn (k : Int) := c; injection this with this; omega
            subst hk2
            have hwj := h.wf j hk
            unfold Wf at hwj
            unfold Qd
            split
            · rename_i heq; rw [heq] at hwj; rw [hch] at hwj; exact absurd hwj.1 (by decide)
            · rename_i heq; rw [heq] at hwj; rw [hch] at hwj; exact absurd hwj.1 (by decide)
            · trivial
    | turn j =>
      unfold Wf at hw
      rw [hs] at hw
      obtain ⟨w1, w2, w3, w4, w5, w6⟩ := hw
      obtain ⟨j, rfl⟩ := Int.eq_ofNat_of_zero_le w4
      have ew : wrap64 ((j : Int) + 1) = (j : Int) + 1 := wrap_few j (by omega) (by omega)
      by_cases e : firstOf sh j m = true
      · simp only [if_pos e]
        exact ⟨h.cl, h.few, by omega, fun i hi => (h.wf i hi).mono (by omega), h.pr⟩
      · simp only [if_neg e, ew]
        refine bak_upd h (by omega) m hm _ _ _ sh.tk ⟨w1, w2, by show (scAt sh m).no ≤ t + 1; omega, by omega, by omega⟩ (fun k hk d => ⟨⟨fun c => ?_, fun c => by cases c⟩, fun c => ⟨trivial, ((hpr k hk d).2.1 c).2⟩, fun _ => trivial⟩)
        have c : (k : Int) < (j : Int) + 1 := c
        by_cases e2 : k = j
        · subst e2
          refine ⟨(hpr k hk d).1.2 hs, ?_⟩
          unfold firstOf at e
          simp at e
          show (scAt sh k).no = 0 ∨ (scAt sh m).no < (scAt sh k).no ∨ ((scAt sh m).no = (scAt sh k).no ∧ (m : Int) < k)
          omega
        · exact (hpr k hk d).1.1 (by rw [hs]; show (k : Int) < j; omega)
    | inside =>
      refine bak_upd h (by omega) m hm _ _ _ sh.tk ⟨?_, rfl⟩ (fun k hk d => pair_new (hpr k hk d).2 (fun p e => by cases e) (fun p e => e) (fun _ _ => trivial) (fun _ _ _ => .inl rfl))
      unfold Wf at hw
      rw [hs] at hw
      exact hw.1
theorem bak_new (k : Nat) (h : k ≤ 4) : Bak (newSh k false) 0 := by
  have hl : (newSh k false).sc.length = k := by simp [newSh]
  have e : ∀ i : Nat, i < k → scAt (newSh k false) i = sc0 := fun i hi => by rw [scAt_nat _ i (by rw [hl]; exact hi)]; simp [newSh]
  refine ⟨rfl, by rw [hl]; exact h, by omega, fun i hi => ?_, fun i j hi hj _ => ?_⟩
  · rw [e i (by omega)]; exact ⟨rfl, rfl⟩
  · rw [e i (by omega)]; exact ⟨fun c => False.elim c, fun c => by cases c⟩
theorem bak_run {sh : Sh} (h : Bak sh 0) (l : List Int) : l.length < 1000000 → (∀ i ∈ l, errI sh i = 0) → Bak (runS sh l).1 l.length ∧ (runS sh l).1.sc.length = sh.sc.length := by
  induction l using snoc_ind with
  | h0 => exact fun _ _ => ⟨h, rfl⟩
  | h1 l x ih =>
    intro hl hi
    rw [List.length_append] at hl ⊢
    obtain ⟨h1, h2⟩ := ih (by omega) (fun i hi' => hi i (List.mem_append_left _ hi'))
    rw [runS_snoc]
    obtain ⟨k, rfl, hk⟩ := errI_ok (hi x (by simp))
    have := bak_adv h1 (by omega) k (by rw [h2]; exact hk)
    refine ⟨?_, (adv_len _ _).trans h2⟩
    rw [show ((l.length + [(k : Int)].length : Nat) : Int) = (l.length : Int) + 1 by simp]
    exact this
theorem isInside_iff (s : St) : s.isInside = true ↔ s = .inside := by cases s <;> simp [St.isInside]
theorem bak_excl {sh : Sh} {t : Int} (h : Bak sh t) (i k : Nat) (hi : i < sh.sc.length) (hk : k < sh.sc.length) (h1 : (scAt sh i).st = .inside) (h2 : (scAt sh k).st = .inside) : i = k := by
  by_cases d : i = k
  · exact d
  · have p1 := ((h.pr i k hi hk d).1 (by rw [h1]; trivial)).2
    have p2 := ((h.pr k i hk hi (Ne.symm d)).1 (by rw [h2]; trivial)).2
    have w1 := h.wf i hi
    have w2 := h.wf k hk
    unfold Wf at w1 w2
    rw [h1] at w1
    rw [h2] at w2
    obtain ⟨-, a1, -⟩ := w1
    obtain ⟨-, a2, -⟩ := w2
    unfold Lo at p1 p2
    omega
theorem insTo_any (sh : Sh) (m : Nat) (h : 0 < (insTo sh m).length) : ∃ i : Nat, i < m ∧ (scAt sh i).st = .inside := by
  induction m with
  | zero => simp [insTo] at h
  | succ m ih =>
    by_cases c : (scAt sh m).st.isInside = true
    · exact ⟨m, by omega, (isInside_iff _).1 c⟩
    · rw [show insTo sh (m + 1) = insTo sh m from if_neg c] at h
      obtain ⟨i, hi, he⟩ := ih h
      exact ⟨i, by omega, he⟩
theorem insTo_one {sh : Sh} {t : Int} (h : Bak sh t) (m : Nat) (hm : m ≤ sh.sc.length) : (insTo sh m).length ≤ 1 := by
  induction m with
  | zero => simp [insTo]
  | succ m ih =>
    by_cases c : (scAt sh m).st.isInside = true
    · rw [show insTo sh (m + 1) = insTo sh m ++ [(m : Int)] from if_pos c, List.length_append]
      by_cases p : 0 < (insTo sh m).length
      · obtain ⟨i, hi, he⟩ := insTo_any sh m p
        have hq := bak_excl h i m (by omega) (by omega) he ((isInside_iff _).1 c)
        exact absurd hq (by omega)
      · rw [List.length_singleton]; omega
    · rw [show insTo sh (m + 1) = insTo sh m from if_neg c]
      exact ih (by omega)
theorem runS_last (sh : Sh) (l : List Int) : ((insL (runS sh l).1).length : Int) ≤ (runS sh l).2 := by
  induction l using snoc_ind with
  | h0 => exact Int.le_refl _
  | h1 l x ih =>
    rw [runS_snoc]
    simp only [advR]
    split <;> omega
theorem bak_most {sh : Sh} (h : Bak sh 0) (l : List Int) : l.length < 1000000 → (∀ i ∈ l, errI sh i = 0) → (runS sh l).2 ≤ 1 := by
  induction l using snoc_ind with
  | h0 => intro _ _; have := insTo_one h sh.sc.length (Nat.le_refl _); show ((insL sh).length : Int) ≤ 1; unfold insL; omega
  | h1 l x ih =>
    intro hl hi
    obtain ⟨b1, b2⟩ := bak_run h (l ++ [x]) hl hi
    rw [List.length_append] at hl
    have h1 := ih (by omega) (fun i hi' => hi i (List.mem_append_left _ hi'))
    have := insTo_one b1 (runS sh (l ++ [x])).1.sc.length (Nat.le_refl _)
    rw [runS_snoc] at this ⊢
    have this : (insL (adv (runS sh l).1 x.toNat)).length ≤ 1 := this
    simp only [advR]
    split <;> omega
end Go.Proofs.Ytjjnglngldfglaa.P
