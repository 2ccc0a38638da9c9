/- QueueProgress: the plain law. -/
import Derived.Test.YtjjnglngldfglaaQZ1
namespace Go.Proofs.Ytjjnglngldfglaa.P
set_option linter.unusedVariables false
open Go Go.RowKit Go.Proofs.YtjjnglngldfglaaW.PrintWords Go.Proofs.YtjjnglngldfglaaW.PrintLast Go.Proofs.YtjjnglngldfglaaW.PrintMore

/-- Steps that nothing can stop, and steps that may have to wait. -/
def uS (n : Int) : St → Int
  | .announce => n + 3
  | .read j _ => n - j + 2
  | .take _ => 2
  | .announced => 1
  | _ => 0
def cS (n : Int) : St → Int
  | .idle => 0
  | .choice j => 2 * (n - j) + 2
  | .turn j => 2 * (n - j) + 1
  | .inside => 1
  | _ => 2 * n + 2
/-- What a step does to both. -/
theorem step_meas {sh : Sh} {t : Int} (hB : Bak sh t) (ht : t < 1000000) (v : Nat) (hv : v < sh.sc.length) :
    (0 ≤ uS sh.sc.length (scAt sh v).st ∧ 0 ≤ cS sh.sc.length (scAt sh v).st) ∧
    (0 < uS sh.sc.length (scAt sh v).st → uS sh.sc.length (scAt (stepS sh v) v).st < uS sh.sc.length (scAt sh v).st ∧ stepC sh v = true) ∧
    (uS sh.sc.length (scAt sh v).st = 0 → uS sh.sc.length (scAt (stepS sh v) v).st = 0) ∧
    cS sh.sc.length (scAt (stepS sh v) v).st ≤ cS sh.sc.length (scAt sh v).st ∧
    (stepC sh v = true → uS sh.sc.length (scAt sh v).st = 0 → cS sh.sc.length (scAt (stepS sh v) v).st < cS sh.sc.length (scAt sh v).st) ∧
    (stepC sh v = false → stepS sh v = sh) ∧
    (1 ≤ (scAt sh v).st.num → (scAt sh v).st.num ≤ 6 → 1 ≤ (scAt (stepS sh v) v).st.num) := by
  have hw := hB.wf v hv
  have h4 := hB.few
  have h0 := hB.t0
  have e' : ∀ (c : Bool) (no : Int) (s : St), scAt (upd sh v c no s) v = ⟨c, no, s⟩ := fun c no s => upd_at sh v c no s hv
  have e : ∀ (c : Bool) (no : Int) (s : St) (t : Int), scAt { upd sh v c no s with tk := t } v = ⟨c, no, s⟩ := fun c no s t => e' c no s
  unfold Wf at hw
  unfold stepS stepC
  cases hs : (scAt sh v).st with
  | idle =>
    simp only [hs, uS, cS, St.num]
    exact ⟨by omega, fun q => absurd q (by omega), fun _ => trivial, by omega, fun q => absurd q (by decide), fun _ => trivial, fun q => absurd q (by omega)⟩
  | announce =>
    simp only [e', uS, cS, St.num]
    exact ⟨by omega, fun _ => ⟨by omega, trivial⟩, fun q => by omega, by omega, fun _ q => by omega, fun q => absurd q (by decide), fun _ _ => by omega⟩
  | read j seen =>
    rw [hs] at hw
    obtain ⟨-, -, w3, w4, -, -⟩ := hw
    simp only [e']
    by_cases q : j + 1 = sh.sc.length
    · simp only [if_pos q, uS, cS, St.num]
      exact ⟨by omega, fun _ => ⟨by omega, trivial⟩, fun q => by omega, by omega, fun _ q => by omega, fun q => absurd q (by decide), fun _ _ => by omega⟩
    · simp only [if_neg q, uS, cS, St.num]
      exact ⟨by omega, fun _ => ⟨by omega, trivial⟩, fun q => by omega, by omega, fun _ q => by omega, fun q => absurd q (by decide), fun _ _ => by omega⟩
  | take seen =>
    simp only [e', uS, cS, St.num]
    exact ⟨by omega, fun _ => ⟨by omega, trivial⟩, fun q => by omega, by omega, fun _ q => by omega, fun q => absurd q (by decide), fun _ _ => by omega⟩
  | announced =>
    simp only [e', uS, cS, St.num]
    exact ⟨by omega, fun _ => ⟨by omega, trivial⟩, fun q => by omega, by omega, fun _ q => by omega, fun q => absurd q (by decide), fun _ _ => by omega⟩
  | choice j =>
    rw [hs] at hw
    obtain ⟨-, -, -, w4, w5⟩ := hw
    by_cases q : j = sh.sc.length
    · simp only [if_pos q, e, uS, cS, St.num]
      exact ⟨by omega, fun q => absurd q (by omega), fun _ => trivial, by omega, fun _ _ => by omega, fun q => absurd q (by decide), fun _ _ => by omega⟩
    · have ew : wrap64 (j + 1) = j + 1 := wrap_few j w4 (by omega)
      by_cases q2 : j = v
      · simp only [if_neg q, if_pos q2, ew, e', uS, cS, St.num]
        exact ⟨by omega, fun q => absurd q (by omega), fun _ => trivial, by omega, fun _ _ => by omega, fun q => absurd q (by decide), fun _ _ => by omega⟩
      · by_cases q3 : (scAt sh j).ch = true ∧ sh.cl = false
        · simp only [if_neg q, if_neg q2, if_pos q3, hs, uS, cS, St.num]
          exact ⟨by omega, fun q => absurd q (by omega), fun _ => trivial, by omega, fun q => absurd q (by decide), fun _ => trivial, fun _ _ => by omega⟩
        · simp only [if_neg q, if_neg q2, if_neg q3, e', uS, cS, St.num]
          exact ⟨by omega, fun q => absurd q (by omega), fun _ => trivial, by omega, fun _ _ => by omega, fun q => absurd q (by decide), fun _ _ => by omega⟩
  | turn j =>
    rw [hs] at hw
    obtain ⟨-, -, -, w4, w5, -⟩ := hw
    have ew : wrap64 (j + 1) = j + 1 := wrap_few j w4 (by omega)
    by_cases q : firstOf sh j v = true
    · simp only [if_pos q, hs, uS, cS, St.num]
      exact ⟨by omega, fun q => absurd q (by omega), fun _ => trivial, by omega, fun q => absurd q (by decide), fun _ => trivial, fun _ _ => by omega⟩
    · simp only [if_neg q, ew, e', uS, cS, St.num]
      exact ⟨by omega, fun q => absurd q (by omega), fun _ => trivial, by omega, fun _ _ => by omega, fun q => absurd q (by decide), fun _ _ => by omega⟩
  | inside =>
    simp only [e', uS, cS, St.num]
    exact ⟨by omega, fun q => absurd q (by omega), fun _ => trivial, by omega, fun _ _ => by omega, fun q => absurd q (by decide), fun _ q => by omega⟩
/-- Somebody can go on. -/
theorem no_deadlock {sh : Sh} {t : Int} (hB : Bak sh t) (hall : ∀ v : Nat, v < sh.sc.length → (scAt sh v).st.isIdle = true ∨ stepC sh v = false) : ∀ M v : Nat, v < sh.sc.length → (scAt sh v).no.toNat * 4 + v < M → (scAt sh v).st.isIdle = true := by
  intro M
  induction M with
  | zero => intro v _ h; omega
  | succ M ih =>
    intro v hv hM
    have h4 := hB.few
    rcases hall v hv with h | h
    · exact h
    · have hw := hB.wf v hv
      unfold Wf at hw
      unfold stepC at h
      cases hs : (scAt sh v).st with
      | idle => rfl
      | announce => rw [hs] at h; exact absurd h (by simp)
      | read j seen => rw [hs] at h; exact absurd h (by simp)
      | take seen => rw [hs] at h; exact absurd h (by simp)
      | announced => rw [hs] at h; exact absurd h (by simp)
      | inside => rw [hs] at h; exact absurd h (by simp)
      | choice j =>
        rw [hs] at h hw
        obtain ⟨-, -, -, w4, w5⟩ := hw
        by_cases q : j = sh.sc.length
        · simp [q] at h
        · by_cases q2 : j = v
          · simp only [if_neg q, if_pos q2] at h; exact absurd h (by decide)
          · by_cases q3 : (scAt sh j).ch = true ∧ sh.cl = false
            · obtain ⟨j, rfl⟩ := Int.eq_ofNat_of_zero_le w4
              have hj : j < sh.sc.length := by omega
              have hwj := hB.wf j hj
              unfold Wf at hwj
              rcases hall j hj with h2 | h2
              · cases hsj : (scAt sh j).st <;> rw [hsj] at h2 hwj <;> first | (rw [q3.1] at hwj; exact absurd hwj.1 (by decide)) | exact absurd h2 (by simp [St.isIdle])
              · unfold stepC at h2
                cases hsj : (scAt sh j).st <;> rw [hsj] at h2 hwj <;> first | (rw [q3.1] at hwj; exact absurd hwj.1 (by decide)) | exact absurd h2 (by simp)
            · simp only [if_neg q, if_neg q2, if_neg q3] at h; exact absurd h (by decide)
      | turn j =>
        rw [hs] at h hw
        obtain ⟨-, w1, -, w4, w5, w6⟩ := hw
        by_cases q : firstOf sh j v = true
        · obtain ⟨j, rfl⟩ := Int.eq_ofNat_of_zero_le w4
          have hj : j < sh.sc.length := by omega
          unfold firstOf at q
          simp at q
          obtain ⟨q1, q2⟩ := q
          have hn := (hB.wf j hj).no0 hB.t0
          have := ih j hj (by omega)
          have hwj := hB.wf j hj
          unfold Wf at hwj
          cases hsj : (scAt sh j).st <;> rw [hsj] at this hwj <;> first | (exact absurd hwj.2 q1) | exact absurd this (by simp [St.isIdle])
        · simp only [if_neg q] at h; exact absurd h (by decide)
/-- Sums over scouts. -/
def sumTo (f : Nat → Int) : Nat → Int
  | 0 => 0
  | m + 1 => sumTo f m + f m
theorem sumTo_le {f g : Nat → Int} (n : Nat) (h : ∀ i, i < n → f i ≤ g i) : sumTo f n ≤ sumTo g n := by
  induction n with
  | zero => exact Int.le_refl _
  | succ n ih => have := ih (fun i hi => h i (by omega)); have := h n (by omega); simp only [sumTo]; omega
theorem sumTo_lt {f g : Nat → Int} (n : Nat) (h : ∀ i, i < n → f i ≤ g i) (v : Nat) (hv : v < n) (hl : f v < g v) : sumTo f n < sumTo g n := by
  induction n with
  | zero => omega
  | succ n ih =>
    have a := h n (by omega)
    simp only [sumTo]
    by_cases e : v = n
    · subst e
      have := sumTo_le v (fun i hi => h i (by omega))
      omega
    · have := ih (fun i hi => h i (by omega)) (by omega)
      omega
theorem sumTo_const {f : Nat → Int} (n : Nat) (c : Int) (h : ∀ i, i < n → f i ≤ c) : sumTo f n ≤ n * c := by
  induction n with
  | zero => simp [sumTo]
  | succ n ih =>
    have := ih (fun i hi => h i (by omega)); have := h n (by omega)
    simp only [sumTo]
    rw [show ((n + 1 : Nat) : Int) * c = n * c + c by rw [Int.natCast_add, Int.add_mul]; simp]
    omega
theorem sumTo_pos {f : Nat → Int} (n : Nat) (h : ∀ i, i < n → 0 ≤ f i) : 0 ≤ sumTo f n := by
  induction n with
  | zero => exact Int.le_refl _
  | succ n ih => have := ih (fun i hi => h i (by omega)); have := h n (by omega); simp only [sumTo]; omega
def cSum (sh : Sh) : Int := sumTo (fun i => cS sh.sc.length (scAt sh i).st) sh.sc.length
/-- Who has had a turn in the round. -/
def Pr (o k i v : Nat) : Prop := ∃ j, j < i ∧ v = (j + o) % k
structure PInv (shr : Sh) (U : Int) (sh : Sh) (o i : Nat) (busy changed : Bool) : Prop where
  len : sh.sc.length = shr.sc.length
  u1 : ∀ v : Nat, v < sh.sc.length → Pr o sh.sc.length i v → uS sh.sc.length (scAt sh v).st ≤ U - 1 ∨ uS sh.sc.length (scAt sh v).st = 0
  u2 : ∀ v : Nat, v < sh.sc.length → uS sh.sc.length (scAt sh v).st ≤ U
  c1 : cSum sh ≤ cSum shr
  ch : changed = true → 0 < U ∨ cSum sh < cSum shr
  nc : changed = false → sh = shr ∧ ∀ v : Nat, v < shr.sc.length → Pr o shr.sc.length i v → (scAt shr v).st.isIdle = true ∨ stepC shr v = false
  nb : busy = false → changed = false ∧ ∀ v : Nat, v < shr.sc.length → Pr o shr.sc.length i v → (scAt shr v).st.isIdle = true
  bc : busy = true → changed = false → ∃ v : Nat, v < shr.sc.length ∧ ¬ (scAt shr v).st.isIdle = true
theorem pinv_new (sh : Sh) (U : Int) (o : Nat) (h : ∀ v : Nat, v < sh.sc.length → uS sh.sc.length (scAt sh v).st ≤ U) : PInv sh U sh o 0 false false :=
  ⟨rfl, fun v _ ⟨j, hj, _⟩ => absurd hj (Nat.not_lt_zero j), h, Int.le_refl _, (fun h => by cases h), fun _ => ⟨rfl, fun v _ ⟨j, hj, _⟩ => absurd hj (Nat.not_lt_zero j)⟩, fun _ => ⟨rfl, fun v _ ⟨j, hj, _⟩ => absurd hj (Nat.not_lt_zero j)⟩, (fun h => by cases h)⟩
theorem pr_succ {o k i v : Nat} (h : Pr o k (i + 1) v) : Pr o k i v ∨ v = (i + o) % k := by
  obtain ⟨j, hj, e⟩ := h
  by_cases c : j = i
  · subst c; exact .inr e
  · exact .inl ⟨j, by omega, e⟩
theorem idle_of {s : St} (h : s.isIdle = true) : s = .idle := by cases s <;> first | rfl | exact absurd h (by simp [St.isIdle])
theorem pinv_skip {shr : Sh} {U : Int} {sh : Sh} {o i : Nat} {busy changed : Bool} (h : PInv shr U sh o i busy changed) {v : Nat} (hv : v = (i + o) % sh.sc.length) (hi : (scAt sh v).st.isIdle = true) : PInv shr U sh o (i + 1) busy changed := by
  refine ⟨h.len, fun w hw hp => ?_, h.u2, h.c1, h.ch, fun hc => ⟨(h.nc hc).1, fun w hw hp => ?_⟩, fun hb => ⟨(h.nb hb).1, fun w hw hp => ?_⟩, h.bc⟩
  · rcases pr_succ hp with hp | hp
    · exact h.u1 w hw hp
    · right; rw [hp, ← hv, idle_of hi]; rfl
  · rcases pr_succ hp with hp | hp
    · exact (h.nc hc).2 w hw hp
    · left; rw [hp, ← h.len, ← hv, ← (h.nc hc).1]; exact hi
  · rcases pr_succ hp with hp | hp
    · exact (h.nb hb).2 w hw hp
    · rw [hp, ← h.len, ← hv, ← (h.nc (h.nb hb).1).1]; exact hi
theorem pinv_step {shr : Sh} {U : Int} {sh : Sh} {o i : Nat} {busy changed : Bool} {t : Int} (hB : Bak sh t) (ht : t < 1000000) (h : PInv shr U sh o i busy changed) {v : Nat} (hv : v = (i + o) % sh.sc.length) (hvl : v < sh.sc.length) (hi : ¬ (scAt sh v).st.isIdle = true) :
    PInv shr U (stepS sh v) o (i + 1) true (changed || stepC sh v) := by
  obtain ⟨⟨m0, m0'⟩, m1, m2, m3, m4, m5, -⟩ := step_meas hB ht v hvl
  have hl : (stepS sh v).sc.length = sh.sc.length := stepS_len sh v
  have hadv : adv sh v = stepS sh v := (want_busy hvl hi).2.2
  have hne : ∀ w : Nat, w ≠ v → w < sh.sc.length → scAt (stepS sh v) w = scAt sh w := fun w hwv hw => by rw [← hadv]; exact adv_ne sh v w hwv hw
  have hu := h.u2 v hvl
  have hcs : cSum (stepS sh v) ≤ cSum sh := by
    unfold cSum
    rw [hl]
    refine sumTo_le _ (fun w hw => ?_)
    by_cases e : w = v
    · subst e; exact m3
    · rw [hne w e hw]; exact Int.le_refl _
  have hcl : stepC sh v = true → uS sh.sc.length (scAt sh v).st = 0 → cSum (stepS sh v) < cSum sh := fun q1 q2 => by
    unfold cSum
    rw [hl]
    refine sumTo_lt _ (fun w hw => ?_) v hvl (m4 q1 q2)
    by_cases e : w = v
    · subst e; exact m3
    · rw [hne w e hw]; exact Int.le_refl _
  have h1 := h.c1
  refine ⟨hl.trans h.len, fun w hw hp => ?_, fun w hw => ?_, by omega, fun hc => ?_, fun hc => ?_, (fun hb => by cases hb), fun _ hc => ?_⟩
  · rw [hl] at hw hp ⊢
    by_cases e : w = v
    · subst e
      by_cases q : uS sh.sc.length (scAt sh w).st = 0
      · right; exact m2 q
      · left; have := (m1 (by omega)).1; omega
    · rw [hne w e hw]
      rcases pr_succ hp with hp | hp
      · exact h.u1 w hw hp
      · exact absurd (hp.trans hv.symm) e
  · rw [hl] at hw ⊢
    by_cases e : w = v
    · subst e
      by_cases q : uS sh.sc.length (scAt sh w).st = 0
      · rw [m2 q]; omega
      · have := (m1 (by omega)).1; omega
    · rw [hne w e hw]; exact h.u2 w hw
  · cases changed with
    | true =>
      rcases h.ch rfl with q | q
      · exact .inl q
      · right; omega
    | false =>
      have hc : stepC sh v = true := hc
      by_cases q : uS sh.sc.length (scAt sh v).st = 0
      · right; have := hcl hc q; omega
      · left; omega
  · have hc1 : changed = false := by cases changed <;> simp_all
    have hc2 : stepC sh v = false := by rw [hc1] at hc; exact hc
    obtain ⟨n1, n2⟩ := h.nc hc1
    refine ⟨(m5 hc2).trans n1, fun w hw hp => ?_⟩
    rcases pr_succ hp with hp | hp
    · exact n2 w hw hp
    · right
      rw [hp, ← h.len, ← hv, ← n1]; exact hc2
  · have hc1 : changed = false := by cases changed <;> simp_all
    obtain ⟨n1, n2⟩ := h.nc hc1
    exact ⟨v, by rw [← h.len]; exact hvl, by rw [← n1]; exact hi⟩
theorem pr_all (o k v : Nat) (hv : v < k) : Pr o k k v := by
  have e : ∀ j, (j + o) % k = (j + o % k) % k := fun j => by rw [Nat.add_mod, Nat.add_mod j (o % k), Nat.mod_mod]
  have h1 := Nat.mod_lt o (show 0 < k by omega)
  by_cases h : o % k ≤ v
  · exact ⟨v - o % k, by omega, by rw [e, Nat.sub_add_cancel h, Nat.mod_eq_of_lt hv]⟩
  · exact ⟨v + k - o % k, by omega, by rw [e, show v + k - o % k + o % k = v + k by omega, Nat.add_mod_right, Nat.mod_eq_of_lt hv]⟩
theorem pinv_idle {shr : Sh} {U : Int} {sh : Sh} {o : Nat} {changed : Bool} (h : PInv shr U sh o sh.sc.length false changed) : ∀ v : Nat, v < sh.sc.length → (scAt sh v).st.isIdle = true := fun v hv => by
  obtain ⟨n1, n2⟩ := h.nb rfl
  rw [(h.nc n1).1] at hv ⊢
  exact n2 v hv (by rw [h.len]; exact pr_all o _ v hv)
theorem pinv_busy {shr : Sh} {t : Int} (hB : Bak shr t) {U : Int} {sh : Sh} {o : Nat} {changed : Bool} (h : PInv shr U sh o sh.sc.length true changed) : changed = true := by
  cases changed with
  | true => rfl
  | false =>
    obtain ⟨v, hv, hi⟩ := h.bc rfl rfl
    obtain ⟨n1, n2⟩ := h.nc rfl
    exact absurd (no_deadlock hB (fun w hw => n2 w hw (by rw [h.len]; exact pr_all o _ w hw)) _ v hv (Nat.lt_succ_self _)) hi
/-- The measure at a round's head. -/
def Meas (sh : Sh) (r : Nat) (U : Int) : Prop := 0 ≤ U ∧ (∀ v : Nat, v < sh.sc.length → uS sh.sc.length (scAt sh v).st ≤ U) ∧ U + cSum sh + r ≤ 47
theorem cSum_pos {sh : Sh} {t : Int} (hB : Bak sh t) (ht : t < 1000000) : 0 ≤ cSum sh := sumTo_pos _ (fun i hi => (step_meas hB ht i hi).1.2)
theorem meas_new {sh : Sh} {t : Int} (hB : Bak sh t) (ht : t < 1000000) : Meas sh 0 7 := by
  have h4 := hB.few
  have hs : ∀ v : Nat, v < sh.sc.length → uS sh.sc.length (scAt sh v).st ≤ 7 ∧ cS sh.sc.length (scAt sh v).st ≤ 10 := fun v hv => by
    have hw := hB.wf v hv
    unfold Wf at hw
    cases hs : (scAt sh v).st <;> rw [hs] at hw <;> simp only [uS, cS] <;> omega
  have hc := sumTo_const sh.sc.length 10 (fun v hv => (hs v hv).2)
  refine ⟨by omega, fun v hv => (hs v hv).1, ?_⟩
  unfold cSum
  omega
theorem meas_next {shr : Sh} {r : Nat} {U : Int} (hm : Meas shr r U) {sh : Sh} {o : Nat} (h : PInv shr U sh o sh.sc.length true true) : ∃ U', Meas sh (r + 1) U' := by
  obtain ⟨m1, m2, m3⟩ := hm
  have h1 := h.c1
  rcases h.ch rfl with q | q
  · refine ⟨U - 1, by omega, fun v hv => ?_, by push_cast; omega⟩
    rcases h.u1 v hv (pr_all o _ v hv) with e | e <;> omega
  · exact ⟨U, m1, h.u2, by push_cast; omega⟩
end Go.Proofs.Ytjjnglngldfglaa.P
