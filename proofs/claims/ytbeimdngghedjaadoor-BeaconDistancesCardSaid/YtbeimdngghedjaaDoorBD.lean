/- Distances by shortening over each vertex in turn (Floyd): the matrix that comes of it holds the lengths of shortest walks. -/
namespace Go.Proofs.YtbeimdngghedjaaDoor.P
set_option linter.unusedVariables false

/-- A matrix of whole numbers. -/
abbrev Mt := Nat → Nat → Int
def upd (M : Mt) (i j : Nat) (v : Int) : Mt := fun a b => if a = i ∧ b = j then v else M a b
/-- The lesser. -/
def mnI (a b : Int) : Int := if b < a then b else a
def flJ (k i : Nat) (M : Mt) (j : Nat) : Mt := upd M i j (mnI (M i j) (M i k + M k j))
def flI (n k : Nat) (M : Mt) (i : Nat) : Mt := (List.range n).foldl (flJ k i) M
def flK (n : Nat) (M : Mt) (k : Nat) : Mt := (List.range n).foldl (flI n k) M
def floyd (n : Nat) (M : Mt) : Mt := (List.range n).foldl (flK n) M

theorem foldl_range_succ {α : Type} (f : α → Nat → α) (x : α) (n : Nat) : (List.range (n + 1)).foldl f x = f ((List.range n).foldl f x) n := by
  rw [List.range_succ, List.foldl_append]; rfl
theorem mnI_le_left (a b : Int) : mnI a b ≤ a := by unfold mnI; split <;> omega
theorem mnI_le_right (a b : Int) : mnI a b ≤ b := by unfold mnI; split <;> omega
theorem mnI_cases (a b : Int) : mnI a b = a ∨ mnI a b = b := by unfold mnI; split <;> omega
theorem mnI_self (a b : Int) (h : a ≤ b) : mnI a b = a := by unfold mnI; split <;> omega
theorem upd_same (M : Mt) (i j : Nat) (v : Int) : upd M i j v i j = v := by unfold upd; rw [if_pos ⟨rfl, rfl⟩]
theorem upd_ne (M : Mt) (i j a b : Nat) (v : Int) (h : ¬ (a = i ∧ b = j)) : upd M i j v a b = M a b := by unfold upd; rw [if_neg h]

/-- What one row comes to. -/
theorem flI_to (k i : Nat) (M : Mt) (h0 : M k k = 0) (hp : ∀ a b, 0 ≤ M a b) : ∀ t : Nat, ∀ a b, (List.range t).foldl (flJ k i) M a b = if a = i ∧ b < t then mnI (M i b) (M i k + M k b) else M a b
  | 0, a, b => by rw [if_neg (by omega)]; rfl
  | t + 1, a, b => by
    rw [foldl_range_succ]
    have ih := flI_to k i M h0 hp t
    have hik : (List.range t).foldl (flJ k i) M i k = M i k := by
      rw [ih]; split
      · rw [h0]; exact mnI_self _ _ (by omega)
      · rfl
    have hkt : (List.range t).foldl (flJ k i) M k t = M k t := by rw [ih, if_neg (by omega)]
    have hit : (List.range t).foldl (flJ k i) M i t = M i t := by rw [ih, if_neg (by omega)]
    rw [show flJ k i ((List.range t).foldl (flJ k i) M) t = upd ((List.range t).foldl (flJ k i) M) i t (mnI ((List.range t).foldl (flJ k i) M i t) ((List.range t).foldl (flJ k i) M i k + (List.range t).foldl (flJ k i) M k t)) from rfl]
    by_cases hab : a = i ∧ b = t
    · obtain ⟨rfl, rfl⟩ := hab
      rw [upd_same, if_pos ⟨rfl, by omega⟩, hit, hik, hkt]
    · rw [upd_ne _ _ _ _ _ _ hab, ih a b]
      by_cases h1 : a = i ∧ b < t
      · rw [if_pos h1, if_pos ⟨h1.1, by omega⟩]
      · rw [if_neg h1, if_neg (by omega)]
theorem flI_pos (k i : Nat) (M : Mt) (h0 : M k k = 0) (hp : ∀ a b, 0 ≤ M a b) (t : Nat) : ∀ a b, 0 ≤ (List.range t).foldl (flJ k i) M a b := by
  intro a b
  rw [flI_to k i M h0 hp t]
  split
  · rcases mnI_cases (M i b) (M i k + M k b) with h | h <;> rw [h]
    · exact hp _ _
    · have := hp i k; have := hp k b; omega
  · exact hp _ _
/-- What the shortening over one vertex comes to. -/
theorem flK_to (n k : Nat) (M : Mt) (hk : k < n) (h0 : M k k = 0) (hp : ∀ a b, 0 ≤ M a b) : ∀ t : Nat, ∀ a b, b < n → (List.range t).foldl (flI n k) M a b = if a < t then mnI (M a b) (M a k + M k b) else M a b
  | 0, a, b, _ => by rw [if_neg (by omega)]; rfl
  | t + 1, a, b, hb => by
    rw [foldl_range_succ]
    have ih := flK_to n k M hk h0 hp t
    have hpos : ∀ t : Nat, (List.range t).foldl (flI n k) M k k = 0 ∧ ∀ a b, 0 ≤ (List.range t).foldl (flI n k) M a b := by
      intro t
      induction t with
      | zero => exact ⟨h0, hp⟩
      | succ t iht =>
        rw [foldl_range_succ]
        obtain ⟨h1, h2⟩ := iht
        refine ⟨?_, fun a b => flI_pos k t _ h1 h2 n a b⟩
        show (List.range n).foldl (flJ k t) ((List.range t).foldl (flI n k) M) k k = 0
        rw [flI_to k t _ h1 h2 n]
        split
        · next h =>
          obtain ⟨rfl, _⟩ := h
          rw [h1]; exact mnI_self _ _ (by omega)
        · exact h1
    obtain ⟨z1, z2⟩ := hpos t
    have hrow : ∀ b, b < n → (List.range t).foldl (flI n k) M t b = M t b := fun b hb => by rw [ih _ _ hb, if_neg (by omega)]
    have hkr : ∀ b, b < n → (List.range t).foldl (flI n k) M k b = M k b := by
      intro b hb
      rw [ih _ _ hb]
      split
      · rw [h0]; exact mnI_self _ _ (by omega)
      · rfl
    show (List.range n).foldl (flJ k t) ((List.range t).foldl (flI n k) M) a b = _
    rw [flI_to k t _ z1 z2 n]
    by_cases hat : a = t
    · subst hat
      rw [if_pos ⟨rfl, hb⟩, if_pos (by omega), hrow b hb, hrow k hk, hkr b hb]
    · rw [if_neg (by omega), ih a b hb]
      by_cases h1 : a < t
      · rw [if_pos h1, if_pos (by omega)]
      · rw [if_neg h1, if_neg (by omega)]

/-- A walk of r edges from i to j. -/
def Wk (n : Nat) (E : Nat → Nat → Bool) : Nat → Nat → Nat → Prop
  | 0, i, j => i = j
  | r + 1, i, j => ∃ m, m < n ∧ E i m = true ∧ Wk n E r m j
theorem Wk.cat {n : Nat} {E : Nat → Nat → Bool} : ∀ {r s i j k : Nat}, Wk n E r i j → Wk n E s j k → Wk n E (r + s) i k
  | 0, s, i, j, k, h1, h2 => by
    obtain rfl : i = j := h1
    rw [Nat.zero_add]; exact h2
  | r + 1, s, i, j, k, h1, h2 => by
    obtain ⟨m, hm, he, hw⟩ := h1
    rw [show r + 1 + s = (r + s) + 1 from by omega]
    exact ⟨m, hm, he, hw.cat h2⟩
theorem Wk.one {n : Nat} {E : Nat → Nat → Bool} {i j : Nat} (hj : j < n) (h : E i j = true) : Wk n E 1 i j := ⟨j, hj, h, rfl⟩
theorem Wk.snoc {n : Nat} {E : Nat → Nat → Bool} : ∀ {r i j : Nat}, i < n → Wk n E (r + 1) i j → ∃ m, m < n ∧ Wk n E r i m ∧ E m j = true
  | 0, i, j, hi, h => by
    obtain ⟨m, hm, he, hw⟩ := h
    obtain rfl : m = j := hw
    exact ⟨i, hi, rfl, he⟩
  | r + 1, i, j, hi, h => by
    obtain ⟨m, hm, he, hw⟩ := h
    obtain ⟨p, hp, h1, h2⟩ := Wk.snoc hm hw
    exact ⟨p, hp, ⟨m, hm, he, h1⟩, h2⟩
theorem Wk.rev {n : Nat} {E : Nat → Nat → Bool} (hs : ∀ i j, E i j = E j i) : ∀ {r i j : Nat}, i < n → Wk n E r i j → Wk n E r j i
  | 0, i, j, hi, h => Eq.symm (show i = j from h)
  | r + 1, i, j, hi, h => by
    obtain ⟨m, hm, he, hw⟩ := h
    have h1 := hw.rev hs hm
    have := h1.cat (Wk.one hi (by rw [hs]; exact he))
    exact this
theorem Wk.split {n : Nat} {E : Nat → Nat → Bool} : ∀ {r s i j : Nat}, i < n → Wk n E (r + s) i j → ∃ m, m < n ∧ Wk n E r i m ∧ Wk n E s m j
  | 0, s, i, j, hi, h => ⟨i, hi, rfl, by rw [Nat.zero_add] at h; exact h⟩
  | r + 1, s, i, j, hi, h => by
    rw [show r + 1 + s = (r + s) + 1 from by omega] at h
    obtain ⟨m, hm, he, hw⟩ := h
    obtain ⟨p, hp, h1, h2⟩ := Wk.split hm hw
    exact ⟨p, hp, ⟨m, hm, he, h1⟩, h2⟩

/-- The matrix ahead of the shortening. -/
def start (n : Nat) (E : Nat → Nat → Bool) : Mt := fun i j => if E i j = true then 1 else if i = j then 0 else n
/-- What stays while vertices are taken. -/
structure FlOk (n : Nat) (E : Nat → Nat → Bool) (k : Nat) (M : Mt) : Prop where
  pos : ∀ a b, a < n → b < n → 0 ≤ M a b
  le : ∀ a b, a < n → b < n → M a b ≤ n
  diag : ∀ a, a < n → M a a = 0
  edge : ∀ a b, a < n → b < n → E a b = true → M a b ≤ 1
  tri : ∀ m a b, m < k → m < n → a < n → b < n → M a b ≤ M a m + M m b
  wk : ∀ a b, a < n → b < n → M a b < n → Wk n E (M a b).toNat a b
theorem start_ok (n : Nat) (E : Nat → Nat → Bool) (hn : 1 ≤ n) (hi : ∀ a, E a a = false) : FlOk n E 0 (start n E) := by
  refine ⟨fun a b ha hb => ?_, fun a b ha hb => ?_, fun a ha => ?_, fun a b ha hb h => ?_, fun m a b h => by omega, fun a b ha hb h => ?_⟩
  · unfold start; split
    · omega
    · split <;> omega
  · unfold start; split
    · omega
    · split <;> omega
  · unfold start; rw [hi, if_neg (by simp), if_pos rfl]
  · unfold start; rw [if_pos h]; omega
  · unfold start at h ⊢
    by_cases he : E a b = true
    · rw [if_pos he]; exact Wk.one hb he
    · rw [if_neg he] at h ⊢
      by_cases hab : a = b
      · rw [if_pos hab]; exact hab
      · rw [if_neg hab] at h; omega
/-- Only entries in range matter. -/
def clampM (n : Nat) (M : Mt) : Mt := fun a b => if a < n ∧ b < n then M a b else 0
theorem flJ_congr (n k i : Nat) (hk : k < n) (hi : i < n) : ∀ (l : List Nat) (M M' : Mt), (∀ x ∈ l, x < n) → (∀ a b, a < n → b < n → M a b = M' a b) → ∀ a b, a < n → b < n → l.foldl (flJ k i) M a b = l.foldl (flJ k i) M' a b
  | [], M, M', _, h => h
  | x :: l, M, M', hx, h => by
    refine flJ_congr n k i hk hi l _ _ (fun y hy => hx y (List.mem_cons_of_mem _ hy)) (fun a b ha hb => ?_)
    have hxn := hx x List.mem_cons_self
    unfold flJ upd
    rw [h i x hi hxn, h i k hi hk, h k x hk hxn, h a b ha hb]
theorem flI_congr (n k : Nat) (hk : k < n) : ∀ (l : List Nat) (M M' : Mt), (∀ x ∈ l, x < n) → (∀ a b, a < n → b < n → M a b = M' a b) → ∀ a b, a < n → b < n → l.foldl (flI n k) M a b = l.foldl (flI n k) M' a b
  | [], M, M', _, h => h
  | x :: l, M, M', hx, h => by
    refine flI_congr n k hk l _ _ (fun y hy => hx y (List.mem_cons_of_mem _ hy)) (fun a b ha hb => ?_)
    exact flJ_congr n k x hk (hx x List.mem_cons_self) (List.range n) M M' (fun y hy => by simpa using hy) h a b ha hb
theorem flK_eq {n : Nat} {E : Nat → Nat → Bool} {k : Nat} {M : Mt} (h : FlOk n E k M) (hk : k < n) (a b : Nat) (ha : a < n) (hb : b < n) : flK n M k a b = mnI (M a b) (M a k + M k b) := by
  have h1 := flI_congr n k hk (List.range n) M (clampM n M) (fun y hy => by simpa using hy) (fun a b ha hb => by unfold clampM; rw [if_pos ⟨ha, hb⟩]) a b ha hb
  have h2 := flK_to n k (clampM n M) hk (by unfold clampM; rw [if_pos ⟨hk, hk⟩]; exact h.diag k hk)
    (fun a b => by unfold clampM; split
                   · next hab => exact h.pos a b hab.1 hab.2
                   · omega) n a b hb
  unfold flK
  rw [h1, h2, if_pos ha]
  unfold clampM
  rw [if_pos ⟨ha, hb⟩, if_pos ⟨ha, hk⟩, if_pos ⟨hk, hb⟩]
theorem flK_ok {n : Nat} {E : Nat → Nat → Bool} {k : Nat} {M : Mt} (h : FlOk n E k M) (hk : k < n) : FlOk n E (k + 1) (flK n M k) := by
  have e := fun a b ha hb => flK_eq h hk a b ha hb
  have ek1 : ∀ a, a < n → flK n M k a k = M a k := fun a ha => by
    rw [e a k ha hk, h.diag k hk]; exact mnI_self _ _ (by omega)
  have ek2 : ∀ a, a < n → flK n M k k a = M k a := fun a ha => by
    rw [e k a hk ha, h.diag k hk]; exact mnI_self _ _ (by omega)
  refine ⟨fun a b ha hb => ?_, fun a b ha hb => ?_, fun a ha => ?_, fun a b ha hb he => ?_, fun m a b hm hmn ha hb => ?_, fun a b ha hb hlt => ?_⟩
  · rw [e a b ha hb]
    have h1 := h.pos a b ha hb; have h2 := h.pos a k ha hk; have h3 := h.pos k b hk hb
    rcases mnI_cases (M a b) (M a k + M k b) with h4 | h4 <;> omega
  · rw [e a b ha hb]; exact Int.le_trans (mnI_le_left _ _) (h.le a b ha hb)
  · rw [e a a ha ha]
    have h1 := h.diag a ha; have h2 := h.pos a k ha hk; have h3 := h.pos k a hk ha
    rw [mnI_self _ _ (by omega), h1]
  · rw [e a b ha hb]; exact Int.le_trans (mnI_le_left _ _) (h.edge a b ha hb he)
  · by_cases hmk : m = k
    · subst hmk
      rw [ek1 a ha, ek2 b hb, e a b ha hb]
      exact mnI_le_right _ _
    · have hm' : m < k := by omega
      rw [e a b ha hb, e a m ha hmn, e m b hmn hb]
      have l1 := mnI_le_left (M a b) (M a k + M k b)
      have l2 := mnI_le_right (M a b) (M a k + M k b)
      have t1 := h.tri m a b hm' hmn ha hb
      have t2 := h.tri m k b hm' hmn hk hb
      have t3 := h.tri m a k hm' hmn ha hk
      have q1 := h.pos k m hk hmn; have q2 := h.pos m k hmn hk
      rcases mnI_cases (M a m) (M a k + M k m) with c1 | c1 <;> rcases mnI_cases (M m b) (M m k + M k b) with c2 | c2 <;> omega
  · rw [e a b ha hb] at hlt ⊢
    have h2 := h.pos a k ha hk; have h3 := h.pos k b hk hb
    rcases mnI_cases (M a b) (M a k + M k b) with h4 | h4
    · rw [h4] at hlt ⊢; exact h.wk a b ha hb hlt
    · rw [h4] at hlt ⊢
      have w1 := h.wk a k ha hk (by omega)
      have w2 := h.wk k b hk hb (by omega)
      have := w1.cat w2
      rwa [show (M a k).toNat + (M k b).toNat = (M a k + M k b).toNat from by omega] at this
theorem floyd_ok (n : Nat) (E : Nat → Nat → Bool) (hn : 1 ≤ n) (hi : ∀ a, E a a = false) : FlOk n E n (floyd n (start n E)) := by
  have : ∀ t, t ≤ n → FlOk n E t ((List.range t).foldl (flK n) (start n E)) := by
    intro t
    induction t with
    | zero => exact fun _ => start_ok n E hn hi
    | succ t ih => intro ht; rw [foldl_range_succ]; exact flK_ok (ih (by omega)) (by omega)
  exact this n (Nat.le_refl n)
/-- No walk is shorter. -/
theorem FlOk.le_walk {n : Nat} {E : Nat → Nat → Bool} {M : Mt} (h : FlOk n E n M) : ∀ (r a b : Nat), a < n → b < n → Wk n E r a b → M a b ≤ r
  | 0, a, b, ha, hb, hw => by
    obtain rfl : a = b := hw
    rw [h.diag a ha]; omega
  | r + 1, a, b, ha, hb, hw => by
    obtain ⟨m, hm, he, hw⟩ := hw
    have h1 := h.le_walk r m b hm hb hw
    have h2 := h.edge a m ha hm he
    have h3 := h.tri m a b hm hm ha hb
    omega
/-- A list of different numbers below n has at most n of them. -/
theorem nodup_le : ∀ (n : Nat) (l : List Nat), l.Nodup → (∀ x ∈ l, x < n) → l.length ≤ n
  | 0, l, _, h => by
    cases l with
    | nil => simp
    | cons x l => exact absurd (h x List.mem_cons_self) (by omega)
  | n + 1, l, hd, h => by
    have h1 : (l.erase n).Nodup := hd.erase n
    have h2 : ∀ x ∈ l.erase n, x < n := fun x hx => by
      have hx1 := h x (List.mem_of_mem_erase hx)
      have hx2 : x ≠ n := fun e => by
        subst e
        exact (List.Nodup.not_mem_erase hd) hx
      omega
    have h3 := nodup_le n (l.erase n) h1 h2
    have h4 := List.length_erase (a := n) (l := l)
    by_cases hm : n ∈ l
    · rw [if_pos hm] at h4; omega
    · rw [if_neg hm] at h4; omega
/-- Different places with different values: no more places than values. -/
theorem pigeon (n : Nat) (m : Nat) (f : Nat → Nat) (hf : ∀ i, i < m → f i < n) (hj : ∀ i j, i < m → j < m → f i = f j → i = j) : m ≤ n := by
  have h1 : ((List.range m).map f).Nodup := by
    rw [List.nodup_iff_pairwise_ne, List.pairwise_map]
    refine List.Pairwise.imp_of_mem ?_ (List.nodup_iff_pairwise_ne.1 List.nodup_range)
    intro a b ha hb hab e
    exact hab (hj a b (by simpa using ha) (by simpa using hb) e)
  have := nodup_le n _ h1 (fun x hx => by
    obtain ⟨i, hi, rfl⟩ := List.mem_map.1 hx
    exact hf i (by simpa using hi))
  simpa using this
/-- Whatever can be reached is nearer than n. -/
theorem FlOk.reach {n : Nat} {E : Nat → Nat → Bool} {M : Mt} (h : FlOk n E n M) : ∀ (r a b : Nat), a < n → b < n → Wk n E r a b → M a b < n := by
  -- the least walk
  have key : ∀ r a b, a < n → b < n → Wk n E r a b → (∀ s, s < r → ¬ Wk n E s a b) → r < n := by
    intro r a b ha hb hw hmin
    have hv : ∀ i : Nat, ∃ m, i ≤ r → m < n ∧ Wk n E i a m ∧ Wk n E (r - i) m b := by
      intro i
      by_cases hi : i ≤ r
      · obtain ⟨m, h1, h2, h3⟩ := Wk.split (r := i) (s := r - i) ha (by rw [show i + (r - i) = r from by omega]; exact hw)
        exact ⟨m, fun _ => ⟨h1, h2, h3⟩⟩
      · exact ⟨0, fun h => absurd h hi⟩
    have := pigeon n (r + 1) (fun i => Classical.choose (hv i)) (fun i hi => (Classical.choose_spec (hv i) (by omega)).1) (fun i j hi hj e => by
      have h1 := Classical.choose_spec (hv i) (by omega)
      have h2 := Classical.choose_spec (hv j) (by omega)
      replace e : Classical.choose (hv i) = Classical.choose (hv j) := e
      rw [e] at h1
      rcases Nat.lt_trichotomy i j with hij | hij | hij
      · exact absurd (h1.2.1.cat h2.2.2) (hmin _ (by omega))
      · exact hij
      · exact absurd (h2.2.1.cat h1.2.2) (hmin _ (by omega)))
    omega
  intro r a b ha hb hw
  have : ∀ r, Wk n E r a b → ∃ s, Wk n E s a b ∧ ∀ t, t < s → ¬ Wk n E t a b := by
    intro r
    induction r using Nat.strongRecOn with
    | _ r ih =>
      intro hw
      by_cases hx : ∃ s, s < r ∧ Wk n E s a b
      · obtain ⟨s, hs, hws⟩ := hx
        exact ih s hs hws
      · exact ⟨r, hw, fun t ht hwt => hx ⟨t, ht, hwt⟩⟩
  obtain ⟨s, hs, hmin⟩ := this r hw
  have h1 := key s a b ha hb hs hmin
  have h2 := h.le_walk s a b ha hb hs
  omega
theorem FlOk.sym {n : Nat} {E : Nat → Nat → Bool} {M : Mt} (h : FlOk n E n M) (hs : ∀ i j, E i j = E j i) (a b : Nat) (ha : a < n) (hb : b < n) : M a b = M b a := by
  have key : ∀ a b, a < n → b < n → M a b ≤ M b a := by
    intro a b ha hb
    by_cases hl : M b a < n
    · have hp := h.pos b a hb ha
      have := h.le_walk _ a b ha hb ((h.wk b a hb ha hl).rev hs hb)
      omega
    · have := h.le a b ha hb; omega
  have := key a b ha hb; have := key b a hb ha; omega
end Go.Proofs.YtbeimdngghedjaaDoor.P
