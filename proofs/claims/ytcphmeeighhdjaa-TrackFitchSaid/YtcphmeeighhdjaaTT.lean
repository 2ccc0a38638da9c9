/- Plain theory: trees that are told by joins, and that Sankoff's tables tell the least cost of a labeling. -/
namespace Go.Proofs.Ytcphmeeighhdjaa.TT

inductive T where
  | leaf (v : Nat) : T
  | node (i : Nat) (l r : T) : T

def T.idx : T → List Nat
  | .leaf _ => []
  | .node i l r => i :: (l.idx ++ r.idx)
def T.leaves : T → List Nat
  | .leaf v => [v]
  | .node _ l r => l.leaves ++ r.leaves

def top (L x : Nat → Nat) : T → Nat
  | .leaf v => L v
  | .node i _ _ => x i
def sub (C : Nat → Nat → Int) (L x : Nat → Nat) : T → Int
  | .leaf _ => 0
  | .node i l r => (C (x i) (top L x l) + C (x i) (top L x r)) + (sub C L x l + sub C L x r)

theorem top_congr (L x y : Nat → Nat) (t : T) (h : ∀ i ∈ t.idx, x i = y i) : top L x t = top L y t := by
  cases t with
  | leaf v => rfl
  | node i l r => exact h i (by simp [T.idx])
theorem sub_congr (C : Nat → Nat → Int) (L x y : Nat → Nat) (t : T) (h : ∀ i ∈ t.idx, x i = y i) : sub C L x t = sub C L y t := by
  induction t with
  | leaf v => rfl
  | node i l r ihl ihr =>
    have h1 := h i (by simp [T.idx])
    have hl : ∀ j ∈ l.idx, x j = y j := fun j hj => h j (by simp [T.idx, hj])
    have hr : ∀ j ∈ r.idx, x j = y j := fun j hj => h j (by simp [T.idx, hj])
    simp only [sub, h1, top_congr L x y l hl, top_congr L x y r hr, ihl hl, ihr hr]

/-! ## Tables -/
def far : Int := 1073741824
def belowE (row : Nat → Int) (t : Nat → Int × Int) : Nat → Int × Int
  | 0 => (far, 0)
  | m + 1 => if (t m).2 = 0 then belowE row t m else if (t m).1 + row m < (belowE row t m).1 then ((t m).1 + row m, (t m).2)
      else if (t m).1 + row m = (belowE row t m).1 then ((belowE row t m).1, (belowE row t m).2 + (t m).2) else belowE row t m
def tab (C : Nat → Nat → Int) (k : Nat) (L : Nat → Nat) (F : Nat → Int) : T → Nat → Int × Int
  | .leaf v => fun s => if s = L v then (0, 1) else (far, 0)
  | .node i l r => fun s => if 0 ≤ F i ∧ F i ≠ s then (far, 0) else
      ((belowE (C s) (tab C k L F l) k).1 + (belowE (C s) (tab C k L F r) k).1, (belowE (C s) (tab C k L F l) k).2 * (belowE (C s) (tab C k L F r) k).2)
def leastE (t : Nat → Int × Int) : Nat → Int × Int
  | 0 => (-1, 0)
  | m + 1 => if (t m).2 = 0 then leastE t m else if (leastE t m).1 < 0 ∨ (t m).1 < (leastE t m).1 then t m
      else if (t m).1 = (leastE t m).1 then ((leastE t m).1, (leastE t m).2 + (t m).2) else leastE t m

/-- What below answers. -/
theorem below_spec (row : Nat → Int) (t : Nat → Int × Int) (m : Nat) (h0 : ∀ s, s < m → 0 ≤ (t s).2) (h1 : ∀ s, s < m → (t s).2 ≠ 0 → (t s).1 + row s < far) :
    0 ≤ (belowE row t m).2 ∧ (∀ s, s < m → (t s).2 ≠ 0 → (belowE row t m).1 ≤ (t s).1 + row s ∧ 0 < (belowE row t m).2) ∧
      ((belowE row t m).2 ≠ 0 → ∃ s, s < m ∧ (t s).2 ≠ 0 ∧ (belowE row t m).1 = (t s).1 + row s) ∧ ((belowE row t m).2 = 0 → (belowE row t m).1 = far) := by
  induction m with
  | zero => exact ⟨Int.le_refl _, fun s hs => absurd hs (by omega), fun h => absurd rfl h, fun _ => rfl⟩
  | succ m ih =>
    obtain ⟨i1, i2, i3, i4⟩ := ih (fun s hs => h0 s (by omega)) (fun s hs => h1 s (by omega))
    have hm0 := h0 m (by omega)
    have hm1 := h1 m (by omega)
    simp only [belowE]
    by_cases c0 : (t m).2 = 0
    · rw [if_pos c0]
      refine ⟨i1, fun s hs hne => ?_, fun h => ?_, i4⟩
      · rcases Nat.lt_succ_iff_lt_or_eq.1 hs with h | rfl
        · exact i2 s h hne
        · exact absurd c0 hne
      · obtain ⟨s, a, b, c⟩ := i3 h
        exact ⟨s, by omega, b, c⟩
    · rw [if_neg c0]
      have hmm := hm1 c0
      by_cases c1 : (t m).1 + row m < (belowE row t m).1
      · rw [if_pos c1]
        refine ⟨hm0, fun s hs hne => ?_, fun _ => ⟨m, by omega, c0, rfl⟩, fun h => absurd h c0⟩
        refine ⟨?_, by show 0 < (t m).2; omega⟩
        show (t m).1 + row m ≤ _
        rcases Nat.lt_succ_iff_lt_or_eq.1 hs with h | rfl
        · have := (i2 s h hne).1; omega
        · omega
      · rw [if_neg c1]
        by_cases c2 : (t m).1 + row m = (belowE row t m).1
        · rw [if_pos c2]
          refine ⟨by show 0 ≤ (belowE row t m).2 + (t m).2; omega, fun s hs hne => ?_, fun _ => ⟨m, by omega, c0, c2.symm⟩, fun h => ?_⟩
          · refine ⟨?_, by show 0 < (belowE row t m).2 + (t m).2; omega⟩
            show (belowE row t m).1 ≤ _
            rcases Nat.lt_succ_iff_lt_or_eq.1 hs with h | rfl
            · exact (i2 s h hne).1
            · omega
          · exfalso
            have h' : (belowE row t m).2 + (t m).2 = 0 := h
            omega
        · rw [if_neg c2]
          have hp : (belowE row t m).2 ≠ 0 := fun h => by have := i4 h; omega
          refine ⟨i1, fun s hs hne => ?_, fun h => ?_, i4⟩
          · rcases Nat.lt_succ_iff_lt_or_eq.1 hs with h | rfl
            · exact i2 s h hne
            · exact ⟨by omega, by omega⟩
          · obtain ⟨s, a, b, c⟩ := i3 h
            exact ⟨s, by omega, b, c⟩
theorem below_many (row : Nat → Int) (t : Nat → Int × Int) (m : Nat) (M : Int) (h : ∀ s, s < m → 0 ≤ (t s).2 ∧ (t s).2 ≤ M) : 0 ≤ (belowE row t m).2 ∧ (belowE row t m).2 ≤ m * M := by
  induction m with
  | zero => simp [belowE]
  | succ m ih =>
    have i := ih (fun s hs => h s (by omega))
    have hm := h m (by omega)
    have e : ((m + 1 : Nat) : Int) * M = m * M + M := by rw [Int.natCast_add, Int.add_mul]; simp
    simp only [belowE]
    rw [e]
    have p : 0 ≤ (m : Int) * M := Int.mul_nonneg (by omega) (by omega)
    split
    · omega
    · split
      · simp only []; omega
      · split
        · simp only []; omega
        · omega
theorem least_spec (t : Nat → Int × Int) (m : Nat) (h0 : ∀ s, s < m → 0 ≤ (t s).2) (h1 : ∀ s, s < m → (t s).2 ≠ 0 → 0 ≤ (t s).1) :
    0 ≤ (leastE t m).2 ∧ (∀ s, s < m → (t s).2 ≠ 0 → (leastE t m).1 ≤ (t s).1 ∧ 0 < (leastE t m).2) ∧
      ((leastE t m).2 ≠ 0 → ∃ s, s < m ∧ (t s).2 ≠ 0 ∧ (leastE t m).1 = (t s).1) ∧ ((leastE t m).2 = 0 ↔ (leastE t m).1 < 0) := by
  induction m with
  | zero => exact ⟨Int.le_refl _, fun s hs => absurd hs (by omega), fun h => absurd rfl h, by simp [leastE]⟩
  | succ m ih =>
    obtain ⟨i1, i2, i3, i4⟩ := ih (fun s hs => h0 s (by omega)) (fun s hs => h1 s (by omega))
    have hm0 := h0 m (by omega)
    have hm1 := h1 m (by omega)
    simp only [leastE]
    by_cases c0 : (t m).2 = 0
    · rw [if_pos c0]
      refine ⟨i1, fun s hs hne => ?_, fun h => ?_, i4⟩
      · rcases Nat.lt_succ_iff_lt_or_eq.1 hs with h | rfl
        · exact i2 s h hne
        · exact absurd c0 hne
      · obtain ⟨s, a, b, c⟩ := i3 h
        exact ⟨s, by omega, b, c⟩
    · rw [if_neg c0]
      have hmm := hm1 c0
      by_cases c1 : (leastE t m).1 < 0 ∨ (t m).1 < (leastE t m).1
      · rw [if_pos c1]
        refine ⟨hm0, fun s hs hne => ⟨?_, by omega⟩, fun _ => ⟨m, by omega, c0, rfl⟩, by constructor <;> intro h <;> omega⟩
        rcases Nat.lt_succ_iff_lt_or_eq.1 hs with h | rfl
        · have := i2 s h hne
          rcases c1 with c | c
          · have := i4.2 c; omega
          · omega
        · omega
      · rw [if_neg c1]
        have hz : ¬ (leastE t m).1 < 0 := fun h => c1 (Or.inl h)
        have hp : (leastE t m).2 ≠ 0 := fun h => hz (i4.1 h)
        by_cases c2 : (t m).1 = (leastE t m).1
        · rw [if_pos c2]
          refine ⟨by show 0 ≤ (leastE t m).2 + (t m).2; omega, fun s hs hne => ⟨?_, by show 0 < (leastE t m).2 + (t m).2; omega⟩, fun _ => ⟨m, by omega, c0, c2.symm⟩, ?_⟩
          · show (leastE t m).1 ≤ _
            rcases Nat.lt_succ_iff_lt_or_eq.1 hs with h | rfl
            · exact (i2 s h hne).1
            · omega
          · show (leastE t m).2 + (t m).2 = 0 ↔ (leastE t m).1 < 0
            constructor <;> intro h <;> omega
        · rw [if_neg c2]
          refine ⟨i1, fun s hs hne => ?_, fun h => ?_, i4⟩
          · rcases Nat.lt_succ_iff_lt_or_eq.1 hs with h | rfl
            · exact i2 s h hne
            · exact ⟨by omega, by omega⟩
          · obtain ⟨s, a, b, c⟩ := i3 h
            exact ⟨s, by omega, b, c⟩
theorem least_many (t : Nat → Int × Int) (m : Nat) (M : Int) (h : ∀ s, s < m → 0 ≤ (t s).2 ∧ (t s).2 ≤ M) : 0 ≤ (leastE t m).2 ∧ (leastE t m).2 ≤ m * M := by
  induction m with
  | zero => simp [leastE]
  | succ m ih =>
    have i := ih (fun s hs => h s (by omega))
    have hm := h m (by omega)
    have e : ((m + 1 : Nat) : Int) * M = m * M + M := by rw [Int.natCast_add, Int.add_mul]; simp
    simp only [leastE]
    rw [e]
    have p : 0 ≤ (m : Int) * M := Int.mul_nonneg (by omega) (by omega)
    split
    · omega
    · split
      · omega
      · split
        · simp only []; omega
        · omega

section
variable (C : Nat → Nat → Int) (k : Nat) (L : Nat → Nat) (F : Nat → Int)
def Costs : Prop := ∀ a b, a < k → b < k → 0 ≤ C a b ∧ C a b ≤ 100
def Fit (x : Nat → Nat) (t : T) : Prop := ∀ i ∈ t.idx, x i < k ∧ (0 ≤ F i → F i = x i)
def Leaf (t : T) : Prop := ∀ v ∈ t.leaves, L v < k
def FixL (t : T) : Prop := ∀ i ∈ t.idx, F i < k

theorem pow16 (a b : Nat) : (4 * (16 : Int) ^ a) * (4 * 16 ^ b) = 16 ^ (1 + (a + b)) := by
  rw [Int.pow_add, Int.pow_add]
  generalize (16 : Int) ^ a = x
  generalize (16 : Int) ^ b = y
  rw [Int.mul_assoc, Int.mul_left_comm x 4 y]
  generalize x * y = z
  simp only [Int.pow_one] at *
  have : (16 : Int) ^ 1 = 16 := rfl
  omega
theorem idx_length_node (i : Nat) (l r : T) : (T.node i l r).idx.length = 1 + (l.idx.length + r.idx.length) := by simp [T.idx]; omega
theorem pow_pos16 (a : Nat) : (1 : Int) ≤ 16 ^ a := by
  induction a with
  | zero => simp
  | succ a ih => rw [Int.pow_succ]; omega
/-- How great the parts of a table are. -/
theorem tab_bounds (hk : k ≤ 4) (hC : Costs C k) (t : T) (hn : t.idx.length ≤ 1000) : ∀ s, s < k → (0 ≤ (tab C k L F t s).2 ∧ (tab C k L F t s).2 ≤ 16 ^ t.idx.length) ∧ ((tab C k L F t s).2 ≠ 0 → 0 ≤ (tab C k L F t s).1 ∧ (tab C k L F t s).1 ≤ 200 * t.idx.length) := by
  induction t with
  | leaf v =>
    intro s _
    simp only [tab]
    split <;> simp [T.idx]
  | node i l r ihl ihr =>
    intro s hs
    rw [idx_length_node] at hn
    have ihl := ihl (by omega)
    have ihr := ihr (by omega)
    have bl := below_many (C s) (tab C k L F l) k _ (fun u hu => (ihl u hu).1)
    have br := below_many (C s) (tab C k L F r) k _ (fun u hu => (ihr u hu).1)
    have sl := below_spec (C s) (tab C k L F l) k (fun u hu => (ihl u hu).1.1) (fun u hu h => by have := (ihl u hu).2 h; have := hC s u hs hu; unfold far; omega)
    have sr := below_spec (C s) (tab C k L F r) k (fun u hu => (ihr u hu).1.1) (fun u hu h => by have := (ihr u hu).2 h; have := hC s u hs hu; unfold far; omega)
    rw [idx_length_node]
    simp only [tab]
    split
    · exact ⟨⟨Int.le_refl _, by have := pow_pos16 (1 + (l.idx.length + r.idx.length)); show (0 : Int) ≤ _; omega⟩, fun h => absurd rfl h⟩
    · have kl : (k : Int) * 16 ^ l.idx.length ≤ 4 * 16 ^ l.idx.length := Int.mul_le_mul_of_nonneg_right (by omega) (by have := pow_pos16 l.idx.length; omega)
      have kr : (k : Int) * 16 ^ r.idx.length ≤ 4 * 16 ^ r.idx.length := Int.mul_le_mul_of_nonneg_right (by omega) (by have := pow_pos16 r.idx.length; omega)
      refine ⟨⟨Int.mul_nonneg bl.1 br.1, ?_⟩, fun h => ?_⟩
      · rw [← pow16]
        exact Int.mul_le_mul (by omega) (by omega) br.1 (by have := pow_pos16 l.idx.length; omega)
      · have h1 : (belowE (C s) (tab C k L F l) k).2 ≠ 0 := fun e => h (by show _ * _ = _; rw [e, Int.zero_mul])
        have h2 : (belowE (C s) (tab C k L F r) k).2 ≠ 0 := fun e => h (by show _ * _ = _; rw [e, Int.mul_zero])
        obtain ⟨u, hu, hu1, hu2⟩ := sl.2.2.1 h1
        obtain ⟨v, hv, hv1, hv2⟩ := sr.2.2.1 h2
        have := (ihl u hu).2 hu1
        have := (ihr v hv).2 hv1
        have := hC s u hs hu
        have := hC s v hs hv
        show 0 ≤ _ + _ ∧ _ + _ ≤ _
        rw [hu2, hv2]
        omega
/-- No labeling costs less than the table tells. -/
theorem tab_le (hk : k ≤ 4) (hC : Costs C k) (t : T) (hn : t.idx.length ≤ 1000) (hL : Leaf k L t) (x : Nat → Nat) (hx : Fit k F x t) :
    top L x t < k ∧ (tab C k L F t (top L x t)).2 ≠ 0 ∧ (tab C k L F t (top L x t)).1 ≤ sub C L x t := by
  induction t with
  | leaf v => exact ⟨hL v (by simp [T.leaves]), by simp [top, tab], by simp [top, tab, sub]⟩
  | node i l r ihl ihr =>
    rw [idx_length_node] at hn
    have B := tab_bounds C k L F hk hC
    obtain ⟨l1, l2, l3⟩ := ihl (by omega) (fun v hv => hL v (by simp [T.leaves, hv])) (fun j hj => hx j (by simp [T.idx, hj]))
    obtain ⟨r1, r2, r3⟩ := ihr (by omega) (fun v hv => hL v (by simp [T.leaves, hv])) (fun j hj => hx j (by simp [T.idx, hj]))
    obtain ⟨hi, hf⟩ := hx i (by simp [T.idx])
    have Bl := B l (by omega)
    have Br := B r (by omega)
    have sl := below_spec (C (x i)) (tab C k L F l) k (fun u hu => (Bl u hu).1.1) (fun u hu h => by have := (Bl u hu).2 h; have := hC (x i) u hi hu; unfold far; omega)
    have sr := below_spec (C (x i)) (tab C k L F r) k (fun u hu => (Br u hu).1.1) (fun u hu h => by have := (Br u hu).2 h; have := hC (x i) u hi hu; unfold far; omega)
    have a := sl.2.1 _ l1 l2
    have b := sr.2.1 _ r1 r2
    refine ⟨hi, ?_⟩
    show (tab C k L F (.node i l r) (x i)).2 ≠ 0 ∧ (tab C k L F (.node i l r) (x i)).1 ≤ sub C L x (.node i l r)
    simp only [tab, sub]
    rw [if_neg (by intro ⟨p, q⟩; exact q (hf p))]
    refine ⟨Int.ne_of_gt (Int.mul_pos a.2 b.2), ?_⟩
    show _ + _ ≤ _
    omega
/-- What the table tells is the cost of some labeling. -/
theorem tab_is (hk : k ≤ 4) (hC : Costs C k) (t : T) (hn : t.idx.length ≤ 1000) (hN : t.idx.Nodup) (s : Nat) (hs : s < k) (h : (tab C k L F t s).2 ≠ 0) :
    ∃ x : Nat → Nat, (∀ i, x i < k) ∧ Fit k F x t ∧ top L x t = s ∧ sub C L x t = (tab C k L F t s).1 := by
  induction t generalizing s with
  | leaf v =>
    simp only [tab] at h
    by_cases e : s = L v
    · exact ⟨fun _ => s, fun _ => hs, fun i hi => by simp [T.idx] at hi, e.symm, by simp [sub, tab, e]⟩
    · rw [if_neg e] at h
      exact absurd rfl h
  | node i l r ihl ihr =>
    rw [idx_length_node] at hn
    have B := tab_bounds C k L F hk hC
    have Bl := B l (by omega)
    have Br := B r (by omega)
    have sl := below_spec (C s) (tab C k L F l) k (fun u hu => (Bl u hu).1.1) (fun u hu h => by have := (Bl u hu).2 h; have := hC s u hs hu; unfold far; omega)
    have sr := below_spec (C s) (tab C k L F r) k (fun u hu => (Br u hu).1.1) (fun u hu h => by have := (Br u hu).2 h; have := hC s u hs hu; unfold far; omega)
    simp only [T.idx, List.nodup_cons, List.mem_append, not_or, List.nodup_append] at hN
    obtain ⟨⟨n1, n2⟩, nl, nr, nd⟩ := hN
    simp only [tab] at h ⊢
    by_cases c : 0 ≤ F i ∧ F i ≠ s
    · rw [if_pos c] at h
      exact absurd rfl h
    rw [if_neg c] at h ⊢
    have h1 : (belowE (C s) (tab C k L F l) k).2 ≠ 0 := fun e => h (by show _ * _ = _; rw [e, Int.zero_mul])
    have h2 : (belowE (C s) (tab C k L F r) k).2 ≠ 0 := fun e => h (by show _ * _ = _; rw [e, Int.mul_zero])
    obtain ⟨u, hu, hu1, hu2⟩ := sl.2.2.1 h1
    obtain ⟨v, hv, hv1, hv2⟩ := sr.2.2.1 h2
    obtain ⟨xl, xl0, xl1, xl2, xl3⟩ := ihl (by omega) nl u hu hu1
    obtain ⟨xr, xr0, xr1, xr2, xr3⟩ := ihr (by omega) nr v hv hv1
    have el : ∀ j ∈ l.idx, (fun j => if j = i then s else if j ∈ l.idx then xl j else xr j) j = xl j := by
      intro j hj
      simp only []
      rw [if_neg (show ¬ j = i from fun e => n1 (e ▸ hj)), if_pos hj]
    have er : ∀ j ∈ r.idx, (fun j => if j = i then s else if j ∈ l.idx then xl j else xr j) j = xr j := by
      intro j hj
      simp only []
      rw [if_neg (show ¬ j = i from fun e => n2 (e ▸ hj)), if_neg (show ¬ j ∈ l.idx from fun hl => nd j hl j hj rfl)]
    refine ⟨fun j => if j = i then s else if j ∈ l.idx then xl j else xr j, fun j => ?_, fun j hj => ?_, by simp [top], ?_⟩
    · simp only []
      split
      · exact hs
      · split
        · exact xl0 j
        · exact xr0 j
    · simp only [T.idx, List.mem_cons, List.mem_append] at hj
      rcases hj with rfl | hj | hj
      · simp only [if_true]
        exact ⟨hs, fun p => Decidable.byContradiction fun q => c ⟨p, q⟩⟩
      · rw [el j hj]; exact xl1 j hj
      · rw [er j hj]; exact xr1 j hj
    · simp only [sub]
      rw [top_congr L _ _ l el, top_congr L _ _ r er, sub_congr C L _ _ l el, sub_congr C L _ _ r er, xl2, xr2, xl3, xr3]
      simp only [if_true]
      show _ = _ + _
      rw [hu2, hv2]
      omega
/-- Some state has ways. -/
theorem tab_some (hk : k ≤ 4) (hC : Costs C k) (t : T) (hn : t.idx.length ≤ 1000) (hL : Leaf k L t) (hF : FixL k F t) (h0 : 0 < k) : ∃ s, s < k ∧ (tab C k L F t s).2 ≠ 0 := by
  have hfit : Fit k F (fun i => (F i).toNat) t := fun i hi => ⟨by have := hF i hi; show (F i).toNat < k; omega, fun h => by show F i = ((F i).toNat : Int); omega⟩
  have h := tab_le C k L F hk hC t hn hL _ hfit
  exact ⟨_, h.1, h.2.1⟩
/-- The least cost. -/
theorem least_is (hk : k ≤ 4) (hC : Costs C k) (t : T) (hn : t.idx.length ≤ 1000) (hN : t.idx.Nodup) (hL : Leaf k L t) (hF : FixL k F t) (h0 : 0 < k) :
    (∀ x, Fit k F x t → (leastE (tab C k L F t) k).1 ≤ sub C L x t) ∧ (∃ x, (∀ i, x i < k) ∧ Fit k F x t ∧ sub C L x t = (leastE (tab C k L F t) k).1) ∧
      0 < (leastE (tab C k L F t) k).2 ∧ 0 ≤ (leastE (tab C k L F t) k).1 := by
  have B := tab_bounds C k L F hk hC t hn
  have S := least_spec (tab C k L F t) k (fun s hs => (B s hs).1.1) (fun s hs h => ((B s hs).2 h).1)
  obtain ⟨s, hs, hp⟩ := tab_some C k L F hk hC t hn hL hF h0
  have hpos := (S.2.1 s hs hp).2
  obtain ⟨u, hu, hu1, hu2⟩ := S.2.2.1 (by omega)
  refine ⟨fun x hx => ?_, ?_, hpos, by rw [hu2]; exact ((B u hu).2 hu1).1⟩
  · obtain ⟨a, b, c⟩ := tab_le C k L F hk hC t hn hL x hx
    have := (S.2.1 _ a b).1
    omega
  · obtain ⟨x, x0, x1, x2, x3⟩ := tab_is C k L F hk hC t hn hN u hu hu1
    exact ⟨x, x0, x1, by rw [x3, hu2]⟩
end

/-! ## Joins -/
section
variable (n : Nat) (A B : Nat → Nat)
def treesTo : Nat → List T
  | 0 => (List.range n).map T.leaf
  | m + 1 => treesTo m ++ [T.node m ((treesTo m).getD (A m) (T.leaf 0)) ((treesTo m).getD (B m) (T.leaf 0))]
theorem treesTo_length (m : Nat) : (treesTo n A B m).length = n + m := by
  induction m with
  | zero => simp [treesTo]
  | succ m ih => simp [treesTo, ih]; omega
def tr (m v : Nat) : T := (treesTo n A B m).getD v (T.leaf 0)
theorem tr_succ (m v : Nat) (h : v < n + m) : tr n A B (m + 1) v = tr n A B m v := by
  unfold tr
  rw [treesTo, List.getD_eq_getElem?_getD, List.getElem?_append_left (by rw [treesTo_length]; exact h), ← List.getD_eq_getElem?_getD]
theorem tr_new (m : Nat) : tr n A B (m + 1) (n + m) = T.node m (tr n A B m (A m)) (tr n A B m (B m)) := by
  unfold tr
  rw [treesTo, List.getD_eq_getElem?_getD, List.getElem?_append_right (by rw [treesTo_length]; exact Nat.le_refl _), treesTo_length]
  simp
theorem tr_leaf (v : Nat) (h : v < n) : tr n A B 0 v = T.leaf v := by
  unfold tr
  rw [treesTo, List.getD_eq_getElem?_getD, List.getElem?_map, List.getElem?_range h]
  rfl
def rootsTo : Nat → List Nat
  | 0 => List.range n
  | m + 1 => ((rootsTo m).erase (A m)).erase (B m) ++ [n + m]
def Valid (m : Nat) : Prop := ∀ i, i < m → A i ∈ rootsTo n A B i ∧ B i ∈ rootsTo n A B i ∧ A i ≠ B i
theorem Valid.prev {m : Nat} (h : Valid n A B (m + 1)) : Valid n A B m := fun i hi => h i (by omega)
theorem roots_perm {m : Nat} (h : Valid n A B (m + 1)) : (rootsTo n A B m).Perm (A m :: B m :: ((rootsTo n A B m).erase (A m)).erase (B m)) := by
  obtain ⟨ha, hb, hn⟩ := h m (by omega)
  refine (List.perm_cons_erase ha).trans (List.Perm.cons _ (List.perm_cons_erase ?_))
  exact (List.mem_erase_of_ne (Ne.symm hn)).2 hb
theorem roots_lt (m : Nat) (h : Valid n A B m) : ∀ v ∈ rootsTo n A B m, v < n + m := by
  induction m with
  | zero => intro v hv; have := List.mem_range.1 hv; omega
  | succ m ih =>
    intro v hv
    rcases List.mem_append.1 hv with h1 | h1
    · have := ih (Valid.prev n A B h) v (List.mem_of_mem_erase (List.mem_of_mem_erase h1)); omega
    · have := List.mem_singleton.1 h1; omega
theorem roots_length (m : Nat) (h : Valid n A B m) : (rootsTo n A B m).length + m = n := by
  induction m with
  | zero => simp [rootsTo]
  | succ m ih =>
    have i := ih (Valid.prev n A B h)
    have p := (roots_perm n A B h).length_eq
    simp only [rootsTo, List.length_append, List.length_cons, List.length_nil] at p ⊢
    omega
def isum (f : Nat → Int) : List Nat → Int
  | [] => 0
  | v :: l => f v + isum f l
theorem isum_append (f : Nat → Int) (l r : List Nat) : isum f (l ++ r) = isum f l + isum f r := by
  induction l with
  | nil => simp [isum]
  | cons v l ih => simp only [List.cons_append, isum, ih]; omega
theorem isum_perm (f : Nat → Int) {l r : List Nat} (h : l.Perm r) : isum f l = isum f r := by
  induction h with
  | nil => rfl
  | cons v _ ih => simp only [isum, ih]
  | swap a b l => simp only [isum]; omega
  | trans _ _ i1 i2 => exact i1.trans i2
theorem isum_congr (f g : Nat → Int) (l : List Nat) (h : ∀ v ∈ l, f v = g v) : isum f l = isum g l := by
  induction l with
  | nil => rfl
  | cons v l ih => simp only [isum]; rw [h v (by simp), ih (fun u hu => h u (by simp [hu]))]
/-- The joins of the trees of all roots are all joins. -/
theorem roots_idx (m : Nat) (h : Valid n A B m) : ((rootsTo n A B m).flatMap (fun v => (tr n A B m v).idx)).Perm (List.range m) := by
  induction m with
  | zero =>
    have e : (rootsTo n A B 0).flatMap (fun v => (tr n A B 0 v).idx) = [] := by
      rw [List.flatMap_eq_nil_iff]
      intro v hv
      rw [tr_leaf n A B v (List.mem_range.1 hv)]; rfl
    rw [e]; exact List.Perm.refl _
  | succ m ih =>
    have hp := Valid.prev n A B h
    have i := ih hp
    have p := roots_perm n A B h
    have q := (p.flatMap_right (fun v => (tr n A B m v).idx)).symm.trans i
    rw [rootsTo, List.flatMap_append, List.flatMap_cons, List.flatMap_nil, List.append_nil, tr_new]
    have e : (((rootsTo n A B m).erase (A m)).erase (B m)).flatMap (fun v => (tr n A B (m + 1) v).idx) = (((rootsTo n A B m).erase (A m)).erase (B m)).flatMap (fun v => (tr n A B m v).idx) := by
      unfold List.flatMap
      congr 1
      refine List.map_congr_left fun v hv => ?_
      rw [tr_succ n A B m v (roots_lt n A B m hp v (List.mem_of_mem_erase (List.mem_of_mem_erase hv)))]
    rw [e, List.range_succ]
    simp only [List.flatMap_cons] at q
    generalize ((rootsTo n A B m).erase (A m)).erase (B m) = R at *
    simp only [T.idx]
    refine List.perm_append_comm.trans ?_
    rw [List.cons_append]
    refine (List.Perm.cons m ?_).trans (List.perm_append_singleton m _).symm
    refine List.Perm.trans ?_ q
    rw [List.append_assoc]
theorem roots_leaves (m : Nat) (h : Valid n A B m) : ((rootsTo n A B m).flatMap (fun v => (tr n A B m v).leaves)).Perm (List.range n) := by
  induction m with
  | zero =>
    have e : (rootsTo n A B 0).flatMap (fun v => (tr n A B 0 v).leaves) = List.range n := by
      show (List.range n).flatMap _ = _
      have e2 : (List.range n).flatMap (fun v => (tr n A B 0 v).leaves) = (List.range n).flatMap (fun v => [v]) := by
        unfold List.flatMap
        congr 1
        refine List.map_congr_left fun v hv => ?_
        rw [tr_leaf n A B v (List.mem_range.1 hv)]; rfl
      exact e2.trans (by simp)
    rw [e]
  | succ m ih =>
    have hp := Valid.prev n A B h
    have i := ih hp
    have p := roots_perm n A B h
    have q := (p.flatMap_right (fun v => (tr n A B m v).leaves)).symm.trans i
    rw [rootsTo, List.flatMap_append, List.flatMap_cons, List.flatMap_nil, List.append_nil, tr_new]
    have e : (((rootsTo n A B m).erase (A m)).erase (B m)).flatMap (fun v => (tr n A B (m + 1) v).leaves) = (((rootsTo n A B m).erase (A m)).erase (B m)).flatMap (fun v => (tr n A B m v).leaves) := by
      unfold List.flatMap
      congr 1
      refine List.map_congr_left fun v hv => ?_
      rw [tr_succ n A B m v (roots_lt n A B m hp v (List.mem_of_mem_erase (List.mem_of_mem_erase hv)))]
    rw [e]
    simp only [List.flatMap_cons] at q
    simp only [T.leaves]
    refine List.perm_append_comm.trans ?_
    refine List.Perm.trans ?_ q
    rw [List.append_assoc]
def st (n : Nat) (L x : Nat → Nat) (v : Nat) : Nat := if v < n then L v else x (v - n)
def edge (C : Nat → Nat → Int) (L x : Nat → Nat) (i : Nat) : Int := C (x i) (st n L x (A i)) + C (x i) (st n L x (B i))
def total (C : Nat → Nat → Int) (L x : Nat → Nat) : Nat → Int
  | 0 => 0
  | m + 1 => total C L x m + edge n A B C L x m
theorem tr_top (L x : Nat → Nat) (m v : Nat) (h : v < n + m) : top L x (tr n A B m v) = st n L x v := by
  induction m with
  | zero => rw [tr_leaf n A B v (by omega)]; unfold st; rw [if_pos (by omega)]; rfl
  | succ m ih =>
    by_cases e : v < n + m
    · rw [tr_succ n A B m v e, ih e]
    · obtain rfl : v = n + m := by omega
      rw [tr_new]
      unfold st
      rw [if_neg (by omega)]
      show x m = _
      congr 1; omega
theorem roots_sub (C : Nat → Nat → Int) (L x : Nat → Nat) (m : Nat) (h : Valid n A B m) : isum (fun v => sub C L x (tr n A B m v)) (rootsTo n A B m) = total n A B C L x m := by
  induction m with
  | zero =>
    show isum _ (List.range n) = 0
    have : ∀ l : List Nat, (∀ v ∈ l, v < n) → isum (fun v => sub C L x (tr n A B 0 v)) l = 0 := by
      intro l
      induction l with
      | nil => intro _; rfl
      | cons v l ih => intro hl; simp only [isum]; rw [tr_leaf n A B v (hl v (by simp)), ih (fun u hu => hl u (by simp [hu]))]; rfl
    exact this _ (fun v hv => List.mem_range.1 hv)
  | succ m ih =>
    have hp := Valid.prev n A B h
    have i := ih hp
    have p := roots_perm n A B h
    rw [isum_perm _ p] at i
    simp only [isum] at i
    obtain ⟨ha, hb, _⟩ := h m (by omega)
    rw [rootsTo, isum_append, isum_congr _ (fun v => sub C L x (tr n A B m v)) _ (fun v hv => by rw [tr_succ n A B m v (roots_lt n A B m hp v (List.mem_of_mem_erase (List.mem_of_mem_erase hv)))])]
    simp only [isum, tr_new, sub, total, edge]
    rw [tr_top n A B L x m _ (roots_lt n A B m hp _ ha), tr_top n A B L x m _ (roots_lt n A B m hp _ hb)]
    omega
/-- The last join is the root of all. -/
theorem roots_last (m : Nat) (h : Valid n A B (m + 1)) (hm : m + 2 = n) : rootsTo n A B (m + 1) = [n + m] := by
  have l := roots_length n A B (m + 1) h
  rw [rootsTo] at l ⊢
  rw [List.length_append, List.length_singleton] at l
  rw [List.eq_nil_of_length_eq_zero (by omega : (((rootsTo n A B m).erase (A m)).erase (B m)).length = 0)]
  rfl
def whole : T := tr n A B (n - 1) (2 * n - 2)
theorem whole_idx (hn : 2 ≤ n) (h : Valid n A B (n - 1)) : (whole n A B).idx.Perm (List.range (n - 1)) := by
  obtain ⟨m, rfl⟩ : ∃ m, n = m + 2 := ⟨n - 2, by omega⟩
  have p := roots_idx (m + 2) A B (m + 1) h
  rw [roots_last (m + 2) A B m h rfl, List.flatMap_cons, List.flatMap_nil, List.append_nil] at p
  unfold whole
  rw [show 2 * (m + 2) - 2 = m + 2 + m by omega]
  exact p
theorem whole_leaves (hn : 2 ≤ n) (h : Valid n A B (n - 1)) : (whole n A B).leaves.Perm (List.range n) := by
  obtain ⟨m, rfl⟩ : ∃ m, n = m + 2 := ⟨n - 2, by omega⟩
  have p := roots_leaves (m + 2) A B (m + 1) h
  rw [roots_last (m + 2) A B m h rfl, List.flatMap_cons, List.flatMap_nil, List.append_nil] at p
  unfold whole
  rw [show 2 * (m + 2) - 2 = m + 2 + m by omega]
  exact p
theorem whole_sub (C : Nat → Nat → Int) (L x : Nat → Nat) (hn : 2 ≤ n) (h : Valid n A B (n - 1)) : sub C L x (whole n A B) = total n A B C L x (n - 1) := by
  obtain ⟨m, rfl⟩ : ∃ m, n = m + 2 := ⟨n - 2, by omega⟩
  have p := roots_sub (m + 2) A B C L x (m + 1) h
  rw [roots_last (m + 2) A B m h rfl] at p
  unfold whole
  rw [show 2 * (m + 2) - 2 = m + 2 + m by omega]
  simp only [isum] at p
  show sub C L x (tr (m + 2) A B (m + 1) (m + 2 + m)) = total (m + 2) A B C L x (m + 1)
  omega
/-- Sankoff: what least answers is the least of all total costs. -/
theorem sankoff_is (C : Nat → Nat → Int) (k : Nat) (L : Nat → Nat) (F : Nat → Int) (hk : k ≤ 4) (h0 : 0 < k) (hC : Costs C k) (hn : 2 ≤ n) (hn8 : n ≤ 8) (h : Valid n A B (n - 1)) (hL : ∀ v, v < n → L v < k) (hF : ∀ i, i < n - 1 → F i < k) :
    (∀ x : Nat → Nat, (∀ i, i < n - 1 → x i < k ∧ (0 ≤ F i → F i = x i)) → (leastE (tab C k L F (whole n A B)) k).1 ≤ total n A B C L x (n - 1)) ∧
    (∃ x : Nat → Nat, (∀ i, x i < k) ∧ (∀ i, i < n - 1 → 0 ≤ F i → F i = x i) ∧ total n A B C L x (n - 1) = (leastE (tab C k L F (whole n A B)) k).1) ∧
    0 < (leastE (tab C k L F (whole n A B)) k).2 ∧ 0 ≤ (leastE (tab C k L F (whole n A B)) k).1 := by
  have pi := whole_idx n A B hn h
  have pl := whole_leaves n A B hn h
  have hlen : (whole n A B).idx.length ≤ 1000 := by rw [pi.length_eq, List.length_range]; omega
  have hnd : (whole n A B).idx.Nodup := pi.nodup_iff.2 List.nodup_range
  have mi : ∀ i, i ∈ (whole n A B).idx ↔ i < n - 1 := fun i => by rw [pi.mem_iff, List.mem_range]
  have ml : ∀ v, v ∈ (whole n A B).leaves ↔ v < n := fun v => by rw [pl.mem_iff, List.mem_range]
  obtain ⟨a, ⟨x, x1, x2, x3⟩, c, d⟩ := least_is C k L F hk hC (whole n A B) hlen hnd (fun v hv => hL v ((ml v).1 hv)) (fun i hi => hF i ((mi i).1 hi)) h0
  refine ⟨fun x hx => ?_, ⟨x, x1, fun i hi => (x2 i ((mi i).2 hi)).2, ?_⟩, c, d⟩
  · have := a x (fun i hi => hx i ((mi i).1 hi))
    rwa [whole_sub n A B C L x hn h] at this
  · rw [← whole_sub n A B C L x hn h]; exact x3
end
end Go.Proofs.Ytcphmeeighhdjaa.TT
