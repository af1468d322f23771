/- Permutations of n numbers, with the pairs that they exchange. -/
import Derived.Test.YtolpnaiincngjaaGreatG3
set_option linter.unusedVariables false
set_option linter.unusedSimpArgs false
namespace Go.Gar
/-- A permutation that moves numbers below n alone. -/
structure Pm (n : Nat) where
  f : Nat → Nat
  g : Nat → Nat
  gf : ∀ x, g (f x) = x
  fg : ∀ x, f (g x) = x
  out : ∀ x, n ≤ x → f x = x
namespace Pm
variable {n : Nat}
theorem ext {a b : Pm n} (h : ∀ x, a.f x = b.f x) : a = b := by
  have hf : a.f = b.f := funext h
  have hg : a.g = b.g := funext fun x => by
    have := b.gf (a.g x)
    rw [← hf, a.fg] at this
    exact this.symm
  cases a
  cases b
  simp only at hf hg
  subst hf
  subst hg
  rfl
theorem inj (a : Pm n) {x y : Nat} (h : a.f x = a.f y) : x = y := by rw [← a.gf x, h, a.gf]
theorem inj_g (a : Pm n) {x y : Nat} (h : a.g x = a.g y) : x = y := by rw [← a.fg x, h, a.fg]
theorem out_g (a : Pm n) (x : Nat) (h : n ≤ x) : a.g x = x := by
  have := a.gf x
  rw [a.out x h] at this
  exact this
theorem lt (a : Pm n) {x : Nat} (h : x < n) : a.f x < n := by
  apply Nat.lt_of_not_le
  intro h1
  have := a.inj (a.out _ h1)
  omega
theorem lt_g (a : Pm n) {x : Nat} (h : x < n) : a.g x < n := by
  apply Nat.lt_of_not_le
  intro h1
  have := a.inj_g (a.out_g _ h1)
  omega
instance : Grp (Pm n) where
  mul a b := ⟨fun x => b.f (a.f x), fun x => a.g (b.g x), fun x => by simp only [b.gf, a.gf], fun x => by simp only [a.fg, b.fg], fun x h => by simp only [a.out x h, b.out x h]⟩
  one := ⟨fun x => x, fun x => x, fun _ => rfl, fun _ => rfl, fun _ _ => rfl⟩
  inv a := ⟨a.g, a.f, a.fg, a.gf, a.out_g⟩
  assoc _ _ _ := rfl
  one_mul _ := rfl
  mul_one _ := rfl
  inv_mul a := ext fun x => a.fg x
  mul_inv a := ext fun x => a.gf x
@[simp] theorem mul_f (a b : Pm n) (x : Nat) : (a * b).f x = b.f (a.f x) := rfl
@[simp] theorem mul_g (a b : Pm n) (x : Nat) : (a * b).g x = a.g (b.g x) := rfl
@[simp] theorem one_f (x : Nat) : (1 : Pm n).f x = x := rfl
@[simp] theorem one_g (x : Nat) : (1 : Pm n).g x = x := rfl
@[simp] theorem inv_f (a : Pm n) (x : Nat) : (a⁻¹).f x = a.g x := rfl
@[simp] theorem inv_g (a : Pm n) (x : Nat) : (a⁻¹).g x = a.f x := rfl
def hf (n x : Nat) : Nat := if x < n then n - 1 - x else x
theorem hf_hf (n x : Nat) : hf n (hf n x) = x := by
  unfold hf
  split
  · split <;> omega
  · rfl
/-- The half turn. -/
def half (n : Nat) : Pm n := ⟨hf n, hf n, hf_hf n, hf_hf n, fun x h => by unfold hf; split <;> omega⟩
@[simp] theorem half_f (x : Nat) : (half n).f x = hf n x := rfl
theorem half_half : half n * half n = 1 := ext fun x => hf_hf n x
theorem half_inv : (half n)⁻¹ = half n := ext fun x => rfl
/-- Exchange of p and p + 1. -/
def sf (p x : Nat) : Nat := if x = p then p + 1 else if x = p + 1 then p else x
theorem sf_sf (p x : Nat) : sf p (sf p x) = x := by
  unfold sf
  split
  · simp; omega
  · split
    · simp; omega
    · rfl
def swap (n p : Nat) (h : p + 1 < n) : Pm n := ⟨sf p, sf p, sf_sf p, sf_sf p, fun x hx => by unfold sf; split <;> (try split) <;> omega⟩
/-- Each pair that a exchanges b exchanges, too. -/
def le (a b : Pm n) : Prop := ∀ i j, i < j → a.f j < a.f i → b.f j < b.f i
theorem below {a : Pm n} {i j : Nat} (h : i < j) (h1 : a.f j < a.f i) : j < n := by
  apply Nat.lt_of_not_le
  intro h2
  rw [a.out j h2] at h1
  rcases Nat.lt_or_ge i n with h3 | h3
  · have := a.lt h3
    omega
  · rw [a.out i h3] at h1
    omega
theorem hf_anti {i j : Nat} (h : i < j) (hj : j < n) : hf n j < hf n i := by
  unfold hf
  rw [if_pos hj, if_pos (by omega)]
  omega
theorem hf_rev {i j : Nat} (h : hf n i < hf n j) : j < i ∨ (n ≤ j) := by
  unfold hf at h
  split at h <;> split at h <;> omega
theorem mono_id {φ ψ : Nat → Nat} (h1 : ∀ x, φ (ψ x) = x) (hφ : ∀ x y, x < y → φ x < φ y) (hψ : ∀ x y, x < y → ψ x < ψ y) (x : Nat) : φ x = x := by
  have up : ∀ {f : Nat → Nat}, (∀ x y, x < y → f x < f y) → ∀ x, x ≤ f x := by
    intro f hf x
    induction x with
    | zero => omega
    | succ x ih => have := hf x (x + 1) (by omega); omega
  have a1 := up hφ x
  have a2 := up hψ x
  rcases Nat.lt_or_ge x (ψ x) with h | h
  · have := hφ _ _ h
    rw [h1] at this
    omega
  · have : ψ x = x := by omega
    have h2 := h1 x
    rw [this] at h2
    exact h2
theorem mono_of {a b : Pm n} (h1 : le a b) (h2 : le b a) (x y : Nat) (hxy : x < y) : b.f (a.g x) < b.f (a.g y) := by
  rcases Nat.lt_trichotomy (a.g x) (a.g y) with h | h | h
  · apply Nat.lt_of_not_le
    intro h3
    have h4 : b.f (a.g y) < b.f (a.g x) := by
      rcases Nat.lt_or_ge (b.f (a.g y)) (b.f (a.g x)) with h5 | h5
      · exact h5
      · have := b.inj (show b.f (a.g x) = b.f (a.g y) by omega)
        omega
    have := h2 _ _ h h4
    rw [a.fg, a.fg] at this
    omega
  · have := a.inj_g h
    omega
  · exact h1 _ _ h (by rw [a.fg, a.fg]; exact hxy)
theorem le_anti {a b : Pm n} (h1 : le a b) (h2 : le b a) : a = b := by
  have key := mono_id (φ := fun x => b.f (a.g x)) (ψ := fun x => a.f (b.g x)) (fun x => by simp only [a.gf, b.fg]) (mono_of h1 h2) (mono_of h2 h1)
  apply ext
  intro x
  have := key (a.f x)
  simp only [a.gf] at this
  exact this.symm
theorem le_half (a : Pm n) : le a (half n) := fun i j h h1 => hf_anti h (below h h1)
theorem lt_or {a : Pm n} {i j : Nat} (h : i ≠ j) : a.f i < a.f j ∨ a.f j < a.f i := by
  have : a.f i ≠ a.f j := fun e => h (a.inj e)
  omega
theorem p0 {x y : Pm n} (h : le x y) : le (x⁻¹ * y) (x⁻¹ * half n) := by
  intro i j hij h1
  simp only [mul_f, inv_f, half_f] at h1 ⊢
  rcases Nat.lt_trichotomy (x.g i) (x.g j) with h2 | h2 | h2
  · exact hf_anti h2 (below h2 h1)
  · have := x.inj_g h2
    omega
  · have := h _ _ h2 (by rw [x.fg, x.fg]; exact hij)
    omega
theorem p1 {x y : Pm n} (h : le y (x⁻¹ * half n)) : le x (x * y) := by
  intro i j hij h1
  simp only [mul_f]
  rcases lt_or (a := y) (i := x.f j) (j := x.f i) (fun e => by omega) with h2 | h2
  · exact h2
  · have := h _ _ h1 h2
    simp only [mul_f, inv_f, half_f, x.gf] at this
    have h3 := below hij h1
    have := hf_anti hij h3
    omega
theorem p2 {v x y : Pm n} (h1 : le x (v⁻¹ * half n)) (h2 : le y (v⁻¹ * half n)) : le (v * x) (v * y) ↔ le x y := by
  constructor
  · intro h i j hij hx
    have h3 := h1 i j hij hx
    simp only [mul_f, inv_f, half_f] at h3
    have hj := below hij hx
    have h4 : v.g i < v.g j := by
      rcases hf_rev h3 with h5 | h5
      · exact h5
      · have := v.lt_g (show i < n by omega)
        omega
    have := h (v.g i) (v.g j) h4 (by simp only [mul_f, v.fg]; exact hx)
    simpa only [mul_f, v.fg] using this
  · intro h i j hij hx
    simp only [mul_f] at hx ⊢
    rcases lt_or (a := v) (i := i) (j := j) (by omega) with h3 | h3
    · exact h _ _ h3 hx
    · exact p1 h2 i j hij h3
/-- What letters taken as long as one begins both lead to: c is within both, and no letter behind it goes on. -/
structure Greedy (a b c : Pm n) : Prop where
  la : le c a
  lb : le c b
  stop : ∀ p, p + 1 < n → c.g p < c.g (p + 1) → ¬ (a.f (c.g (p + 1)) < a.f (c.g p) ∧ b.f (c.g (p + 1)) < b.f (c.g p))
theorem turning {P : Nat → Prop} : ∀ (d lo : Nat), P lo → ¬ P (lo + d) → ∃ r, lo ≤ r ∧ r < lo + d ∧ P r ∧ ¬ P (r + 1)
  | 0, lo, h1, h2 => (h2 h1).elim
  | d + 1, lo, h1, h2 => by
    by_cases h : P (lo + 1)
    · obtain ⟨r, r1, r2, r3, r4⟩ := turning d (lo + 1) h (by rwa [show lo + 1 + d = lo + (d + 1) by omega])
      exact ⟨r, by omega, by omega, r3, r4⟩
    · exact ⟨lo, Nat.le_refl _, by omega, h1, h⟩
theorem Greedy.max {a b c z : Pm n} (h : Greedy a b c) (hza : le z a) (hzb : le z b) : le z c := by
  suffices ∀ (d x y : Nat), c.f y - c.f x = d → x < y → z.f y < z.f x → c.f y < c.f x by
    intro i j hij hz
    exact this _ i j rfl hij hz
  intro d
  induction d using Nat.strongRecOn with
  | ind d ih =>
    intro x y hd hxy hz
    rcases lt_or (a := c) (i := y) (j := x) (by omega) with h0 | h0
    · exact h0
    · exfalso
      have hyn := below hxy hz
      have hcy := c.lt hyn
      have ax := hza _ _ hxy hz
      have bx := hzb _ _ hxy hz
      -- no label between them that is a number between them
      have mid : ∀ r, c.f x < r → r < c.f y → ¬ (x < c.g r ∧ c.g r < y) := by
        intro r hr1 hr2 ⟨hr3, hr4⟩
        rcases Nat.lt_or_ge (z.f (c.g r)) (z.f x) with h1 | h1
        · have := ih (r - c.f x) (by omega) x (c.g r) (by rw [c.fg]) hr3 h1
          rw [c.fg] at this
          omega
        · have := ih (c.f y - r) (by omega) (c.g r) y (by rw [c.fg]) hr4 (by omega)
          rw [c.fg] at this
          omega
      obtain ⟨r, r1, r2, r3, r4⟩ := turning (P := fun r => c.g r ≤ x) (c.f y - c.f x) (c.f x) (by simp only [c.gf]; omega) (by
        rw [show c.f x + (c.f y - c.f x) = c.f y by omega]
        simp only [c.gf]
        omega)
      have hr : r + 1 ≤ c.f y := by omega
      have hu : a.f x ≤ a.f (c.g r) ∧ b.f x ≤ b.f (c.g r) := by
        rcases Nat.lt_or_ge (c.g r) x with h1 | h1
        · have h2 : c.f x < c.f (c.g r) := by
            rw [c.fg]
            rcases Nat.lt_or_ge (c.f x) r with h3 | h3
            · exact h3
            · have : r = c.f x := by omega
              rw [this, c.gf] at h1
              omega
          have := h.la _ _ h1 h2
          have := h.lb _ _ h1 h2
          omega
        · have : c.g r = x := by omega
          rw [this]
          omega
      have hv : y ≤ c.g (r + 1) ∧ a.f (c.g (r + 1)) ≤ a.f y ∧ b.f (c.g (r + 1)) ≤ b.f y := by
        rcases Nat.lt_or_ge (r + 1) (c.f y) with h1 | h1
        · have h2 := mid (r + 1) (by omega) h1
          have h3 : y ≤ c.g (r + 1) := by omega
          rcases Nat.lt_or_ge y (c.g (r + 1)) with h4 | h4
          · have h5 : c.f (c.g (r + 1)) < c.f y := by rw [c.fg]; exact h1
            have := h.la _ _ h4 h5
            have := h.lb _ _ h4 h5
            omega
          · have : c.g (r + 1) = y := by omega
            rw [this]
            omega
        · have : r + 1 = c.f y := by omega
          rw [this, c.gf]
          omega
      exact h.stop r (by omega) (by omega) ⟨by omega, by omega⟩
theorem Greedy.unique {a b c d : Pm n} (h : Greedy a b c) (h' : Greedy a b d) : c = d := le_anti (h'.max h.la h.lb) (h.max h'.la h'.lb)
/-- One letter more. -/
def put1 (c : Pm n) (p : Nat) (h : p + 1 < n) : Pm n := c * swap n p h
theorem put1_f (c : Pm n) (p : Nat) (h : p + 1 < n) (x : Nat) : (put1 c p h).f x = sf p (c.f x) := rfl
theorem put1_inv {c : Pm n} {p : Nat} {h : p + 1 < n} (hc : c.g p < c.g (p + 1)) {i j : Nat} (hij : i < j) :
    (put1 c p h).f j < (put1 c p h).f i ↔ c.f j < c.f i ∨ (i = c.g p ∧ j = c.g (p + 1)) := by
  rw [put1_f, put1_f]
  have e1 : ∀ x, c.f x = p ↔ x = c.g p := fun x => ⟨fun h => by rw [← h, c.gf], fun h => by rw [h, c.fg]⟩
  have e2 : ∀ x, c.f x = p + 1 ↔ x = c.g (p + 1) := fun x => ⟨fun h => by rw [← h, c.gf], fun h => by rw [h, c.fg]⟩
  unfold sf
  have a1 := e1 i
  have a2 := e1 j
  have b1 := e2 i
  have b2 := e2 j
  by_cases c1 : c.f i = p
  · have := a1.1 c1
    by_cases c2 : c.f j = p + 1
    · have := b2.1 c2
      simp [c1, c2, ← this]
      omega
    · by_cases c3 : c.f j = p
      · have := a2.1 c3; omega
      · have h4 : ¬ j = c.g (p + 1) := fun h => c2 (b2.2 h)
        simp [c1, c2, c3, h4]
        omega
  · have h5 : ¬ i = c.g p := fun h => c1 (a1.2 h)
    by_cases c2 : c.f i = p + 1
    · have h6 := b1.1 c2
      by_cases c3 : c.f j = p
      · have := a2.1 c3; omega
      · have h7 : ¬ c.f j = p + 1 := fun h => by have := b2.1 h; omega
        simp [c2, c3, h7, h5]
        omega
    · by_cases c3 : c.f j = p
      · simp [c1, c2, c3, h5]
        omega
      · by_cases c4 : c.f j = p + 1
        · simp [c1, c2, c4, h5]
          omega
        · simp [c1, c2, c3, c4, h5]
theorem put1_le {a c : Pm n} {p : Nat} {h : p + 1 < n} (hc : c.g p < c.g (p + 1)) (hca : le c a) (ha : a.f (c.g (p + 1)) < a.f (c.g p)) : le (put1 c p h) a := by
  intro i j hij h1
  rcases (put1_inv hc hij).1 h1 with h2 | ⟨rfl, rfl⟩
  · exact hca _ _ hij h2
  · exact ha
/-- How many pairs are exchanged. -/
def cnt (c : Pm n) : Nat := ((List.range n).flatMap fun i => (List.range n).map fun j => (i, j)).countP fun q => decide (q.1 < q.2) && decide (c.f q.2 < c.f q.1)
theorem cnt_le (c : Pm n) : cnt c ≤ n * n := by
  have := List.countP_le_length (p := fun q : Nat × Nat => decide (q.1 < q.2) && decide (c.f q.2 < c.f q.1)) (l := (List.range n).flatMap fun i => (List.range n).map fun j => (i, j))
  have e : ((List.range n).flatMap fun i => (List.range n).map fun j => (i, j)).length = n * n := by
    simp [List.length_flatMap, List.map_const', List.sum_replicate_nat]
  unfold cnt
  omega
theorem countP_lt {α : Type} {p q : α → Bool} : ∀ {l : List α} {x : α}, (∀ y ∈ l, p y = true → q y = true) → x ∈ l → p x = false → q x = true → l.countP p < l.countP q
  | [], x, _, hx, _, _ => by simp at hx
  | a :: l, x, h, hx, h1, h2 => by
    have hle : l.countP p ≤ l.countP q := List.countP_mono_left (fun y hy => h y (List.mem_cons_of_mem _ hy))
    rcases List.mem_cons.1 hx with rfl | hx
    · simp [List.countP_cons, h1, h2]
      omega
    · have := countP_lt (fun y hy => h y (List.mem_cons_of_mem _ hy)) hx h1 h2
      have h3 := h a List.mem_cons_self
      simp only [List.countP_cons]
      cases h4 : p a <;> cases h5 : q a <;> simp_all <;> omega
theorem cnt_put1 {c : Pm n} {p : Nat} {h : p + 1 < n} (hc : c.g p < c.g (p + 1)) : cnt c < cnt (put1 c p h) := by
  have hn : c.g (p + 1) < n := c.lt_g h
  apply countP_lt (x := (c.g p, c.g (p + 1)))
  · intro q hq h1
    simp only [Bool.and_eq_true, decide_eq_true_eq] at h1 ⊢
    exact ⟨h1.1, (put1_inv hc h1.1).2 (.inl h1.2)⟩
  · simp only [List.mem_flatMap, List.mem_range, List.mem_map]
    exact ⟨c.g p, by omega, c.g (p + 1), hn, rfl⟩
  · simp only [c.fg]
    simp
  · simp only [Bool.and_eq_true, decide_eq_true_eq]
    exact ⟨hc, (put1_inv hc hc).2 (.inr ⟨rfl, rfl⟩)⟩
theorem greedy_from (a b : Pm n) : ∀ (k : Nat) (c : Pm n), n * n ≤ cnt c + k → le c a → le c b → ∃ d, Greedy a b d := by
  intro k
  induction k with
  | zero =>
    intro c hc ha hb
    refine ⟨c, ha, hb, fun p hp h1 h2 => ?_⟩
    have := cnt_put1 (h := hp) h1
    have := cnt_le (put1 c p hp)
    omega
  | succ k ih =>
    intro c hc ha hb
    by_cases h : ∃ p, p + 1 < n ∧ c.g p < c.g (p + 1) ∧ a.f (c.g (p + 1)) < a.f (c.g p) ∧ b.f (c.g (p + 1)) < b.f (c.g p)
    · obtain ⟨p, hp, h1, h2, h3⟩ := h
      have := cnt_put1 (h := hp) h1
      exact ih (put1 c p hp) (by omega) (put1_le h1 ha h2) (put1_le h1 hb h3)
    · exact ⟨c, ha, hb, fun p hp h1 h2 => h ⟨p, hp, h1, h2.1, h2.2⟩⟩
theorem one_le (a : Pm n) : le 1 a := fun i j h h1 => by simp only [one_f] at h1; omega
theorem greedy_ex (a b : Pm n) : ∃ d, Greedy a b d := greedy_from a b (n * n) 1 (by omega) (one_le a) (one_le b)
noncomputable def meet (a b : Pm n) : Pm n := (greedy_ex a b).choose
theorem meet_greedy (a b : Pm n) : Greedy a b (meet a b) := (greedy_ex a b).choose_spec
theorem Greedy.eq {a b c : Pm n} (h : Greedy a b c) : c = meet a b := h.unique (meet_greedy a b)
noncomputable def lat (n : Nat) : Lat (Pm n) where
  S _ := True
  le := le
  D := half n
  meet := meet
  S_one := trivial
  S_D := trivial
  S_K _ := trivial
  S_K' _ := trivial
  refl _ := fun _ _ _ h => h
  trans _ _ _ h1 h2 := fun i j h h3 => h2 i j h (h1 i j h h3)
  anti _ _ := le_anti
  one_le _ := one_le _
  le_D _ := le_half _
  S_meet _ _ := trivial
  meet_l _ _ := (meet_greedy _ _).la
  meet_r _ _ := (meet_greedy _ _).lb
  le_meet _ _ _ h1 h2 := (meet_greedy _ _).max h1 h2
  p0 _ _ h := ⟨trivial, p0 h⟩
  p1 _ _ h := ⟨trivial, p1 h⟩
  p2 _ _ _ := p2
end Pm
end Go.Gar
