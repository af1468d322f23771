/- Labels of groups, and the array that goes to the next of a group. -/
import Derived.Test.YtadjhggdddbicaaMa2
set_option linter.unusedVariables false
set_option linter.unusedSimpArgs false
namespace Go.Ev
open Go.Gar
/-- Each label is the least of its group. -/
def Can (n : Nat) (g : Nat → Nat) : Prop := ∀ x, x < n → g x ≤ x ∧ g (g x) = g x
def nx (g : Nat → Nat) (i : Nat) : Nat → Nat → Nat
  | 0, _ => g i
  | d + 1, j => if g j = g i then j else nx g i d (j + 1)
def mdf (n : Nat) (g : Nat → Nat) (i : Nat) : Nat := nx g i (n - (i + 1)) (i + 1)
theorem nx_spec (g : Nat → Nat) (i : Nat) : ∀ d j, (∃ k, j ≤ k ∧ k < j + d ∧ g k = g i ∧ (∀ y, j ≤ y → y < k → g y ≠ g i) ∧ nx g i d j = k) ∨ ((∀ y, j ≤ y → y < j + d → g y ≠ g i) ∧ nx g i d j = g i) := by
  intro d
  induction d with
  | zero => intro j; right; exact ⟨fun y h1 h2 => by omega, rfl⟩
  | succ d ih =>
    intro j
    by_cases h : g j = g i
    · left
      exact ⟨j, Nat.le_refl _, by omega, h, fun y h1 h2 => by omega, by rw [nx, if_pos h]⟩
    · rw [nx, if_neg h]
      rcases ih (j + 1) with ⟨k, k1, k2, k3, k4, k5⟩ | ⟨k1, k2⟩
      · left
        refine ⟨k, by omega, by omega, k3, fun y h1 h2 => ?_, k5⟩
        by_cases hy : y = j
        · rw [hy]; exact h
        · exact k4 y (by omega) h2
      · right
        refine ⟨fun y h1 h2 => ?_, k2⟩
        by_cases hy : y = j
        · rw [hy]; exact h
        · exact k1 y (by omega) (by omega)
theorem mdf_spec {n : Nat} {g : Nat → Nat} {i : Nat} (hi : i < n) : (∃ k, i < k ∧ k < n ∧ g k = g i ∧ (∀ y, i < y → y < k → g y ≠ g i) ∧ mdf n g i = k) ∨ ((∀ y, i < y → y < n → g y ≠ g i) ∧ mdf n g i = g i) := by
  rcases nx_spec g i (n - (i + 1)) (i + 1) with ⟨k, k1, k2, k3, k4, k5⟩ | ⟨k1, k2⟩
  · exact .inl ⟨k, by omega, by omega, k3, fun y h1 h2 => k4 y (by omega) h2, k5⟩
  · exact .inr ⟨fun y h1 h2 => k1 y (by omega) (by omega), k2⟩
theorem mdf_lt {n : Nat} {g : Nat → Nat} (hg : Can n g) {i : Nat} (hi : i < n) : mdf n g i < n := by
  rcases mdf_spec (g := g) hi with ⟨k, _, k2, _, _, k5⟩ | ⟨_, k2⟩
  · omega
  · have := (hg i hi).1
    omega
theorem mdf_inj {n : Nat} {g : Nat → Nat} (hg : Can n g) {x y : Nat} (hx : x < n) (hy : y < n) (h : mdf n g x = mdf n g y) : x = y := by
  have gx := hg x hx
  have gy := hg y hy
  rcases mdf_spec (g := g) hx with ⟨k, k1, k2, k3, k4, k5⟩ | ⟨k1, k2⟩
  · rcases mdf_spec (g := g) hy with ⟨l, l1, l2, l3, l4, l5⟩ | ⟨l1, l2⟩
    · have e : k = l := by omega
      subst e
      apply Classical.byContradiction
      intro hne
      rcases Nat.lt_or_gt_of_ne hne with h1 | h1
      · exact k4 y h1 l1 (by omega)
      · exact l4 x h1 k1 (by omega)
    · have e : k = g y := by omega
      subst e
      omega
  · rcases mdf_spec (g := g) hy with ⟨l, l1, l2, l3, l4, l5⟩ | ⟨l1, l2⟩
    · have e : l = g x := by omega
      subst e
      omega
    · have e : g x = g y := by omega
      apply Classical.byContradiction
      intro hne
      rcases Nat.lt_or_gt_of_ne hne with h1 | h1
      · exact k1 y h1 hy e.symm
      · exact l1 x h1 hx e
theorem mdf_pm {n : Nat} {g : Nat → Nat} (hg : Can n g) : ∃ s : Pm n, A8 n (mdf n g) = sA s ∧ ∀ x, x < n → s.f x = mdf n g x := by
  obtain ⟨s, hs⟩ := pm_of (n := n) (f := mdf n g) (fun x hx => mdf_lt hg hx) (fun x y hx hy h => mdf_inj hg hx hy h)
  exact ⟨s, A8_congr (fun x hx => (hs x hx).symm), hs⟩
theorem mdf_congr {n : Nat} {g h : Nat → Nat} (e : ∀ x, x < n → g x = h x) {i : Nat} (hi : i < n) : mdf n g i = mdf n h i := by
  have : ∀ d j, j + d ≤ n → nx g i d j = nx h i d j := by
    intro d
    induction d with
    | zero => intro j _; exact e i hi
    | succ d ih =>
      intro j hj
      rw [nx, nx, e j (by omega), e i hi, ih (j + 1) (by omega)]
  exact this _ _ (by omega)
/-! ### labels along cycles -/
/-- What is labelled before q of the group i. -/
def sn (n : Nat) (g : Nat → Nat) (i q : Nat) (x : Nat) : Bool := decide (x < n ∧ (g x < i ∨ (g x = i ∧ x < q)))
def lab (g : Nat → Nat) (i q : Nat) (x : Nat) : Nat := if g x < i ∨ (g x = i ∧ x < q) then g x else 0
/-! ### merged labels -/
/-- After the merges of the first i. -/
def mg (g : Nat → Nat) (i : Nat) (x : Nat) : Nat := if (List.range x).any (fun y => decide (i ≤ y ∧ g y = g x)) then x else g x
theorem mg_cases (g : Nat → Nat) (i x : Nat) : (∃ y, i ≤ y ∧ y < x ∧ g y = g x) ∧ mg g i x = x ∨ (∀ y, i ≤ y → y < x → g y ≠ g x) ∧ mg g i x = g x := by
  unfold mg
  by_cases h : (List.range x).any (fun y => decide (i ≤ y ∧ g y = g x)) = true
  · left
    rw [if_pos h]
    obtain ⟨y, hy, hd⟩ := List.any_eq_true.1 h
    have := of_decide_eq_true hd
    exact ⟨⟨y, this.1, List.mem_range.1 hy, this.2⟩, rfl⟩
  · right
    rw [if_neg h]
    refine ⟨fun y h1 h2 h3 => h (List.any_eq_true.2 ⟨y, List.mem_range.2 h2, decide_eq_true ⟨h1, h3⟩⟩), rfl⟩
theorem mg_zero {n : Nat} {g : Nat → Nat} (hg : Can n g) {x : Nat} (hx : x < n) : mg g 0 x = x := by
  rcases mg_cases g 0 x with ⟨_, e⟩ | ⟨h, e⟩
  · exact e
  · have h1 := hg x hx
    by_cases h2 : g x < x
    · exact (h (g x) (by omega) h2 h1.2).elim
    · omega
theorem mg_last {n : Nat} (g : Nat → Nat) {x : Nat} (hx : x < n) : mg g n x = g x := by
  rcases mg_cases g n x with ⟨⟨y, h1, h2, _⟩, _⟩ | ⟨_, e⟩
  · omega
  · exact e
/-- One merge: i with the next of its group. -/
def mrg (G : Nat → Nat) (i j : Nat) (x : Nat) : Nat := if G x = max (G i) (G j) then min (G i) (G j) else G x
theorem mrg_can {n : Nat} {G : Nat → Nat} (hG : Can n G) {i j : Nat} (hi : i < n) (hj : j < n) : Can n (mrg G i j) := by
  intro x hx
  have h1 := hG x hx
  have h2 := hG i hi
  have h3 := hG j hj
  have hlo : G (min (G i) (G j)) = min (G i) (G j) := by
    by_cases h : G i ≤ G j
    · rw [Nat.min_eq_left h]; exact h2.2
    · rw [Nat.min_eq_right (by omega)]; exact h3.2
  unfold mrg
  by_cases h : G x = max (G i) (G j)
  · rw [if_pos h]
    refine ⟨by omega, ?_⟩
    rw [hlo]
    split <;> rfl
  · rw [if_neg h]
    refine ⟨h1.1, ?_⟩
    rw [h1.2, if_neg h]
theorem mg_step {n : Nat} {g : Nat → Nat} (hg : Can n g) {i : Nat} (hi : i < n) {x : Nat} (hx : x < n) : mrg (mg g i) i (mdf n g i) x = mg g (i + 1) x := by
  have gi := hg i hi
  have gx := hg x hx
  have e1 : mg g i i = g i := by
    rcases mg_cases g i i with ⟨⟨y, h1, h2, _⟩, _⟩ | ⟨_, e⟩
    · omega
    · exact e
  rcases mdf_spec (g := g) hi with ⟨k, k1, k2, k3, k4, k5⟩ | ⟨k1, k2⟩
  · have gk := hg k k2
    have e2 : mg g i k = k := by
      rcases mg_cases g i k with ⟨_, e⟩ | ⟨h, _⟩
      · exact e
      · exact (h i (Nat.le_refl _) k1 k3.symm).elim
    unfold mrg
    rw [k5, e1, e2, Nat.max_eq_right (by omega), Nat.min_eq_left (by omega)]
    rcases mg_cases g i x with ⟨⟨y, y1, y2, y3⟩, e⟩ | ⟨h, e⟩
    · rw [e]
      by_cases hxk : x = k
      · rw [if_pos hxk]
        rcases mg_cases g (i + 1) x with ⟨⟨z, z1, z2, z3⟩, e'⟩ | ⟨h', e'⟩
        · subst hxk
          exact (k4 z (by omega) z2 (by omega)).elim
        · rw [e', hxk, k3]
      · rw [if_neg hxk]
        rcases mg_cases g (i + 1) x with ⟨_, e'⟩ | ⟨h', e'⟩
        · exact e'.symm
        · by_cases hy : y = i
          · subst hy
            rcases Nat.lt_or_gt_of_ne hxk with h1 | h1
            · exact (k4 x y2 h1 y3.symm).elim
            · exact (h' k (by omega) h1 (by omega)).elim
          · exact (h' y (by omega) y2 y3).elim
    · rw [e]
      have hne : ¬ g x = k := by
        intro hk
        rw [hk] at gx
        omega
      rw [if_neg hne]
      rcases mg_cases g (i + 1) x with ⟨⟨z, z1, z2, z3⟩, _⟩ | ⟨_, e'⟩
      · exact (h z (by omega) z2 z3).elim
      · exact e'.symm
  · have e2 : mg g i (g i) = g i := by
      rcases mg_cases g i (g i) with ⟨⟨y, h1, h2, _⟩, _⟩ | ⟨_, e⟩
      · omega
      · rw [e]; exact gi.2
    have e3 : mrg (mg g i) i (mdf n g i) x = mg g i x := by
      unfold mrg
      rw [k2, e1, e2, Nat.max_self, Nat.min_self]
      split
      · rename_i h; exact h.symm
      · rfl
    rw [e3]
    rcases mg_cases g i x with ⟨⟨y, y1, y2, y3⟩, e⟩ | ⟨h, e⟩
    · rcases mg_cases g (i + 1) x with ⟨_, e'⟩ | ⟨h', e'⟩
      · rw [e, e']
      · by_cases hy : y = i
        · subst hy
          exact (k1 x y2 hx y3.symm).elim
        · exact (h' y (by omega) y2 y3).elim
    · rcases mg_cases g (i + 1) x with ⟨⟨z, z1, z2, z3⟩, _⟩ | ⟨_, e'⟩
      · exact (h z (by omega) z2 z3).elim
      · rw [e, e']
/-! ### crossings -/
def c5 (g : Nat → Nat) (a b c : Nat) : Nat → Nat → Bool
  | 0, _ => false
  | d + 1, x => (decide (g a = g c) && decide (g b = g x) && !decide (g a = g b)) || c5 g a b c d (x + 1)
def c4 (n : Nat) (g : Nat → Nat) (a b : Nat) : Nat → Nat → Bool
  | 0, _ => false
  | d + 1, c => c5 g a b c (n - (c + 1)) (c + 1) || c4 n g a b d (c + 1)
def c3 (n : Nat) (g : Nat → Nat) (a : Nat) : Nat → Nat → Bool
  | 0, _ => false
  | d + 1, b => c4 n g a b (n - (b + 1)) (b + 1) || c3 n g a d (b + 1)
def c2 (n : Nat) (g : Nat → Nat) : Nat → Nat → Bool
  | 0, _ => false
  | d + 1, a => c3 n g a (n - (a + 1)) (a + 1) || c2 n g d (a + 1)
def crs (n : Nat) (g : Nat → Nat) : Bool := c2 n g n 0
theorem c5_congr {n : Nat} {g h : Nat → Nat} (e : ∀ x, x < n → g x = h x) {a b c : Nat} (ha : a < n) (hb : b < n) (hc : c < n) : ∀ d x, x + d ≤ n → c5 g a b c d x = c5 h a b c d x := by
  intro d
  induction d with
  | zero => intro x _; rfl
  | succ d ih => intro x hx; rw [c5, c5, e a ha, e b hb, e c hc, e x (by omega), ih (x + 1) (by omega)]
theorem c4_congr {n : Nat} {g h : Nat → Nat} (e : ∀ x, x < n → g x = h x) {a b : Nat} (ha : a < n) (hb : b < n) : ∀ d x, x + d ≤ n → c4 n g a b d x = c4 n h a b d x := by
  intro d
  induction d with
  | zero => intro x _; rfl
  | succ d ih => intro x hx; rw [c4, c4, c5_congr e ha hb (by omega) _ _ (by omega), ih (x + 1) (by omega)]
theorem c3_congr {n : Nat} {g h : Nat → Nat} (e : ∀ x, x < n → g x = h x) {a : Nat} (ha : a < n) : ∀ d x, x + d ≤ n → c3 n g a d x = c3 n h a d x := by
  intro d
  induction d with
  | zero => intro x _; rfl
  | succ d ih => intro x hx; rw [c3, c3, c4_congr e ha (by omega) _ _ (by omega), ih (x + 1) (by omega)]
theorem crs_congr {n : Nat} {g h : Nat → Nat} (e : ∀ x, x < n → g x = h x) : crs n g = crs n h := by
  have : ∀ d x, x + d ≤ n → c2 n g d x = c2 n h d x := by
    intro d
    induction d with
    | zero => intro x _; rfl
    | succ d ih => intro x hx; rw [c2, c2, c3_congr e (by omega) _ _ (by omega), ih (x + 1) (by omega)]
  exact this n 0 (by omega)
/-! ### rows of labels and of marks -/
def Gl (n : Nat) (g : Nat → Nat) : List Int := (List.range n).map fun x => (g x : Int)
theorem Gl_len (n : Nat) (g : Nat → Nat) : (Gl n g).length = n := by simp [Gl]
theorem Gl_get? (n : Nat) (g : Nat → Nat) {x : Nat} (h : x < n) : (Gl n g)[x]? = some (g x : Int) := by simp [Gl, h]
theorem Gl_get {n : Nat} {g : Nat → Nat} {x : Nat} (h : x < n) : List.getD (Gl n g) x 0 = (g x : Int) := by
  rw [List.getD_eq_getElem?_getD, Gl_get? n g h]
  rfl
theorem Gl_congr {n : Nat} {g h : Nat → Nat} (e : ∀ x, x < n → g x = h x) : Gl n g = Gl n h := by
  unfold Gl
  apply List.map_congr_left
  intro x hx
  rw [e x (List.mem_range.1 hx)]
theorem Gl_set {n : Nat} {g : Nat → Nat} {k v : Nat} (hk : k < n) : List.set (Gl n g) k (v : Int) = Gl n (fun x => if x = k then v else g x) := by
  apply List.ext_getElem?
  intro x
  by_cases hx : x < n
  · rw [List.getElem?_set, Gl_get? n _ hx, Gl_get? n _ hx, Gl_len]
    by_cases h1 : k = x
    · subst h1
      simp [hx]
    · have h2 : ¬ x = k := fun h => h1 h.symm
      simp [h1, h2]
  · rw [List.getElem?_eq_none (by rw [List.length_set, Gl_len]; omega), List.getElem?_eq_none (by rw [Gl_len]; omega)]
def Bo (S : Nat → Bool) : List Bool := (List.range 8).map S
theorem Bo_get? (S : Nat → Bool) {x : Nat} (h : x < 8) : (Bo S)[x]? = some (S x) := by simp [Bo, h]
theorem Bo_get {S : Nat → Bool} {x : Nat} (h : x < 8) : List.getD (Bo S) x false = S x := by
  rw [List.getD_eq_getElem?_getD, Bo_get? S h]
  rfl
theorem Bo_congr {S T : Nat → Bool} (e : ∀ x, x < 8 → S x = T x) : Bo S = Bo T := by
  unfold Bo
  apply List.map_congr_left
  intro x hx
  rw [e x (List.mem_range.1 hx)]
theorem Bo_set {S : Nat → Bool} {k : Nat} {v : Bool} (hk : k < 8) : List.set (Bo S) k v = Bo (fun x => if x = k then v else S x) := by
  apply List.ext_getElem?
  intro x
  by_cases hx : x < 8
  · rw [List.getElem?_set, Bo_get? _ hx, Bo_get? _ hx, show (Bo S).length = 8 by simp [Bo]]
    by_cases h1 : k = x
    · subst h1
      simp [hx]
    · have h2 : ¬ x = k := fun h => h1 h.symm
      simp [h1, h2]
  · rw [List.getElem?_eq_none (by rw [List.length_set]; simp [Bo]; omega), List.getElem?_eq_none (by simp [Bo]; omega)]
theorem Bo_false : List.replicate 8 false = Bo (fun _ => false) := rfl
end Go.Ev
