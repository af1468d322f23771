/- JoinOfParts: the law. -/
import Derived.Test.YteclcmiopobnaaaMp7
set_option linter.unusedVariables false
set_option linter.unusedSimpArgs false
namespace Go.Ev.Yteclcmiopobnaaa.P
open Go.Ev.Yteclcmiopobnaaa
open Go.Ev Go.Gar
/-! ### crossings -/
def Xr (g : Nat → Nat) (a b c y : Nat) : Prop := g a = g c ∧ g b = g y ∧ g a ≠ g b
theorem c5_iff (g : Nat → Nat) (a b c : Nat) : ∀ d x, c5 g a b c d x = true ↔ ∃ y, x ≤ y ∧ y < x + d ∧ Xr g a b c y := by
  intro d
  induction d with
  | zero => intro x; simp only [c5]; exact ⟨fun h => Bool.noConfusion h, fun ⟨y, h1, h2, _⟩ => by omega⟩
  | succ d ih =>
    intro x
    rw [c5, Bool.or_eq_true, ih]
    constructor
    · rintro (h | ⟨y, h1, h2, h3⟩)
      · refine ⟨x, Nat.le_refl _, by omega, ?_⟩
        simp only [Bool.and_eq_true, decide_eq_true_eq, Bool.not_eq_true', decide_eq_false_iff_not] at h
        exact ⟨h.1.1, h.1.2, h.2⟩
      · exact ⟨y, by omega, by omega, h3⟩
    · rintro ⟨y, h1, h2, h3⟩
      by_cases h : y = x
      · left
        subst h
        simp only [Bool.and_eq_true, decide_eq_true_eq, Bool.not_eq_true', decide_eq_false_iff_not]
        exact ⟨⟨h3.1, h3.2.1⟩, h3.2.2⟩
      · exact .inr ⟨y, by omega, by omega, h3⟩
theorem c4_iff (n : Nat) (g : Nat → Nat) (a b : Nat) : ∀ d x, x + d = n → (c4 n g a b d x = true ↔ ∃ c y, x ≤ c ∧ c < y ∧ y < n ∧ Xr g a b c y) := by
  intro d
  induction d with
  | zero => intro x hx; simp only [c4]; exact ⟨fun h => Bool.noConfusion h, fun ⟨c, y, h1, h2, h3, _⟩ => by omega⟩
  | succ d ih =>
    intro x hx
    rw [c4, Bool.or_eq_true, ih (x + 1) (by omega), c5_iff]
    constructor
    · rintro (⟨y, h1, h2, h3⟩ | ⟨c, y, h1, h2, h3, h4⟩)
      · exact ⟨x, y, Nat.le_refl _, by omega, by omega, h3⟩
      · exact ⟨c, y, by omega, h2, h3, h4⟩
    · rintro ⟨c, y, h1, h2, h3, h4⟩
      by_cases h : c = x
      · subst h
        exact .inl ⟨y, by omega, by omega, h4⟩
      · exact .inr ⟨c, y, by omega, h2, h3, h4⟩
theorem c3_iff (n : Nat) (g : Nat → Nat) (a : Nat) : ∀ d x, x + d = n → (c3 n g a d x = true ↔ ∃ b c y, x ≤ b ∧ b < c ∧ c < y ∧ y < n ∧ Xr g a b c y) := by
  intro d
  induction d with
  | zero => intro x hx; simp only [c3]; exact ⟨fun h => Bool.noConfusion h, fun ⟨b, c, y, h1, h2, h3, h4, _⟩ => by omega⟩
  | succ d ih =>
    intro x hx
    rw [c3, Bool.or_eq_true, ih (x + 1) (by omega), c4_iff n g a x _ _ (by omega)]
    constructor
    · rintro (⟨c, y, h1, h2, h3, h4⟩ | ⟨b, c, y, h1, h2, h3, h4, h5⟩)
      · exact ⟨x, c, y, Nat.le_refl _, by omega, h2, h3, h4⟩
      · exact ⟨b, c, y, by omega, h2, h3, h4, h5⟩
    · rintro ⟨b, c, y, h1, h2, h3, h4, h5⟩
      by_cases h : b = x
      · subst h
        exact .inl ⟨c, y, by omega, h3, h4, h5⟩
      · exact .inr ⟨b, c, y, by omega, h2, h3, h4, h5⟩
theorem crs_iff (n : Nat) (g : Nat → Nat) : crs n g = true ↔ ∃ a b c y, a < b ∧ b < c ∧ c < y ∧ y < n ∧ Xr g a b c y := by
  have : ∀ d x, x + d = n → (c2 n g d x = true ↔ ∃ a b c y, x ≤ a ∧ a < b ∧ b < c ∧ c < y ∧ y < n ∧ Xr g a b c y) := by
    intro d
    induction d with
    | zero => intro x hx; simp only [c2]; exact ⟨fun h => Bool.noConfusion h, fun ⟨a, b, c, y, h1, h2, h3, h4, h5, _⟩ => by omega⟩
    | succ d ih =>
      intro x hx
      rw [c2, Bool.or_eq_true, ih (x + 1) (by omega), c3_iff n g x _ _ (by omega)]
      constructor
      · rintro (⟨b, c, y, h1, h2, h3, h4, h5⟩ | ⟨a, b, c, y, h1, h2, h3, h4, h5, h6⟩)
        · exact ⟨x, b, c, y, Nat.le_refl _, by omega, h2, h3, h4, h5⟩
        · exact ⟨a, b, c, y, by omega, h2, h3, h4, h5, h6⟩
      · rintro ⟨a, b, c, y, h1, h2, h3, h4, h5, h6⟩
        by_cases h : a = x
        · subst h
          exact .inl ⟨b, c, y, by omega, h3, h4, h5, h6⟩
        · exact .inr ⟨a, b, c, y, by omega, h2, h3, h4, h5, h6⟩
  unfold crs
  rw [this n 0 (by omega)]
  constructor
  · rintro ⟨a, b, c, y, _, h⟩; exact ⟨a, b, c, y, h⟩
  · rintro ⟨a, b, c, y, h⟩; exact ⟨a, b, c, y, Nat.zero_le _, h⟩
theorem no_cross {n : Nat} {g : Nat → Nat} (h : crs n g = false) {a b c y : Nat} (h1 : a < b) (h2 : b < c) (h3 : c < y) (h4 : y < n) (e1 : g a = g c) (e2 : g b = g y) : g a = g b := by
  apply Classical.byContradiction
  intro hne
  have := (crs_iff n g).2 ⟨a, b, c, y, h1, h2, h3, h4, e1, e2, hne⟩
  rw [h] at this
  exact Bool.noConfusion this
/-! ### closed stretches -/
def Cz (n : Nat) (l : Nat → Nat) (z x : Nat) : Prop := ∀ u v, u < n → v < n → l u = l v → (z ≤ u ∧ u < x) → (z ≤ v ∧ v < x)
theorem Cz.t1 {n : Nat} {l : Nat → Nat} {z x y : Nat} (h1 : z ≤ x) (h2 : x ≤ y) (a : Cz n l z x) (b : Cz n l x y) : Cz n l z y := by
  intro u v hu hv e hin
  by_cases h : u < x
  · have := a u v hu hv e ⟨hin.1, h⟩
    omega
  · have := b u v hu hv e ⟨by omega, hin.2⟩
    omega
theorem Cz.t2 {n : Nat} {l : Nat → Nat} {z x y : Nat} (h1 : z ≤ x) (h2 : x ≤ y) (a : Cz n l z y) (b : Cz n l x y) : Cz n l z x := by
  intro u v hu hv e hin
  have h := a u v hu hv e ⟨hin.1, by omega⟩
  by_cases hx : v < x
  · exact ⟨h.1, hx⟩
  · have := b v u hv hu e.symm ⟨by omega, h.2⟩
    omega
theorem Cz.t3 {n : Nat} {l : Nat → Nat} {z x y : Nat} (h1 : z ≤ x) (h2 : x ≤ y) (a : Cz n l z y) (b : Cz n l z x) : Cz n l x y := by
  intro u v hu hv e hin
  have h := a u v hu hv e ⟨by omega, hin.2⟩
  by_cases hx : x ≤ v
  · exact ⟨hx, h.2⟩
  · have := b v u hv hu e.symm ⟨h.1, by omega⟩
    omega
open Classical in
noncomputable def hs (n : Nat) (l : Nat → Nat) (x : Nat) : Nat → Nat → Nat
  | 0, z => z
  | d + 1, z => if Cz n l z x then z else hs n l x d (z + 1)
noncomputable def hl (n : Nat) (l : Nat → Nat) (x : Nat) : Nat := hs n l x x 0
theorem hs_spec (n : Nat) (l : Nat → Nat) (x : Nat) : ∀ d z, z + d = x → (∀ y, y < z → ¬ Cz n l y x) → hs n l x d z ≤ x ∧ Cz n l (hs n l x d z) x ∧ ∀ y, y < hs n l x d z → ¬ Cz n l y x := by
  intro d
  induction d with
  | zero =>
    intro z hz h
    have : z = x := by omega
    subst this
    refine ⟨Nat.le_refl _, fun u v _ _ _ hin => ?_, h⟩
    have h1 := hin.1
    have h2 := hin.2
    rw [hs] at h1
    omega
  | succ d ih =>
    intro z hz h
    rw [hs]
    by_cases h1 : Cz n l z x
    · rw [if_pos h1]
      exact ⟨by omega, h1, h⟩
    · rw [if_neg h1]
      refine ih (z + 1) (by omega) (fun y hy => ?_)
      by_cases h2 : y = z
      · rw [h2]; exact h1
      · exact h y (by omega)
theorem hl_spec (n : Nat) (l : Nat → Nat) (x : Nat) : hl n l x ≤ x ∧ Cz n l (hl n l x) x ∧ ∀ y, y < hl n l x → ¬ Cz n l y x := hs_spec n l x x 0 (by omega) (fun y hy => by omega)
theorem hl_iff {n : Nat} {l : Nat → Nat} {z x : Nat} (h : z ≤ x) : Cz n l z x ↔ hl n l z = hl n l x := by
  have sz := hl_spec n l z
  have sx := hl_spec n l x
  constructor
  · intro c
    have c1 := Cz.t1 sz.1 h sz.2.1 c
    have h1 : hl n l x ≤ hl n l z := by
      apply Classical.byContradiction
      intro hne
      exact sx.2.2 _ (by omega) c1
    have c2 := Cz.t2 (show hl n l x ≤ z by omega) h sx.2.1 c
    have h2 : hl n l z ≤ hl n l x := by
      apply Classical.byContradiction
      intro hne
      exact sz.2.2 _ (by omega) c2
    omega
  · intro e
    exact Cz.t3 sz.1 h (by rw [e]; exact sx.2.1) sz.2.1
theorem hl_can (n m : Nat) (l : Nat → Nat) : Can m (hl n l) := fun x _ => ⟨(hl_spec n l x).1, (hl_iff (hl_spec n l x).1).1 (hl_spec n l x).2.1⟩
theorem hl_eq {n : Nat} {l : Nat → Nat} {x w : Nat} (h1 : Cz n l w x) (h2 : ∀ y, y < w → ¬ Cz n l y x) : hl n l x = w := by
  have s := hl_spec n l x
  apply Classical.byContradiction
  intro hne
  rcases Nat.lt_or_gt_of_ne hne with h | h
  · exact h2 _ h s.2.1
  · exact s.2.2 _ h h1
/-- The complement of a part without crossings. -/
theorem kr {n : Nat} {g : Nat → Nat} (hg : Can n g) (hc : crs n g = false) {p x : Nat} (hp : p < n) (hx : x < n) (h : mdf n g p = x) : mdf n (hl n g) x = sc n p := by
  have gp := hg p hp
  rcases mdf_spec (g := g) hp with ⟨k, k1, k2, k3, k4, k5⟩ | ⟨k1, k2⟩
  · have e : k = x := by omega
    subst e
    have cz : Cz n g (p + 1) k := by
      intro u v hu hv e hin
      have hne : g u ≠ g p := k4 u (by omega) hin.2
      apply Classical.byContradiction
      intro hno
      have hvp : v ≠ p := fun h => by rw [h] at e; exact hne e
      have hvk : v ≠ k := fun h => by rw [h, k3] at e; exact hne e
      rcases Nat.lt_or_gt_of_ne hvp with h1 | h1
      · exact hne (by rw [e]; exact no_cross hc h1 (show p < u by omega) hin.2 hx e.symm k3.symm)
      · have h2 : k < v := by omega
        exact hne (no_cross hc (show p < u by omega) hin.2 h2 hv k3.symm e).symm
    have hh : hl n g k = p + 1 := hl_eq cz (fun y hy c => by
      have := c p k hp hx k3.symm ⟨by omega, k1⟩
      omega)
    rcases mdf_spec (g := hl n g) hx with ⟨j, j1, j2, j3, _, _⟩ | ⟨_, j2⟩
    · have c := (hl_iff (show k ≤ j by omega)).2 j3.symm
      have := c k p hx hp k3 ⟨Nat.le_refl _, j1⟩
      omega
    · rw [j2, hh]
      unfold sc
      rw [if_neg (by omega)]
  · have e : g p = x := by omega
    have hxp : x ≤ p := by omega
    have gx : g x = g p := by rw [← e]; exact gp.2
    have cz : Cz n g x (p + 1) := by
      intro u v hu hv ee hin
      by_cases hgu : g u = g p
      · have hv1 := (hg v hv).1
        have : ¬ p < v := fun h => k1 v h hv (by omega)
        omega
      · have hux : u ≠ x := fun h => by rw [h] at hgu; exact hgu gx
        have hup : u ≠ p := fun h => hgu (by rw [h])
        apply Classical.byContradiction
        intro hno
        have hvx : v ≠ x := fun h => by omega
        rcases Nat.lt_or_gt_of_ne hvx with h1 | h1
        · have := no_cross hc h1 (show x < u by omega) (show u < p by omega) hp ee.symm gx
          exact hgu (by omega)
        · have h2 : p < v := by omega
          have := no_cross hc (show x < u by omega) (show u < p by omega) h2 hv gx ee
          exact hgu (by omega)
    by_cases hn : p + 1 = n
    · have hh : hl n g x = 0 := hl_eq (by
        intro u v hu hv ee hin
        refine ⟨Nat.zero_le _, ?_⟩
        apply Classical.byContradiction
        intro hno
        have := cz v u hv hu ee.symm ⟨by omega, by omega⟩
        omega) (fun y hy => by omega)
      rcases mdf_spec (g := hl n g) hx with ⟨j, j1, j2, j3, _, _⟩ | ⟨_, j2⟩
      · have c := (hl_iff (show x ≤ j by omega)).2 j3.symm
        have := c x p hx hp gx ⟨Nat.le_refl _, j1⟩
        omega
      · rw [j2, hh]
        unfold sc
        rw [if_pos hn]
    · have hh := (hl_iff (show x ≤ p + 1 by omega)).1 cz
      rcases mdf_spec (g := hl n g) hx with ⟨j, j1, j2, j3, j4, j5⟩ | ⟨j1, _⟩
      · have c := (hl_iff (show x ≤ j by omega)).2 j3.symm
        have h3 := c x p hx hp gx ⟨Nat.le_refl _, j1⟩
        have h4 : ¬ p + 1 < j := fun h => j4 (p + 1) (by omega) h hh.symm
        rw [j5]
        unfold sc
        rw [if_neg hn]
        omega
      · exact (j1 (p + 1) (by omega) (by omega) hh.symm).elim
theorem kr_array {n : Nat} (hn : n ≤ 8) {g : Nat → Nat} (hg : Can n g) (hc : crs n g = false) (s : Pm n) (hs : A8 n (mdf n g) = sA s) : sA (s⁻¹ * whP n) = A8 n (mdf n (hl n g)) := by
  have hf : ∀ x, x < n → mdf n g x = s.f x := A8_inj hn hs
  apply A8_congr
  intro x hx
  have hp := s.lt_g hx
  have e : mdf n g (s.g x) = x := by rw [hf _ hp, s.fg]
  rw [kr hg hc hp hx e]
  show (whP n).f (s.g x) = _
  exact whP_f hp
/-! ### merges and closed stretches -/
theorem mrg_both (G : Nat → Nat) (i j : Nat) : mrg G i j i = mrg G i j j := by
  unfold mrg
  by_cases h : G i ≤ G j
  · rw [Nat.max_eq_right h, Nat.min_eq_left h, if_pos rfl]
    split <;> rfl
  · rw [Nat.max_eq_left (by omega), Nat.min_eq_right (by omega), if_pos rfl]
    split <;> rfl
theorem mrg_Cz {n : Nat} {G : Nat → Nat} {i j : Nat} (hi : i < n) (hj : j < n) (z x : Nat) : Cz n (mrg G i j) z x ↔ Cz n G z x ∧ ((z ≤ i ∧ i < x) ↔ (z ≤ j ∧ j < x)) := by
  constructor
  · intro c
    refine ⟨fun u v hu hv e hin => c u v hu hv (by unfold mrg; rw [e]) hin, fun h => c i j hi hj (mrg_both G i j) h, fun h => c j i hj hi (mrg_both G i j).symm h⟩
  · rintro ⟨c, hij⟩ u v hu hv e hin
    by_cases h : G u = G v
    · exact c u v hu hv h hin
    · have key : (G u = G i ∧ G v = G j) ∨ (G u = G j ∧ G v = G i) := by
        unfold mrg at e
        by_cases hle : G i ≤ G j
        · rw [Nat.max_eq_right hle, Nat.min_eq_left hle] at e
          by_cases h1 : G u = G j
          · rw [if_pos h1] at e
            by_cases h2 : G v = G j
            · omega
            · rw [if_neg h2] at e
              exact .inr ⟨h1, by omega⟩
          · rw [if_neg h1] at e
            by_cases h2 : G v = G j
            · rw [if_pos h2] at e
              exact .inl ⟨e, h2⟩
            · rw [if_neg h2] at e
              omega
        · rw [Nat.max_eq_left (by omega), Nat.min_eq_right (by omega)] at e
          by_cases h1 : G u = G i
          · rw [if_pos h1] at e
            by_cases h2 : G v = G i
            · omega
            · rw [if_neg h2] at e
              exact .inl ⟨h1, by omega⟩
          · rw [if_neg h1] at e
            by_cases h2 : G v = G i
            · rw [if_pos h2] at e
              exact .inr ⟨e, h2⟩
            · rw [if_neg h2] at e
              omega
      rcases key with ⟨k1, k2⟩ | ⟨k1, k2⟩
      · exact c j v hj hv k2.symm (hij.1 (c u i hu hi k1 hin))
      · exact c i v hi hv k2.symm (hij.2 (c u j hu hj k1 hin))
theorem next_Cz {n : Nat} {g : Nat → Nat} (hg : Can n g) (z x : Nat) : (∀ k, k < n → ((z ≤ k ∧ k < x) ↔ (z ≤ mdf n g k ∧ mdf n g k < x))) ↔ Cz n g z x := by
  constructor
  · intro h
    have hroot : ∀ d u, u + d = n → u < n → ((z ≤ u ∧ u < x) ↔ (z ≤ g u ∧ g u < x)) := by
      intro d
      induction d using Nat.strongRecOn with
      | ind d ih =>
        intro u hd hu
        rcases mdf_spec (g := g) hu with ⟨k, k1, k2, k3, _, k5⟩ | ⟨_, k2⟩
        · have h1 := h u hu
          rw [k5] at h1
          have h2 := ih (n - k) (by omega) k (by omega) k2
          rw [k3] at h2
          exact h1.trans h2
        · have h1 := h u hu
          rw [k2] at h1
          exact h1
    intro u v hu hv e hin
    have h1 := (hroot (n - u) u (by omega) hu).1 hin
    rw [e] at h1
    exact (hroot (n - v) v (by omega) hv).2 h1
  · intro c k hk
    have hl := mdf_lt hg hk
    have e : g (mdf n g k) = g k := by
      rcases mdf_spec (g := g) hk with ⟨j, _, _, j3, _, j5⟩ | ⟨_, j2⟩
      · rw [j5]; exact j3
      · rw [j2]; exact (hg k hk).2
    exact ⟨fun h => c k _ hk hl e.symm h, fun h => c _ k hl hk e h⟩
/-! ### crossing groups, with their witnesses -/
end Go.Ev.Yteclcmiopobnaaa.P
