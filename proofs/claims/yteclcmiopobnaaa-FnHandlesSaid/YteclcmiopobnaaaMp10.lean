/- Complements of a part within a part: again without crossings. Free of the program. (For a second lattice, on parts.) -/
import Derived.Test.YteclcmiopobnaaaMp9
set_option linter.unusedVariables false
set_option linter.unusedSimpArgs false
namespace Go.Ev.Yteclcmiopobnaaa.P
open Go.Ev.Yteclcmiopobnaaa
open Go.Ev Go.Gar
/-- The stretch [z, x) of x's group of m is whole groups of l. -/
def Cr (n : Nat) (l m : Nat → Nat) (z x : Nat) : Prop := ∀ u v, u < n → v < n → l u = l v → m u = m x → (z ≤ u ∧ u < x) → (z ≤ v ∧ v < x)
/-- l is finer than m. -/
def Fn (n : Nat) (l m : Nat → Nat) : Prop := ∀ u v, u < n → v < n → l u = l v → m u = m v
theorem Cr.t1 {n : Nat} {l m : Nat → Nat} (F : Fn n l m) {z x y : Nat} (hy : m x = m y) (h1 : z ≤ x) (h2 : x ≤ y) (a : Cr n l m z x) (b : Cr n l m x y) : Cr n l m z y := by
  intro u v hu hv e eb hin
  by_cases h : u < x
  · have := a u v hu hv e (by omega) ⟨hin.1, h⟩
    omega
  · have := b u v hu hv e eb ⟨by omega, hin.2⟩
    omega
theorem Cr.t2 {n : Nat} {l m : Nat → Nat} (F : Fn n l m) {z x y : Nat} (hy : m x = m y) (h1 : z ≤ x) (h2 : x ≤ y) (a : Cr n l m z y) (b : Cr n l m x y) : Cr n l m z x := by
  intro u v hu hv e eb hin
  have h := a u v hu hv e (by omega) ⟨hin.1, by omega⟩
  by_cases hx : v < x
  · exact ⟨h.1, hx⟩
  · have ev := F u v hu hv e
    have := b v u hv hu e.symm (by omega) ⟨by omega, h.2⟩
    omega
theorem Cr.t3 {n : Nat} {l m : Nat → Nat} (F : Fn n l m) {z x y : Nat} (hy : m x = m y) (h1 : z ≤ x) (h2 : x ≤ y) (a : Cr n l m z y) (b : Cr n l m z x) : Cr n l m x y := by
  intro u v hu hv e eb hin
  have h := a u v hu hv e eb ⟨by omega, hin.2⟩
  by_cases hx : x ≤ v
  · exact ⟨hx, h.2⟩
  · have ev := F u v hu hv e
    have := b v u hv hu e.symm (by omega) ⟨h.1, by omega⟩
    omega
open Classical in
noncomputable def rs (n : Nat) (l m : Nat → Nat) (x : Nat) : Nat → Nat → Nat
  | 0, z => z
  | d + 1, z => if m z = m x ∧ Cr n l m z x then z else rs n l m x d (z + 1)
/-- Labels of the complement of l within m. -/
noncomputable def rl (n : Nat) (l m : Nat → Nat) (x : Nat) : Nat := rs n l m x x 0
theorem rs_spec (n : Nat) (l m : Nat → Nat) (x : Nat) : ∀ d z, z + d = x → (∀ y, y < z → ¬ (m y = m x ∧ Cr n l m y x)) → rs n l m x d z ≤ x ∧ (m (rs n l m x d z) = m x ∧ Cr n l m (rs n l m x d z) x) ∧ ∀ y, y < rs n l m x d z → ¬ (m y = m x ∧ Cr n l m y x) := by
  intro d
  induction d with
  | zero =>
    intro z hz h
    have : z = x := by omega
    subst this
    refine ⟨Nat.le_refl _, ⟨rfl, fun u v _ _ _ _ hin => ?_⟩, h⟩
    have h1 := hin.1
    have h2 := hin.2
    rw [rs] at h1
    omega
  | succ d ih =>
    intro z hz h
    rw [rs]
    by_cases h1 : m z = m x ∧ Cr n l m z x
    · rw [if_pos h1]
      exact ⟨by omega, h1, h⟩
    · rw [if_neg h1]
      refine ih (z + 1) (by omega) (fun y hy => ?_)
      by_cases h2 : y = z
      · rw [h2]; exact h1
      · exact h y (by omega)
theorem rl_spec (n : Nat) (l m : Nat → Nat) (x : Nat) : rl n l m x ≤ x ∧ (m (rl n l m x) = m x ∧ Cr n l m (rl n l m x) x) ∧ ∀ y, y < rl n l m x → ¬ (m y = m x ∧ Cr n l m y x) := rs_spec n l m x x 0 (by omega) (fun y hy => by omega)
theorem rl_eq {n : Nat} {l m : Nat → Nat} {x w : Nat} (h1 : m w = m x ∧ Cr n l m w x) (h2 : ∀ y, y < w → ¬ (m y = m x ∧ Cr n l m y x)) : rl n l m x = w := by
  have s := rl_spec n l m x
  apply Classical.byContradiction
  intro hne
  rcases Nat.lt_or_gt_of_ne hne with h | h
  · exact h2 _ h s.2.1
  · exact s.2.2 _ h h1
theorem rl_iff {n : Nat} {l m : Nat → Nat} (F : Fn n l m) {z x : Nat} (h : z ≤ x) : (m z = m x ∧ Cr n l m z x) ↔ rl n l m z = rl n l m x := by
  have sz := rl_spec n l m z
  have sx := rl_spec n l m x
  constructor
  · rintro ⟨e, c⟩
    have c1 := Cr.t1 F e sz.1 h sz.2.1.2 c
    have h1 : rl n l m x ≤ rl n l m z := by
      apply Classical.byContradiction
      intro hne
      exact sx.2.2 _ (by omega) ⟨by rw [sz.2.1.1, e], c1⟩
    have c2 := Cr.t2 F e (show rl n l m x ≤ z by omega) h sx.2.1.2 c
    have h2 : rl n l m z ≤ rl n l m x := by
      apply Classical.byContradiction
      intro hne
      exact sz.2.2 _ (by omega) ⟨by rw [sx.2.1.1, e], c2⟩
    omega
  · intro e
    have em : m z = m x := by rw [← sz.2.1.1, e, sx.2.1.1]
    exact ⟨em, Cr.t3 F em sz.1 h (by rw [e]; exact sx.2.1.2) sz.2.1.2⟩
theorem rl_can {n : Nat} {l m : Nat → Nat} (F : Fn n l m) (k : Nat) : Can k (rl n l m) := fun x _ => ⟨(rl_spec n l m x).1, (rl_iff F (rl_spec n l m x).1).1 (rl_spec n l m x).2.1⟩
theorem rl_fine {n : Nat} {l m : Nat → Nat} (F : Fn n l m) : Fn n (rl n l m) m := by
  intro u v hu hv e
  have su := rl_spec n l m u
  have sv := rl_spec n l m v
  rw [← su.2.1.1, e, sv.2.1.1]
/-- No crossings. -/
theorem rl_nc {n : Nat} {l m : Nat → Nat} (F : Fn n l m) (hm : crs n m = false) : crs n (rl n l m) = false := by
  rw [Bool.eq_false_iff]
  intro h
  obtain ⟨a, b, c, y, h1, h2, h3, h4, e1, e2, e3⟩ := (crs_iff n _).1 h
  obtain ⟨m1, c1⟩ := (rl_iff F (show a ≤ c by omega)).2 e1
  obtain ⟨m2, c2⟩ := (rl_iff F (show b ≤ y by omega)).2 e2
  have m3 := no_cross hm h1 h2 h3 h4 m1 m2
  apply e3
  apply (rl_iff F (Nat.le_of_lt h1)).1
  refine ⟨m3, fun u v hu hv e eb hin => ?_⟩
  have k1 := c1 u v hu hv e (by omega) ⟨hin.1, by omega⟩
  by_cases hx : v < b
  · exact ⟨k1.1, hx⟩
  · have ev := F u v hu hv e
    have := c2 v u hv hu e.symm (by omega) ⟨by omega, by omega⟩
    omega
/-- The complement within m is what the labels make. -/
theorem krr {n : Nat} {g m : Nat → Nat} (hg : Can n g) (hm : Can n m) (F : Fn n g m) (hc : crs n g = false) {p x : Nat} (hp : p < n) (hx : x < n) (h : mdf n g p = x) : mdf n (rl n g m) x = mdf n m p := by
  have gp := hg p hp
  rcases mdf_spec (g := g) hp with ⟨k, k1, k2, k3, k4, k5⟩ | ⟨k1, k2⟩
  · have e : k = x := by omega
    subst e
    have em : m k = m p := F _ _ hx hp k3
    -- the next of p in m
    obtain ⟨q, q1, q2, q3, q4, q5⟩ : ∃ q, p < q ∧ q < n ∧ m q = m p ∧ (∀ y, p < y → y < q → m y ≠ m p) ∧ mdf n m p = q := by
      rcases mdf_spec (g := m) hp with h1 | ⟨h1, _⟩
      · exact h1
      · exact (h1 k k1 hx em).elim
    have hqk : q ≤ k := by
      apply Classical.byContradiction
      intro hne
      exact q4 k k1 (by omega) em
    have cz : Cr n g m q k := by
      intro u v hu hv e eb hin
      have hne : g u ≠ g p := k4 u (by omega) hin.2
      have ev := F u v hu hv e
      apply Classical.byContradiction
      intro hno
      have hvp : v ≠ p := fun h => by rw [h] at e; exact hne e
      have hvk : v ≠ k := fun h => by rw [h, k3] at e; exact hne e
      rcases Nat.lt_or_gt_of_ne hvp with h1 | h1
      · exact hne (by rw [e]; exact no_cross hc h1 (show p < u by omega) hin.2 hx e.symm k3.symm)
      · by_cases h2 : v < q
        · exact q4 v h1 h2 (by omega)
        · have h3 : k < v := by omega
          exact hne (no_cross hc (show p < u by omega) hin.2 h3 hv k3.symm e).symm
    have hh : rl n g m k = q := rl_eq ⟨by omega, cz⟩ (fun y hy c => by
      have hyp : y ≤ p := by
        apply Classical.byContradiction
        intro hne
        exact q4 y (by omega) hy (by omega)
      have := c.2 p k hp hx k3.symm (by omega) ⟨hyp, k1⟩
      omega)
    rw [q5]
    rcases mdf_spec (g := rl n g m) hx with ⟨j, j1, j2, j3, _, _⟩ | ⟨_, j2⟩
    · have c := (rl_iff F (show k ≤ j by omega)).2 j3.symm
      have := c.2 k p hx hp k3 (by omega) ⟨Nat.le_refl _, j1⟩
      omega
    · rw [j2, hh]
  · have e : g p = x := by omega
    have hxp : x ≤ p := by omega
    have gx : g x = g p := by rw [← e]; exact gp.2
    have em : m x = m p := F _ _ hx hp gx
    have cz : ∀ u v, u < n → v < n → g u = g v → x ≤ u → u ≤ p → x ≤ v ∧ v ≤ p := by
      intro u v hu hv ee i1 i2
      by_cases hgu : g u = g p
      · have hv1 := (hg v hv).1
        have : ¬ p < v := fun h => k1 v h hv (by omega)
        omega
      · have hux : u ≠ x := fun h => by rw [h] at hgu; exact hgu gx
        have hup : u ≠ p := fun h => hgu (by rw [h])
        apply Classical.byContradiction
        intro hno
        have hvx : v ≠ x := fun h => by omega
        rcases Nat.lt_or_gt_of_ne hvx with h1 | h1
        · have := no_cross hc h1 (show x < u by omega) (show u < p by omega) hp ee.symm gx
          exact hgu (by omega)
        · have h2 : p < v := by omega
          have := no_cross hc (show x < u by omega) (show u < p by omega) h2 hv gx ee
          exact hgu (by omega)
    have stop : ∀ j, x < j → j ≤ p → ¬ (m x = m j ∧ Cr n g m x j) := fun j h1 h2 c => by
      have := c.2 x p hx hp gx c.1 ⟨Nat.le_refl _, h1⟩
      omega
    rcases mdf_spec (g := m) hp with ⟨q, q1, q2, q3, q4, q5⟩ | ⟨q1, q2⟩
    · have hh := (rl_iff F (show x ≤ q by omega)).1 ⟨by omega, fun u v hu hv ee eb hin => by
        have hup : u ≤ p := by
          apply Classical.byContradiction
          intro hne
          exact q4 u (by omega) hin.2 (by omega)
        have := cz u v hu hv ee hin.1 hup
        omega⟩
      rw [q5]
      rcases mdf_spec (g := rl n g m) hx with ⟨j, j1, j2, j3, j4, j5⟩ | ⟨j1, _⟩
      · have c := (rl_iff F (show x ≤ j by omega)).2 j3.symm
        have hjp : p < j := by
          apply Classical.byContradiction
          intro hne
          exact stop j j1 (by omega) c
        have hqj : ¬ q < j := fun h => j4 q (by omega) h hh.symm
        have hjq : ¬ j < q := fun h => q4 j hjp h (by rw [← c.1]; exact em)
        rw [j5]
        omega
      · exact (j1 q (by omega) q2 hh.symm).elim
    · have mp := hm p hp
      have hb : m (m p) = m x := by rw [em]; exact mp.2
      have hmx := (hm x hx).1
      have hh : rl n g m x = m p := rl_eq ⟨hb, fun u v hu hv ee eb hin => by
        have ev := F u v hu hv ee
        have hv1 := (hm v hv).1
        refine ⟨by omega, ?_⟩
        apply Classical.byContradiction
        intro hno
        have hvp : v ≤ p := by
          apply Classical.byContradiction
          intro hne
          exact q1 v (by omega) hv (by omega)
        have := cz v u hv hu ee.symm (by omega) hvp
        omega⟩ (fun y hy c => by
        have hyn : y < n := by omega
        have := (hm y hyn).1
        have h1 := c.1
        omega)
      rw [q2]
      rcases mdf_spec (g := rl n g m) hx with ⟨j, j1, j2, j3, _, _⟩ | ⟨_, j2⟩
      · have c := (rl_iff F (show x ≤ j by omega)).2 j3.symm
        by_cases hjp : j ≤ p
        · exact (stop j j1 hjp c).elim
        · exact (q1 j (by omega) j2 (by rw [← c.1]; exact em)).elim
      · rw [j2, hh]
end Go.Ev.Yteclcmiopobnaaa.P
