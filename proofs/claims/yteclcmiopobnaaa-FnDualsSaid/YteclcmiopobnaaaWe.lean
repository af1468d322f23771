/- Texts merged: Mp10 Mp11 Mp12 Mp13 Mp14 Mp15 Mp16 Mp17 Mp18. -/
import Derived.Test.YteclcmiopobnaaaWd
import Derived.Test.YteclcmiopobnaaaWa
set_option linter.unusedVariables false
set_option linter.unusedSimpArgs false
namespace Go.Ev.Yteclcmiopobnaaa.P
open Go.Ev.Yteclcmiopobnaaa
open Go.Ev Go.Gar
def Cr (n : Nat) (l m : Nat → Nat) (z x : Nat) : Prop := ∀ u v, u < n → v < n → l u = l v → m u = m x → (z ≤ u ∧ u < x) → (z ≤ v ∧ v < x)
def Fn (n : Nat) (l m : Nat → Nat) : Prop := ∀ u v, u < n → v < n → l u = l v → m u = m v
theorem Cr.t1 {n : Nat} {l m : Nat → Nat} (F : Fn n l m) {z x y : Nat} (hy : m x = m y) (h1 : z ≤ x) (h2 : x ≤ y) (a : Cr n l m z x) (b : Cr n l m x y) : Cr n l m z y := by
 intro u v hu hv e eb hin
 by_cases h : u < x
 · have := a u v hu hv e (by omega) ⟨hin.1, h⟩
   omega
 · have := b u v hu hv e eb ⟨by omega, hin.2⟩
   omega
theorem Cr.t2 {n : Nat} {l m : Nat → Nat} (F : Fn n l m) {z x y : Nat} (hy : m x = m y) (h1 : z ≤ x) (h2 : x ≤ y) (a : Cr n l m z y) (b : Cr n l m x y) : Cr n l m z x := by
 intro u v hu hv e eb hin
 have h := a u v hu hv e (by omega) ⟨hin.1, by omega⟩
 by_cases hx : v < x
 · exact ⟨h.1, hx⟩
 · have ev := F u v hu hv e
   have := b v u hv hu e.symm (by omega) ⟨by omega, h.2⟩
   omega
theorem Cr.t3 {n : Nat} {l m : Nat → Nat} (F : Fn n l m) {z x y : Nat} (hy : m x = m y) (h1 : z ≤ x) (h2 : x ≤ y) (a : Cr n l m z y) (b : Cr n l m z x) : Cr n l m x y := by
 intro u v hu hv e eb hin
 have h := a u v hu hv e eb ⟨by omega, hin.2⟩
 by_cases hx : x ≤ v
 · exact ⟨hx, h.2⟩
 · have ev := F u v hu hv e
   have := b v u hv hu e.symm (by omega) ⟨h.1, by omega⟩
   omega
open Classical in
noncomputable def rs (n : Nat) (l m : Nat → Nat) (x : Nat) : Nat → Nat → Nat
 | 0, z => z
 | d + 1, z => if m z = m x ∧ Cr n l m z x then z else rs n l m x d (z + 1)
noncomputable def rl (n : Nat) (l m : Nat → Nat) (x : Nat) : Nat := rs n l m x x 0
theorem rs_spec (n : Nat) (l m : Nat → Nat) (x : Nat) : ∀ d z, z + d = x → (∀ y, y < z → ¬ (m y = m x ∧ Cr n l m y x)) → rs n l m x d z ≤ x ∧ (m (rs n l m x d z) = m x ∧ Cr n l m (rs n l m x d z) x) ∧ ∀ y, y < rs n l m x d z → ¬ (m y = m x ∧ Cr n l m y x) := by
 intro d
 induction d with
 | zero =>
  intro z hz h
  have : z = x := by omega
  subst this
  refine ⟨Nat.le_refl _, ⟨rfl, fun u v _ _ _ _ hin => ?_⟩, h⟩
  have h1 := hin.1
  have h2 := hin.2
  rw [rs] at h1
  omega
 | succ d ih =>
  intro z hz h
  rw [rs]
  by_cases h1 : m z = m x ∧ Cr n l m z x
  · rw [if_pos h1]
    exact ⟨by omega, h1, h⟩
  · rw [if_neg h1]
    refine ih (z + 1) (by omega) (fun y hy => ?_)
    by_cases h2 : y = z
    · rw [h2]; exact h1
    · exact h y (by omega)
theorem rl_spec (n : Nat) (l m : Nat → Nat) (x : Nat) : rl n l m x ≤ x ∧ (m (rl n l m x) = m x ∧ Cr n l m (rl n l m x) x) ∧ ∀ y, y < rl n l m x → ¬ (m y = m x ∧ Cr n l m y x) := rs_spec n l m x x 0 (by omega) (fun y hy => by omega)
theorem rl_eq {n : Nat} {l m : Nat → Nat} {x w : Nat} (h1 : m w = m x ∧ Cr n l m w x) (h2 : ∀ y, y < w → ¬ (m y = m x ∧ Cr n l m y x)) : rl n l m x = w := by
 have s := rl_spec n l m x
 apply Classical.byContradiction
 intro hne
 rcases Nat.lt_or_gt_of_ne hne with h | h
 · exact h2 _ h s.2.1
 · exact s.2.2 _ h h1
theorem rl_iff {n : Nat} {l m : Nat → Nat} (F : Fn n l m) {z x : Nat} (h : z ≤ x) : (m z = m x ∧ Cr n l m z x) ↔ rl n l m z = rl n l m x := by
 have sz := rl_spec n l m z
 have sx := rl_spec n l m x
 constructor
 · rintro ⟨e, c⟩
   have c1 := Cr.t1 F e sz.1 h sz.2.1.2 c
   have h1 : rl n l m x ≤ rl n l m z := by
    apply Classical.byContradiction
    intro hne
    exact sx.2.2 _ (by omega) ⟨by rw [sz.2.1.1, e], c1⟩
   have c2 := Cr.t2 F e (show rl n l m x ≤ z by omega) h sx.2.1.2 c
   have h2 : rl n l m z ≤ rl n l m x := by
    apply Classical.byContradiction
    intro hne
    exact sz.2.2 _ (by omega) ⟨by rw [sx.2.1.1, e], c2⟩
   omega
 · intro e
   have em : m z = m x := by rw [← sz.2.1.1, e, sx.2.1.1]
   exact ⟨em, Cr.t3 F em sz.1 h (by rw [e]; exact sx.2.1.2) sz.2.1.2⟩
theorem rl_can {n : Nat} {l m : Nat → Nat} (F : Fn n l m) (k : Nat) : Can k (rl n l m) := fun x _ => ⟨(rl_spec n l m x).1, (rl_iff F (rl_spec n l m x).1).1 (rl_spec n l m x).2.1⟩
theorem rl_fine {n : Nat} {l m : Nat → Nat} (F : Fn n l m) : Fn n (rl n l m) m := by
 intro u v hu hv e
 have su := rl_spec n l m u
 have sv := rl_spec n l m v
 rw [← su.2.1.1, e, sv.2.1.1]
theorem rl_nc {n : Nat} {l m : Nat → Nat} (F : Fn n l m) (hm : crs n m = false) : crs n (rl n l m) = false := by
 rw [Bool.eq_false_iff]
 intro h
 obtain ⟨a, b, c, y, h1, h2, h3, h4, e1, e2, e3⟩ := (crs_iff n _).1 h
 obtain ⟨m1, c1⟩ := (rl_iff F (show a ≤ c by omega)).2 e1
 obtain ⟨m2, c2⟩ := (rl_iff F (show b ≤ y by omega)).2 e2
 have m3 := no_cross hm h1 h2 h3 h4 m1 m2
 apply e3
 apply (rl_iff F (Nat.le_of_lt h1)).1
 refine ⟨m3, fun u v hu hv e eb hin => ?_⟩
 have k1 := c1 u v hu hv e (by omega) ⟨hin.1, by omega⟩
 by_cases hx : v < b
 · exact ⟨k1.1, hx⟩
 · have ev := F u v hu hv e
   have := c2 v u hv hu e.symm (by omega) ⟨by omega, by omega⟩
   omega
theorem krr {n : Nat} {g m : Nat → Nat} (hg : Can n g) (hm : Can n m) (F : Fn n g m) (hc : crs n g = false) {p x : Nat} (hp : p < n) (hx : x < n) (h : mdf n g p = x) : mdf n (rl n g m) x = mdf n m p := by
 have gp := hg p hp
 rcases mdf_spec (g := g) hp with ⟨k, k1, k2, k3, k4, k5⟩ | ⟨k1, k2⟩
 · have e : k = x := by omega
   subst e
   have em : m k = m p := F _ _ hx hp k3
   obtain ⟨q, q1, q2, q3, q4, q5⟩ : ∃ q, p < q ∧ q < n ∧ m q = m p ∧ (∀ y, p < y → y < q → m y ≠ m p) ∧ mdf n m p = q := by
    rcases mdf_spec (g := m) hp with h1 | ⟨h1, _⟩
    · exact h1
    · exact (h1 k k1 hx em).elim
   have hqk : q ≤ k := by
    apply Classical.byContradiction
    intro hne
    exact q4 k k1 (by omega) em
   have cz : Cr n g m q k := by
    intro u v hu hv e eb hin
    have hne : g u ≠ g p := k4 u (by omega) hin.2
    have ev := F u v hu hv e
    apply Classical.byContradiction
    intro hno
    have hvp : v ≠ p := fun h => by rw [h] at e; exact hne e
    have hvk : v ≠ k := fun h => by rw [h, k3] at e; exact hne e
    rcases Nat.lt_or_gt_of_ne hvp with h1 | h1
    · exact hne (by rw [e]; exact no_cross hc h1 (show p < u by omega) hin.2 hx e.symm k3.symm)
    · by_cases h2 : v < q
      · exact q4 v h1 h2 (by omega)
      · have h3 : k < v := by omega
        exact hne (no_cross hc (show p < u by omega) hin.2 h3 hv k3.symm e).symm
   have hh : rl n g m k = q := rl_eq ⟨by omega, cz⟩ (fun y hy c => by
    have hyp : y ≤ p := by
     apply Classical.byContradiction
     intro hne
     exact q4 y (by omega) hy (by omega)
    have := c.2 p k hp hx k3.symm (by omega) ⟨hyp, k1⟩
    omega)
   rw [q5]
   rcases mdf_spec (g := rl n g m) hx with ⟨j, j1, j2, j3, _, _⟩ | ⟨_, j2⟩
   · have c := (rl_iff F (show k ≤ j by omega)).2 j3.symm
     have := c.2 k p hx hp k3 (by omega) ⟨Nat.le_refl _, j1⟩
     omega
   · rw [j2, hh]
 · have e : g p = x := by omega
   have hxp : x ≤ p := by omega
   have gx : g x = g p := by rw [← e]; exact gp.2
   have em : m x = m p := F _ _ hx hp gx
   have cz : ∀ u v, u < n → v < n → g u = g v → x ≤ u → u ≤ p → x ≤ v ∧ v ≤ p := by
    intro u v hu hv ee i1 i2
    by_cases hgu : g u = g p
    · have hv1 := (hg v hv).1
      have : ¬ p < v := fun h => k1 v h hv (by omega)
      omega
    · have hux : u ≠ x := fun h => by rw [h] at hgu; exact hgu gx
      have hup : u ≠ p := fun h => hgu (by rw [h])
      apply Classical.byContradiction
      intro hno
      have hvx : v ≠ x := fun h => by omega
      rcases Nat.lt_or_gt_of_ne hvx with h1 | h1
      · have := no_cross hc h1 (show x < u by omega) (show u < p by omega) hp ee.symm gx
        exact hgu (by omega)
      · have h2 : p < v := by omega
        have := no_cross hc (show x < u by omega) (show u < p by omega) h2 hv gx ee
        exact hgu (by omega)
   have stop : ∀ j, x < j → j ≤ p → ¬ (m x = m j ∧ Cr n g m x j) := fun j h1 h2 c => by
    have := c.2 x p hx hp gx c.1 ⟨Nat.le_refl _, h1⟩
    omega
   rcases mdf_spec (g := m) hp with ⟨q, q1, q2, q3, q4, q5⟩ | ⟨q1, q2⟩
   · have hh := (rl_iff F (show x ≤ q by omega)).1 ⟨by omega, fun u v hu hv ee eb hin => by
      have hup : u ≤ p := by
       apply Classical.byContradiction
       intro hne
       exact q4 u (by omega) hin.2 (by omega)
      have := cz u v hu hv ee hin.1 hup
      omega⟩
     rw [q5]
     rcases mdf_spec (g := rl n g m) hx with ⟨j, j1, j2, j3, j4, j5⟩ | ⟨j1, _⟩
     · have c := (rl_iff F (show x ≤ j by omega)).2 j3.symm
       have hjp : p < j := by
        apply Classical.byContradiction
        intro hne
        exact stop j j1 (by omega) c
       have hqj : ¬ q < j := fun h => j4 q (by omega) h hh.symm
       have hjq : ¬ j < q := fun h => q4 j hjp h (by rw [← c.1]; exact em)
       rw [j5]
       omega
     · exact (j1 q (by omega) q2 hh.symm).elim
   · have mp := hm p hp
     have hb : m (m p) = m x := by rw [em]; exact mp.2
     have hmx := (hm x hx).1
     have hh : rl n g m x = m p := rl_eq ⟨hb, fun u v hu hv ee eb hin => by
      have ev := F u v hu hv ee
      have hv1 := (hm v hv).1
      refine ⟨by omega, ?_⟩
      apply Classical.byContradiction
      intro hno
      have hvp : v ≤ p := by
       apply Classical.byContradiction
       intro hne
       exact q1 v (by omega) hv (by omega)
      have := cz v u hv hu ee.symm (by omega) hvp
      omega⟩ (fun y hy c => by
      have hyn : y < n := by omega
      have := (hm y hyn).1
      have h1 := c.1
      omega)
     rw [q2]
     rcases mdf_spec (g := rl n g m) hx with ⟨j, j1, j2, j3, _, _⟩ | ⟨_, j2⟩
     · have c := (rl_iff F (show x ≤ j by omega)).2 j3.symm
       by_cases hjp : j ≤ p
       · exact (stop j j1 hjp c).elim
       · exact (q1 j (by omega) j2 (by rw [← c.1]; exact em)).elim
     · rw [j2, hh]
end Go.Ev.Yteclcmiopobnaaa.P
namespace Go.Ev.Yteclcmiopobnaaa.P
open Go.Ev.Yteclcmiopobnaaa
open Go.Ev Go.Gar
structure Pt {n : Nat} (s : Pm n) (g : Nat → Nat) : Prop where
 can : Can n g
 nc : crs n g = false
 f : ∀ x, x < n → s.f x = mdf n g x
theorem Pt.lb {n : Nat} {s : Pm n} {g : Nat → Nat} (h : Pt s g) : Lb n s g := by
 refine ⟨h.can, fun x hx => ?_, ?_⟩
 · rw [h.f x hx]
   rcases mdf_spec (g := g) hx with ⟨k, _, _, k3, _, k5⟩ | ⟨_, k2⟩
   · rw [k5]; exact k3
   · rw [k2]; exact (h.can x hx).2
 · have : ∀ d x, x + d = n → x < n → Eo s x (g x) := by
    intro d
    induction d using Nat.strongRecOn with
    | ind d ih =>
     intro x hd hx
     have e := h.f x hx
     rcases mdf_spec (g := g) hx with ⟨k, k1, k2, k3, _, k5⟩ | ⟨_, k2⟩
     · have h1 := ih (n - k) (by omega) k (by omega) k2
       rw [k3] at h1
       have h2 := Eo.st (s := s) x
       rw [e, k5] at h2
       exact h2.tr h1
     · have h2 := Eo.st (s := s) x
       rw [e, k2] at h2
       exact h2
   intro x hx
   exact this (n - x) x (by omega) hx
theorem Lb.eo {n : Nat} {s : Pm n} {g : Nat → Nat} (h : Lb n s g) (x y : Nat) : Eo s x y ↔ x = y ∨ (x < n ∧ y < n ∧ g x = g y) := by
 constructor
 · intro e
   induction e with
   | re x => exact .inl rfl
   | st x =>
    by_cases hx : x < n
    · exact .inr ⟨hx, s.lt hx, (h.inv x hx).symm⟩
    · left; exact (s.out x (by omega)).symm
   | sy _ ih =>
    rcases ih with h1 | ⟨h1, h2, h3⟩
    · exact .inl h1.symm
    · exact .inr ⟨h2, h1, h3.symm⟩
   | tr _ _ i1 i2 =>
    rcases i1 with rfl | ⟨h1, h2, h3⟩
    · exact i2
    · rcases i2 with rfl | ⟨k1, k2, k3⟩
      · exact .inr ⟨h1, h2, h3⟩
      · exact .inr ⟨h1, k2, h3.trans k3⟩
 · rintro (rfl | ⟨h1, h2, h3⟩)
   · exact Eo.re _
   · have e1 := h.orb x h1
     rw [h3] at e1
     exact e1.tr (h.orb y h2).sy
def leP {n : Nat} (a b : Pm n) : Prop := ∀ x y, Eo a x y → Eo b x y
theorem leP_iff {n : Nat} {a b : Pm n} {g h : Nat → Nat} (ha : Pt a g) (hb : Pt b h) : leP a b ↔ Fn n g h := by
 constructor
 · intro l u v hu hv e
   rcases (hb.lb.eo u v).1 (l u v ((ha.lb.eo u v).2 (.inr ⟨hu, hv, e⟩))) with rfl | ⟨_, _, h3⟩
   · rfl
   · exact h3
 · intro F x y e
   rcases (ha.lb.eo x y).1 e with rfl | ⟨h1, h2, h3⟩
   · exact Eo.re _
   · exact (hb.lb.eo x y).2 (.inr ⟨h1, h2, F x y h1 h2 h3⟩)
theorem Pt.eq {n : Nat} {a b : Pm n} {g h : Nat → Nat} (ha : Pt a g) (hb : Pt b h) (e : ∀ x, x < n → g x = h x) : a = b := by
 apply Pm.ext
 intro x
 by_cases hx : x < n
 · rw [ha.f x hx, hb.f x hx, mdf_congr e hx]
 · rw [a.out x (by omega), b.out x (by omega)]
theorem leP_anti {n : Nat} {a b : Pm n} {g h : Nat → Nat} (ha : Pt a g) (hb : Pt b h) (l1 : leP a b) (l2 : leP b a) : a = b := by
 have F1 := (leP_iff ha hb).1 l1
 have F2 := (leP_iff hb ha).1 l2
 apply ha.eq hb
 intro x hx
 have gx := ha.can x hx
 have hx' := hb.can x hx
 have e1 := F1 (g x) x (by omega) hx gx.2
 have e2 := F2 (h x) x (by omega) hx hx'.2
 have k1 := (hb.can (g x) (by omega)).1
 have k2 := (ha.can (h x) (by omega)).1
 omega
theorem pt_one (n : Nat) : Pt (1 : Pm n) id := by
 refine ⟨fun x _ => ⟨Nat.le_refl _, rfl⟩, ?_, fun x hx => ?_⟩
 · rw [Bool.eq_false_iff]
   intro h
   obtain ⟨a, b, c, y, h1, h2, h3, h4, e1, e2, e3⟩ := (crs_iff n _).1 h
   simp only [id] at e1
   omega
 · rcases mdf_spec (g := id) hx with ⟨k, k1, _, k3, _, _⟩ | ⟨_, k2⟩
   · simp only [id] at k3
     omega
   · rw [k2]; rfl
theorem pt_D (n : Nat) : Pt (whP n) (fun _ => 0) := by
 refine ⟨fun x _ => ⟨Nat.zero_le _, rfl⟩, ?_, fun x hx => ?_⟩
 · rw [Bool.eq_false_iff]
   intro h
   obtain ⟨a, b, c, y, h1, h2, h3, h4, e1, e2, e3⟩ := (crs_iff n _).1 h
   exact e3 rfl
 · rw [whP_f hx]
   unfold sc
   rcases mdf_spec (g := fun _ => 0) hx with ⟨k, k1, k2, k3, k4, k5⟩ | ⟨k1, k2⟩
   · have : ¬ x + 1 < k := fun h => k4 (x + 1) (by omega) h rfl
     rw [k5, if_neg (by omega)]
     omega
   · have : ¬ x + 1 < n := fun h => k1 (x + 1) (by omega) h rfl
     rw [k2, if_pos (by omega)]
theorem pt_rel {n : Nat} {x y : Pm n} {g m : Nat → Nat} (hx : Pt x g) (hy : Pt y m) (l : leP x y) : Pt (x⁻¹ * y) (rl n g m) := by
 have F := (leP_iff hx hy).1 l
 refine ⟨rl_can F n, rl_nc F hy.nc, fun z hz => ?_⟩
 have hp := x.lt_g hz
 have e : mdf n g (x.g z) = z := by rw [← hx.f _ hp, x.fg]
 show y.f (x.g z) = _
 rw [krr hx.can hy.can F hx.nc hp hz e, hy.f _ hp]
theorem rel_le {n : Nat} {x y : Pm n} {g m : Nat → Nat} (hx : Pt x g) (hy : Pt y m) (l : leP x y) : leP (x⁻¹ * y) y :=
 (leP_iff (pt_rel hx hy l) hy).2 (rl_fine ((leP_iff hx hy).1 l))
theorem fn_of {n : Nat} {a b : Nat → Nat} (h : ∀ u v, u ≤ v → v < n → a u = a v → b u = b v) : Fn n a b := by
 intro u v hu hv e
 rcases Nat.le_total u v with h1 | h1
 · exact h u v h1 hv e
 · exact (h v u h1 hu e.symm).symm
theorem rel_anti {n : Nat} {x y t : Pm n} {g h m : Nat → Nat} (hx : Pt x g) (hy : Pt y h) (ht : Pt t m) (l1 : leP x y) (l2 : leP y t) : leP (y⁻¹ * t) (x⁻¹ * t) := by
 have l3 : leP x t := fun u v e => l2 u v (l1 u v e)
 have F1 := (leP_iff hx hy).1 l1
 have F2 := (leP_iff hy ht).1 l2
 have F3 := (leP_iff hx ht).1 l3
 refine (leP_iff (pt_rel hy ht l2) (pt_rel hx ht l3)).2 (fn_of fun u v huv hv e => ?_)
 obtain ⟨em, c⟩ := (rl_iff F2 huv).2 e
 exact (rl_iff F3 huv).1 ⟨em, fun p q hp hq e' eb hin => c p q hp hq (F1 p q hp hq e') eb hin⟩
theorem rel_wide {n : Nat} {x y : Pm n} {g m : Nat → Nat} (hx : Pt x g) (hy : Pt y m) (l : leP x y) (lD : leP x (whP n)) : leP (x⁻¹ * y) (x⁻¹ * whP n) := by
 have F := (leP_iff hx hy).1 l
 have FD := (leP_iff hx (pt_D n)).1 lD
 refine (leP_iff (pt_rel hx hy l) (pt_rel hx (pt_D n) lD)).2 (fn_of fun u v huv hv e => ?_)
 obtain ⟨em, c⟩ := (rl_iff F huv).2 e
 refine (rl_iff FD huv).1 ⟨rfl, fun w w' hw hw' e' _ hin => ?_⟩
 by_cases hm : m w = m v
 · exact c w w' hw hw' e' hm hin
 · have ew := F w w' hw hw' e'
   have hwu : w ≠ u := fun h => hm (by rw [h]; exact em)
   have hwv : w' ≠ v := fun h => hm (by rw [ew, h])
   have hwu' : w' ≠ u := fun h => hm (by rw [ew, h]; exact em)
   apply Classical.byContradiction
   intro hno
   rcases Nat.lt_or_gt_of_ne hwu' with h1 | h1
   · have := no_cross hy.nc h1 (show u < w by omega) hin.2 hv ew.symm em
     exact hm (by omega)
   · have h2 : v < w' := by omega
     have := no_cross hy.nc (show u < w by omega) hin.2 h2 hw' em ew
     exact hm (by omega)
theorem le_D {n : Nat} {x : Pm n} {g : Nat → Nat} (hx : Pt x g) : leP x (whP n) := (leP_iff hx (pt_D n)).2 (fun _ _ _ _ _ => rfl)
theorem eo_conj {n : Nat} {a : Pm n} (t : Pm n) {x y : Nat} (e : Eo a x y) : Eo (t⁻¹ * (a * t)) (t.f x) (t.f y) := by
 induction e with
 | re x => exact Eo.re _
 | st x =>
  have h := Eo.st (s := t⁻¹ * (a * t)) (t.f x)
  have e : (t⁻¹ * (a * t)).f (t.f x) = t.f (a.f x) := by
   show t.f (a.f (t.g (t.f x))) = _
   rw [t.gf]
  rw [e] at h
  exact h
 | sy _ ih => exact ih.sy
 | tr _ _ i1 i2 => exact i1.tr i2
theorem conj_back {n : Nat} (a t : Pm n) : t⁻¹⁻¹ * ((t⁻¹ * (a * t)) * t⁻¹) = a := by
 rw [inv_inv]
 simp only [Grp.assoc, Grp.mul_inv, Grp.mul_one]
 rw [mul_inv_l]
theorem leP_conj {n : Nat} {a b : Pm n} (t : Pm n) (l : leP (t⁻¹ * (a * t)) (t⁻¹ * (b * t))) : leP a b := by
 intro x y e
 have h := eo_conj t⁻¹ (l _ _ (eo_conj t e))
 rw [conj_back] at h
 have e1 : (t⁻¹).f (t.f x) = x := t.gf x
 have e2 : (t⁻¹).f (t.f y) = y := t.gf y
 rw [e1, e2] at h
 exact h
theorem rel_rel {n : Nat} (x t : Pm n) : (x⁻¹ * t)⁻¹ * t = t⁻¹ * (x * t) := by rw [mul_inv_rev, inv_inv, Grp.assoc]
theorem rel_reflect {n : Nat} {x y t : Pm n} {g h m : Nat → Nat} (hx : Pt x g) (hy : Pt y h) (ht : Pt t m) (l1 : leP x t) (l2 : leP y t) (l : leP (y⁻¹ * t) (x⁻¹ * t)) : leP x y := by
 have h1 := rel_anti (pt_rel hy ht l2) (pt_rel hx ht l1) ht l (rel_le hx ht l1)
 rw [rel_rel, rel_rel] at h1
 exact leP_conj t h1
def isP {n : Nat} (s : Pm n) : Prop := ∃ g, Pt s g
theorem isP_rot {n : Nat} {s : Pm n} (h : isP s) : isP ((whP n)⁻¹ * (s * whP n)) := by
 obtain ⟨g, hg⟩ := h
 have h1 := pt_rel hg (pt_D n) (le_D hg)
 have h2 := pt_rel h1 (pt_D n) (le_D h1)
 rw [rel_rel] at h2
 exact ⟨_, h2⟩
noncomputable def dk (n : Nat) : Nat → Pm n
 | 0 => 1
 | k + 1 => dk n k * whP n
theorem isP_rots {n : Nat} {s : Pm n} (h : isP s) : ∀ k, isP ((dk n k)⁻¹ * (s * dk n k))
 | 0 => by
  have e : (dk n 0)⁻¹ * (s * dk n 0) = s := by
   show (1 : Pm n)⁻¹ * (s * 1) = s
   rw [inv_one, Grp.one_mul, Grp.mul_one]
  rw [e]
  exact h
 | k + 1 => by
  have := isP_rot (isP_rots h k)
  have e : (whP n)⁻¹ * ((dk n k)⁻¹ * (s * dk n k) * whP n) = (dk n (k + 1))⁻¹ * (s * dk n (k + 1)) := by
   show _ = (dk n k * whP n)⁻¹ * (s * (dk n k * whP n))
   rw [mul_inv_rev]
   simp only [Grp.assoc]
  rw [e] at this
  exact this
theorem dk_f {n : Nat} (h1 : 1 ≤ n) : ∀ k x, x < n → (dk n k).f x = (x + k) % n
 | 0, x, hx => (Nat.mod_eq_of_lt hx).symm
 | k + 1, x, hx => by
  show (whP n).f ((dk n k).f x) = _
  rw [dk_f h1 k x hx, whP_f (Nat.mod_lt _ (by omega)), ← sc_mod (Nat.mod_lt _ (by omega)), Nat.mod_add_mod]
  rfl
theorem dk_n {n : Nat} (h1 : 1 ≤ n) : dk n n = 1 := by
 apply Pm.ext
 intro x
 by_cases hx : x < n
 · rw [dk_f h1 n x hx, Nat.add_mod_right, Nat.mod_eq_of_lt hx]
   rfl
 · rw [Pm.out _ x (by omega)]
   rfl
theorem isP_unrot {n : Nat} (h1 : 1 ≤ n) {s : Pm n} (h : isP s) : isP (whP n * (s * (whP n)⁻¹)) := by
 have hk := isP_rots h (n - 1)
 have e : dk n (n - 1) = (whP n)⁻¹ := by
  have h2 : dk n (n - 1) * whP n = 1 := by
   have h3 : dk n (n - 1 + 1) = 1 := by rw [show n - 1 + 1 = n by omega]; exact dk_n h1
   exact h3
  have h3 := congrArg (fun z => z * (whP n)⁻¹) h2
  simp only [Grp.assoc, Grp.mul_inv, Grp.mul_one, Grp.one_mul] at h3
  exact h3
 rw [e, inv_inv] at hk
 exact hk
theorem isP_left {n : Nat} (h1 : 1 ≤ n) {x : Pm n} (h : isP x) : isP (whP n * x⁻¹) := by
 obtain ⟨g, hg⟩ := h
 have h2 := isP_unrot h1 ⟨_, pt_rel hg (pt_D n) (le_D hg)⟩
 have e : whP n * (x⁻¹ * whP n * (whP n)⁻¹) = whP n * x⁻¹ := by rw [Grp.assoc x⁻¹, Grp.mul_inv, Grp.mul_one]
 rw [e] at h2
 exact h2
theorem lst_nc {n : Nat} {g h : Nat → Nat} (hg : crs n g = false) (hh : crs n h = false) : crs n (lst g h) = false := by
 rw [Bool.eq_false_iff]
 intro hc
 obtain ⟨a, b, c, y, h1, h2, h3, h4, e1, e2, e3⟩ := (crs_iff n _).1 hc
 have key : ∀ u v, lst g h u = lst g h v → g u = g v ∧ h u = h v := by
  intro u v e
  have su := sm_iff.1 (lst_spec g h u).2.1
  have sv := sm_iff.1 (lst_spec g h v).2.1
  rw [e] at su
  exact ⟨by omega, by omega⟩
 have k1 := key _ _ e1
 have k2 := key _ _ e2
 exact e3 (lst_eq (sm_iff.2 ⟨no_cross hg h1 h2 h3 h4 k1.1 k2.1, no_cross hh h1 h2 h3 h4 k1.2 k2.2⟩))
theorem pt_meet_ex {n : Nat} {a b : Pm n} (ha : isP a) (hb : isP b) : ∃ c : Pm n, Pt c (lst ha.choose hb.choose) := by
 obtain ⟨c, _, hc⟩ := mdf_pm (lst_can n ha.choose hb.choose)
 exact ⟨c, lst_can n _ _, lst_nc ha.choose_spec.nc hb.choose_spec.nc, hc⟩
open Classical in
noncomputable def meetP {n : Nat} (a b : Pm n) : Pm n := if h : isP a ∧ isP b then (pt_meet_ex h.1 h.2).choose else 1
theorem meetP_pt {n : Nat} {a b : Pm n} (ha : isP a) (hb : isP b) : Pt (meetP a b) (lst ha.choose hb.choose) := by
 unfold meetP
 rw [dif_pos ⟨ha, hb⟩]
 exact (pt_meet_ex ha hb).choose_spec
noncomputable def latP (n : Nat) (h1 : 1 ≤ n) : Lat (Pm n) where
 S := isP
 le := leP
 D := whP n
 meet := meetP
 S_one := ⟨_, pt_one n⟩
 S_D := ⟨_, pt_D n⟩
 S_K := fun ⟨_, hg⟩ => ⟨_, pt_rel hg (pt_D n) (le_D hg)⟩
 S_K' h := isP_left h1 h
 refl _ := fun _ _ e => e
 trans _ _ _ l1 l2 := fun x y e => l2 x y (l1 x y e)
 anti := fun ⟨_, hx⟩ ⟨_, hy⟩ l1 l2 => leP_anti hx hy l1 l2
 one_le := fun ⟨_, hx⟩ => (leP_iff (pt_one n) hx).2 (fun u v _ _ e => by simp only [id] at e; rw [e])
 le_D := fun ⟨_, hx⟩ => le_D hx
 S_meet ha hb := ⟨_, meetP_pt ha hb⟩
 meet_l ha hb := (leP_iff (meetP_pt ha hb) ha.choose_spec).2 (fun u v _ _ e => by
  have su := sm_iff.1 (lst_spec ha.choose hb.choose u).2.1
  have sv := sm_iff.1 (lst_spec ha.choose hb.choose v).2.1
  rw [e] at su
  omega)
 meet_r ha hb := (leP_iff (meetP_pt ha hb) hb.choose_spec).2 (fun u v _ _ e => by
  have su := sm_iff.1 (lst_spec ha.choose hb.choose u).2.1
  have sv := sm_iff.1 (lst_spec ha.choose hb.choose v).2.1
  rw [e] at su
  omega)
 le_meet ha hb hz l1 l2 := (leP_iff hz.choose_spec (meetP_pt ha hb)).2 (fun u v hu hv e =>
  lst_eq (sm_iff.2 ⟨(leP_iff hz.choose_spec ha.choose_spec).1 l1 u v hu hv e, (leP_iff hz.choose_spec hb.choose_spec).1 l2 u v hu hv e⟩))
 p0 := fun ⟨_, hx⟩ ⟨_, hy⟩ l => ⟨⟨_, pt_rel hx hy l⟩, rel_wide hx hy l (le_D hx)⟩
 p1 := fun {x y} ⟨_, hx⟩ ⟨_, hy⟩ l => by
  have hK := pt_rel hx (pt_D n) (le_D hx)
  have hz := pt_rel hy hK l
  have e1 : y⁻¹ * (x⁻¹ * whP n) = (x * y)⁻¹ * whP n := by rw [mul_inv_rev, Grp.assoc]
  have e2 : whP n * (y⁻¹ * (x⁻¹ * whP n))⁻¹ = x * y := by
   rw [e1, mul_inv_rev, inv_inv, ← Grp.assoc, Grp.mul_inv, Grp.one_mul]
  have hS : isP (x * y) := by
   have := isP_left h1 ⟨_, hz⟩
   rw [e2] at this
   exact this
  refine ⟨hS, ?_⟩
  obtain ⟨_, hxy⟩ := hS
  have l2 := rel_le hy hK l
  rw [e1] at l2
  exact rel_reflect hx hxy (pt_D n) (le_D hx) (le_D hxy) l2
 p2 := fun {v x y} ⟨_, hv⟩ ⟨_, hx⟩ ⟨_, hy⟩ l1 l2 => by
  have hK := pt_rel hv (pt_D n) (le_D hv)
  have exx : ∀ x : Pm n, x⁻¹ * (v⁻¹ * whP n) = (v * x)⁻¹ * whP n := fun x => by rw [mul_inv_rev, Grp.assoc]
  have prod : ∀ {x : Pm n} {g : Nat → Nat}, Pt x g → leP x (v⁻¹ * whP n) → isP (v * x) := by
   intro x g hx l
   have hz := pt_rel hx hK l
   have e2 : whP n * (x⁻¹ * (v⁻¹ * whP n))⁻¹ = v * x := by
    rw [exx, mul_inv_rev, inv_inv, ← Grp.assoc, Grp.mul_inv, Grp.one_mul]
   have := isP_left h1 ⟨_, hz⟩
   rw [e2] at this
   exact this
  obtain ⟨_, hvx⟩ := prod hx l1
  obtain ⟨_, hvy⟩ := prod hy l2
  constructor
  · intro l
    have h3 := rel_anti hvx hvy (pt_D n) l (le_D hvy)
    rw [← exx, ← exx] at h3
    exact rel_reflect hx hy hK l1 l2 h3
  · intro l
    have h3 := rel_anti hx hy hK l l2
    rw [exx, exx] at h3
    exact rel_reflect hvx hvy (pt_D n) (le_D hvx) (le_D hvy) h3
end Go.Ev.Yteclcmiopobnaaa.P
namespace Go.Ev.Yteclcmiopobnaaa.P
open Go.Ev.Yteclcmiopobnaaa
open Go.Ev Go.Gar
theorem pt_sA {n : Nat} {a : Pm n} {g : Nat → Nat} (h : Pt a g) : sA a = A8 n (mdf n g) := A8_congr (fun x hx => h.f x hx)
theorem c_meetP (n : Nat) (h1 : 1 ≤ n) (hn : n ≤ 8) {a b : Pm n} (ha : isP a) (hb : isP b) : R ii_meetParts [tA8 (sA a), tA8 (sA b), tI (n : Int)] = some [tA8 (sA (meetP a b))] := by
 rw [pt_sA ha.choose_spec, pt_sA hb.choose_spec, pt_sA (meetP_pt ha hb)]
 exact c_meetParts n h1 hn _ _ ha.choose_spec.can hb.choose_spec.can
theorem c_l07MeetP (n : Nat) (h1 : 1 ≤ n) (hn : n ≤ 8) {a b : Pm n} (ha : isP a) (hb : isP b) : R is_l07Meet [tA8 (sA a), tA8 (sA b), tI (n : Int)] = some [tA8 (sA (meetP a b))] := by
 rw [pt_sA ha.choose_spec, pt_sA hb.choose_spec, pt_sA (meetP_pt ha hb)]
 exact c_l07Meet n h1 hn _ _ ha.choose_spec.can hb.choose_spec.can
theorem c_backPart (n : Nat) (hn : n ≤ 8) (s : Pm n) : R ii_backPart [tA8 (sA s), tI (n : Int)] = some [tA8 (sA s⁻¹)] := by
 apply vi_backPart
 simp only [bi_backPart, c_backOf n hn, Option.bind_some, getTV_here]
theorem c_thenPart (n : Nat) (hn : n ≤ 8) (s t : Pm n) : R ii_thenPart [tA8 (sA s), tA8 (sA t), tI (n : Int)] = some [tA8 (sA (s * t))] := by
 apply vi_thenPart
 simp only [bi_thenPart, c_then n hn, Option.bind_some, getTV_here]
theorem whP_ne {n : Nat} (h2 : 2 ≤ n) : (latP n (by omega)).D ≠ 1 := by
 intro h
 have h3 : (whP n).f 0 = (1 : Pm n).f 0 := congrArg (fun s : Pm n => s.f 0) h
 rw [whP_f (show 0 < n by omega)] at h3
 unfold sc at h3
 rw [if_neg (by omega)] at h3
 exact absurd h3 (by simp [Pm.one_f])
def sL {n : Nat} (l : List (Pm n)) : List (List Int) := l.map sA
theorem sL_len {n : Nat} (l : List (Pm n)) : (sL l).length = l.length := by simp [sL]
theorem sL_get {n : Nat} {l : List (Pm n)} {i : Nat} (h : i < l.length) : List.getD (sL l) i (List.replicate 8 0) = sA l[i] := by
 simp [sL, List.getD_eq_getElem?_getD, h]
theorem sL_set {n : Nat} (l : List (Pm n)) (i : Nat) (s : Pm n) : List.set (sL l) i (sA s) = sL (l.set i s) := by
 simp [sL]
theorem sL_snoc {n : Nat} (l : List (Pm n)) (s : Pm n) : sL l ++ [sA s] = sL (l ++ [s]) := by simp [sL]
theorem sL_take {n : Nat} (l : List (Pm n)) (k : Nat) : List.take k (sL l) = sL (l.take k) := by simp [sL]
theorem sL_nil (n : Nat) : sL ([] : List (Pm n)) = [] := rfl
instance {n : Nat} : DecidableEq (Pm n) := fun a b => decidable_of_iff (∀ x, x < n → a.f x = b.f x)
 ⟨fun h => Pm.ext fun x => by
  by_cases hx : x < n
  · exact h x hx
  · rw [a.out x (by omega), b.out x (by omega)], fun h x _ => by rw [h]⟩
theorem take_snoc {α : Type} {X : List α} {k : Nat} (hk : k < X.length) : X.take (k + 1) = X.take k ++ [X[k]] := by
 rw [List.take_add_one, List.getElem?_eq_getElem hk]
 rfl
theorem beq_sA {n : Nat} (hn : n ≤ 8) (s t : Pm n) : (sA s == sA t) = decide (s = t) := by
 rw [Bool.eq_iff_iff, beq_iff_eq, decide_eq_true_eq, sA_eq hn]
theorem bk_snoc {G : Type} [Grp G] [DecidableEq G] : ∀ (m : List G) (x : G), Lat.bk (m ++ [x]) = if x = 1 then Lat.bk m else m ++ [x]
 | [], x => by
  simp only [List.nil_append, Lat.bk]
 | a :: m, x => by
  have ih := bk_snoc m x
  show Lat.bk (a :: (m ++ [x])) = _
  unfold Lat.bk
  rw [ih]
  by_cases h : x = 1
  · simp only [if_pos h]
  · simp only [if_neg h]
    cases m <;> rfl
theorem fr_drop {G : Type} [Grp G] [DecidableEq G] (Γ : Lat G) : ∀ (l : List G), l.drop (Γ.fr l).1 = (Γ.fr l).2 ∧ (Γ.fr l).1 ≤ l.length
 | [] => by simp [Lat.fr]
 | a :: l => by
  have ih := fr_drop Γ l
  unfold Lat.fr
  by_cases h : a = Γ.D
  · simp only [if_pos h, List.drop_succ_cons, List.length_cons]
    exact ⟨ih.1, by omega⟩
  · simp only [if_neg h]
    simp
theorem meetK {n : Nat} (h1 : 1 ≤ n) (a b : Pm n) : meetP (a⁻¹ * whP n) b = (latP n h1).meet ((latP n h1).K a) b := rfl
theorem cur_get {n : Nat} {X : List (Pm n)} {k : Nat} (hk : k < X.length) (b : Pm n) (m : List (Pm n)) :
  ∃ (h1 : k < (X.take (k + 1) ++ b :: m).length) (h2 : k + 1 < (X.take (k + 1) ++ b :: m).length), (X.take (k + 1) ++ b :: m)[k] = X[k] ∧ (X.take (k + 1) ++ b :: m)[k + 1] = b := by
 have e : (X.take (k + 1)).length = k + 1 := by simp; omega
 refine ⟨by simp; omega, by simp; omega, ?_, ?_⟩
 · rw [List.getElem_append_left (by omega)]
   simp
 · rw [List.getElem_append_right (by omega)]
   simp [e]
theorem cur_set {n : Nat} {X : List (Pm n)} {k : Nat} (hk : k < X.length) (b x y : Pm n) (m : List (Pm n)) :
  ((X.take (k + 1) ++ b :: m).set k x).set (k + 1) y = X.take k ++ x :: y :: m := by
 have e : X.take (k + 1) = X.take k ++ [X[k]] := take_snoc hk
 have e1 : (X.take k).length = k := by simp; omega
 rw [e, List.append_assoc]
 rw [List.set_append_right _ _ (by omega), e1, Nat.sub_self]
 rw [List.set_append_right _ _ (by omega), e1, show k + 1 - k = 1 by omega]
 rfl
theorem pass_drop {n : Nat} (h1 : 1 ≤ n) {X : List (Pm n)} {k : Nat} (hk : k < X.length) : (latP n h1).pass (X.drop k) = (latP n h1).step1 X[k] ((latP n h1).pass (X.drop (k + 1))) := by
 rw [List.drop_eq_getElem_cons hk]
 rfl
abbrev Nm (n : Nat) := Int × List (Pm n)
def enc {n : Nat} (v : Nm n) : Int × Int × List (List Int) := ((n : Int), v.1, sL v.2)
theorem pass_stop {n : Nat} (h1 : 1 ≤ n) : ∀ (U : List (Pm n)) {Z m : List (Pm n)} {x : Pm n}, (latP n h1).Wd (U ++ [x]) → (latP n h1).pass Z = x :: m → (latP n h1).pass (U ++ Z) = U ++ (latP n h1).pass Z
 | [], Z, m, x, _, _ => rfl
 | u :: U, Z, m, x, hW, hZ => by
  have ih := pass_stop h1 U hW.2 hZ
  show (latP n h1).step1 u ((latP n h1).pass (U ++ Z)) = _
  rw [ih, hZ]
  cases U with
  | nil =>
   have := hW.1 x rfl
   simp only [List.nil_append, Lat.step1, this, Grp.mul_one, inv_one, Grp.one_mul]
   rfl
  | cons v U =>
   have := hW.1 v rfl
   simp only [List.cons_append, Lat.step1, this, Grp.mul_one, inv_one, Grp.one_mul]
theorem WdP_left {n : Nat} (h1 : 1 ≤ n) : ∀ {U V : List (Pm n)}, (latP n h1).Wd (U ++ V) → (latP n h1).Wd U
 | [], V, _ => trivial
 | u :: U, V, h => by
  refine ⟨fun b hb => h.1 b ?_, WdP_left h1 h.2⟩
  cases U with
  | nil => simp at hb
  | cons v U => exact hb
theorem c_put_5 (n : Nat) (h1 : 1 ≤ n) (hn : n ≤ 8) (A : List (Pm n)) (s : Pm n) (p : Int) (hA : A.length < 1000000) (hW : (latP n h1).Wd A) (hS : (latP n h1).AllS (A ++ [s])) : ∀ k, k ≤ A.length →
  R i__i_Dual__put_5 [tI (n : Int), tI p, tLA8 (sL ((A ++ [s]).take k ++ (latP n h1).pass ((A ++ [s]).drop k))), tI (n : Int), tI (k : Int)] = some [tI 0, tI (n : Int), tI p, tLA8 (sL ((latP n h1).pass (A ++ [s]))), tI (n : Int)] := by
 intro k
 induction k with
 | zero =>
  intro _
  apply v__i_Dual__put_5
  simp [b__i_Dual__put_5]
 | succ k ih =>
  intro hk
  have hlX : (A ++ [s]).length = A.length + 1 := by simp
  have hk' : k < (A ++ [s]).length := by omega
  have hlen := (latP n h1).pass_len (l := (A ++ [s]).drop (k + 1))
  have hd := pass_drop h1 hk'
  cases hp : (latP n h1).pass ((A ++ [s]).drop (k + 1)) with
  | nil =>
   rw [hp] at hlen
   simp at hlen
   omega
  | cons b m =>
   rw [hp] at hd
   have hSk : isP (A ++ [s])[k] := hS _ (List.getElem_mem hk')
   have hSb : isP b := by
    have h3 := Lat.pass_S (Γ := latP n h1) (l := (A ++ [s]).drop (k + 1)) (fun x hx => hS x (List.mem_of_mem_drop hx))
    rw [hp] at h3
    exact h3 b List.mem_cons_self
   have hSK : isP ((A ++ [s])[k]⁻¹ * whP n) := (latP n h1).S_K hSk
   obtain ⟨l1, l2, g1, g2⟩ := cur_get hk' b m
   have e1 : wi64 (((k + 1 : Nat) : Int) - 1) = (k : Int) := by rw [wrap_i64] <;> omega
   have len : ((A ++ [s]).take (k + 1) ++ b :: m).length = A.length + 1 := by
    rw [hp] at hlen
    simp at hlen ⊢
    omega
   have gg1 := sL_get (n := n) l1
   have gg2 := sL_get (n := n) l2
   rw [g1] at gg1
   rw [g2] at gg2
   have tk := take_snoc hk'
   by_cases hc : meetP ((A ++ [s])[k]⁻¹ * whP n) b = 1
   · have hst : (latP n h1).pass ((A ++ [s]).drop k) = (A ++ [s])[k] :: b :: m := by
      rw [hd, Lat.step1, ← meetK h1, hc, Grp.mul_one, inv_one, Grp.one_mul]
     have hWk : (latP n h1).Wd ((A ++ [s]).take k ++ [(A ++ [s])[k]]) := by
      rw [← tk, List.take_append_of_le_length (by omega)]
      rw [← List.take_append_drop (k + 1) A] at hW
      exact WdP_left h1 hW
     have hfin := pass_stop h1 _ hWk hst
     rw [List.take_append_drop, hst] at hfin
     have ecur : (A ++ [s]).take k ++ (A ++ [s])[k] :: b :: m = (A ++ [s]).take (k + 1) ++ b :: m := by
      rw [tk, List.append_assoc]
      rfl
     rw [ecur] at hfin
     apply v__i_Dual__put_5
     simp (disch := omega) only [b__i_Dual__put_5, decide_eq_true, cond_true, Bool.and_true, Int.toNat_natCast, sL_len, len, gg1, gg2, e1, c_complementPart n hn, c_meetP n h1 hn hSK hSb, c_finePart n hn, Option.bind_some, getTV_here, hc, beq_self_eq_true, hfin]
   · have hst : (latP n h1).pass ((A ++ [s]).drop k) = ((A ++ [s])[k] * meetP ((A ++ [s])[k]⁻¹ * whP n) b) :: ((meetP ((A ++ [s])[k]⁻¹ * whP n) b)⁻¹ * b) :: m := by
      rw [hd, Lat.step1, ← meetK h1]
     have ih' := ih (by omega)
     rw [hst] at ih'
     have e3 := cur_set hk' b ((A ++ [s])[k] * meetP ((A ++ [s])[k]⁻¹ * whP n) b) ((meetP ((A ++ [s])[k]⁻¹ * whP n) b)⁻¹ * b) m
     have l3 : k + 1 < (((A ++ [s]).take (k + 1) ++ b :: m).set k ((A ++ [s])[k] * meetP ((A ++ [s])[k]⁻¹ * whP n) b)).length := by rw [List.length_set]; exact l2
     have gg3 := sL_get (n := n) l3
     have g3 : (((A ++ [s]).take (k + 1) ++ b :: m).set k ((A ++ [s])[k] * meetP ((A ++ [s])[k]⁻¹ * whP n) b))[k + 1] = b := by
      rw [List.getElem_set_ne (by omega), g2]
     rw [g3] at gg3
     apply v__i_Dual__put_5
     have hb : (sA (meetP ((A ++ [s])[k]⁻¹ * whP n) b) == sA (1 : Pm n)) = false := by rw [beq_sA hn]; simpa using hc
     simp (disch := omega) only [b__i_Dual__put_5, decide_eq_true, cond_true, cond_false, Bool.and_true, Int.toNat_natCast, sL_len, List.length_set, len, gg1, gg2, e1, c_complementPart n hn, c_meetP n h1 hn hSK hSb, c_finePart n hn, Option.bind_some, getTV_here, hb, c_thenPart n hn, c_backPart n hn, sL_set, gg3, e3]
     exact ih'
theorem c_put_11 (n : Nat) (h1 : 1 ≤ n) (hn : n ≤ 8) : ∀ (Y : List (Pm n)) (p : Int), -1000000000 ≤ p → p + Y.length ≤ 1001000000 → Y.length < 1000000 →
  R i__i_Dual__put_11 [tI (n : Int), tI p, tLA8 (sL Y), tI (n : Int)] = some [tI 0, tI (n : Int), tI (p + (((latP n h1).fr Y).1 : Nat)), tLA8 (sL ((latP n h1).fr Y).2), tI (n : Int)]
 | [], p, _, _, _ => by
  apply v__i_Dual__put_11
  simp [b__i_Dual__put_11, sL_nil, Lat.fr]
 | a :: Y, p, q1, h2, h3 => by
  simp only [List.length_cons] at h2 h3
  have ih := c_put_11 n h1 hn Y (p + 1) (by omega) (by omega) (by omega)
  have l0 : 0 < (sL (a :: Y)).length := by simp [sL]
  have e0 : List.getD (sL (a :: Y)) 0 (List.replicate 8 0) = sA a := rfl
  have e1 : List.drop 1 (sL (a :: Y)) = sL Y := rfl
  apply v__i_Dual__put_11
  simp (disch := omega) only [b__i_Dual__put_11, decide_eq_true, cond_true, e0, e1, c_wholePart n hn, Option.bind_some, getTV_here, beq_sA hn, wrap_i64]
  unfold Lat.fr
  by_cases h : a = whP n
  · have h' : a = (latP n h1).D := h
    rw [decide_eq_true h, cond_true, if_pos h', ih]
    simp only
    rw [show p + 1 + (((latP n h1).fr Y).1 : Int) = p + ((((latP n h1).fr Y).1 + 1 : Nat) : Int) by omega]
  · have h' : ¬ a = (latP n h1).D := h
    rw [decide_eq_false h, cond_false, if_neg h']
    simp
theorem c_put_14 (n : Nat) (hn : n ≤ 8) (p : Int) : ∀ (k : Nat) (Y : List (Pm n)), Y.length = k → Y.length < 2000000 →
  R i__i_Dual__put_14 [tI (n : Int), tI p, tLA8 (sL Y), tI (n : Int)] = some [tI 0, tI (n : Int), tI p, tLA8 (sL (Lat.bk Y))] := by
 intro k
 induction k with
 | zero =>
  intro Y hk _
  have : Y = [] := List.length_eq_zero_iff.1 hk
  subst this
  apply v__i_Dual__put_14
  simp [b__i_Dual__put_14, sL_nil, Lat.bk]
 | succ k ih =>
  intro Y hk hl
  have h0 : k < Y.length := by omega
  have e : Y = Y.take k ++ [Y[k]] := by
   rw [← take_snoc h0, List.take_of_length_le (by omega)]
  have e1 : wi64 (((sL Y).length : Nat) - 1) = (k : Int) := by rw [sL_len, wrap_i64] <;> omega
  have l0 : ((0 : Int) < ((sL Y).length : Nat)) := by rw [sL_len]; omega
  have l1 : ((k : Int) < ((sL Y).length : Nat)) := by rw [sL_len]; omega
  have ih' := ih (Y.take k) (by simp; omega) (by simp; omega)
  apply v__i_Dual__put_14
  simp (disch := omega) only [b__i_Dual__put_14, e1, decide_eq_true, cond_true, Bool.and_true, Int.toNat_natCast, sL_get h0, c_finePart n hn, Option.bind_some, getTV_here, beq_sA hn, sL_take]
  have hb : Lat.bk Y = if Y[k] = 1 then Lat.bk (Y.take k) else Y := by
   have h1 := bk_snoc (Y.take k) Y[k]
   rw [← e] at h1
   exact h1
  rw [hb]
  by_cases h : Y[k] = 1
  · rw [decide_eq_true h, cond_true, if_pos h, ih']
  · rw [decide_eq_false h, cond_false, if_neg h]
end Go.Ev.Yteclcmiopobnaaa.P
namespace Go.Ev.Yteclcmiopobnaaa.P
open Go.Ev.Yteclcmiopobnaaa
open Go.Ev Go.Gar
noncomputable def mk {n : Nat} (h1 : 1 ≤ n) (p : Int) (l : List (Pm n)) : Nm n := (p + (((latP n h1).norm l).1 : Nat), ((latP n h1).norm l).2)
theorem mk_spec {n : Nat} (h2 : 2 ≤ n) (h1 : 1 ≤ n) (p : Int) {l : List (Pm n)} (hS : (latP n h1).AllS l) : (latP n h1).Proper (mk h1 p l).2 ∧ p ≤ (mk h1 p l).1 ∧ (mk h1 p l).1 + (mk h1 p l).2.length ≤ p + l.length ∧ (mk h1 p l).2.length ≤ l.length := by
 obtain ⟨j, _, hP, hl⟩ := Lat.norm_spec (whP_ne h2) hS
 refine ⟨hP, ?_, ?_, ?_⟩
 · simp only [mk]; omega
 · simp only [mk]; omega
 · simp only [mk]; omega
theorem mk_one {n : Nat} (h2 : 2 ≤ n) (h1 : 1 ≤ n) (p : Int) {A : List (Pm n)} (hP : (latP n h1).Proper A) : mk h1 p (A ++ [1]) = (p, A) := by
 have e := Lat.nf_ones (Γ := latP n h1) (X := A) (Y := []) 1 hP.S Lat.AllS.nil
 simp only [List.append_nil] at e
 have e2 : (latP n h1).norm (A ++ [1]) = (0, A) := Lat.norm_of (whP_ne h2) (i := 0) (j := 1) (by
  have : (Lat.ones 1 : List (Pm n)) = [1] := rfl
  rw [this] at e
  rw [e, Lat.nf_fix hP.W]
  rfl) hP
 simp only [mk, e2]
 simp
theorem snoc_S {n : Nat} {h1 : 1 ≤ n} {A : List (Pm n)} {s : Pm n} (hA : (latP n h1).AllS A) (hs : isP s) : (latP n h1).AllS (A ++ [s]) :=
 hA.app (Lat.AllS.cons hs Lat.AllS.nil)
theorem c_putP (n : Nat) (h2 : 2 ≤ n) (h1 : 1 ≤ n) (hn : n ≤ 8) (v : Nm n) (s : Pm n) (hs : isP s) (hP : (latP n h1).Proper v.2) (hl : v.2.length < 900000) (hp : -1000000000 ≤ v.1) (hp' : v.1 ≤ 1000000000) :
  R i__i_Dual__put [tPIPILA8 (enc v), tA8 (sA s)] = some [tPIPILA8 (enc (mk h1 v.1 (v.2 ++ [s])))] := by
 apply v__i_Dual__put
 by_cases h : s = 1
 · subst h
   simp only [b__i_Dual__put, enc, c_finePart n hn, Option.bind_some, getTV_here, beq_self_eq_true, cond_true, mk_one h2 h1 v.1 hP]
 · have hb : (sA s == sA (1 : Pm n)) = false := by rw [beq_sA hn]; simpa using h
   have h5 := c_put_5 n h1 hn v.2 s v.1 (by omega) hP.W (snoc_S hP.S hs) v.2.length (Nat.le_refl _)
   have e0 : (v.2 ++ [s]).take v.2.length ++ (latP n h1).pass ((v.2 ++ [s]).drop v.2.length) = v.2 ++ [s] := by simp [Lat.pass, Lat.step1]
   rw [e0, Lat.pass_nf hP.S hs hP.W] at h5
   have e1 : wi64 (((sL (v.2 ++ [s])).length : Nat) - 1) = (v.2.length : Int) := by
    rw [sL_len, List.length_append, List.length_cons, List.length_nil, wrap_i64] <;> omega
   have hnl := (latP n h1).nf_len (l := v.2 ++ [s])
   have hf := fr_drop (latP n h1) ((latP n h1).nf (v.2 ++ [s]))
   have hlA : (v.2 ++ [s]).length = v.2.length + 1 := by simp
   have hfl : ((latP n h1).fr ((latP n h1).nf (v.2 ++ [s]))).2.length ≤ v.2.length + 1 := by rw [← hf.1, List.length_drop]; omega
   have h11 := c_put_11 n h1 hn ((latP n h1).nf (v.2 ++ [s])) v.1 hp (by omega) (by omega)
   have h14 := c_put_14 n hn (v.1 + (((latP n h1).fr ((latP n h1).nf (v.2 ++ [s]))).1 : Nat)) _ ((latP n h1).fr ((latP n h1).nf (v.2 ++ [s]))).2 rfl (by omega)
   simp only [b__i_Dual__put, enc, c_finePart n hn, Option.bind_some, getTV_here, getTV_next, hb, cond_false, apOk1 (xs := sL v.2) (x := sA s) (by rw [sL_len]; omega), cond_true, sL_snoc, e1, h5, h11, h14]
   rfl
theorem c_l07Put_4 (n : Nat) (h1 : 1 ≤ n) (hn : n ≤ 8) (X : List (Pm n)) (hX : X.length < 1000000) (hS : (latP n h1).AllS X) (x0 x1 x3 x4 : Int) (x2 x5 : List (List Int)) : ∀ k, k < X.length →
  R is_l07Put_4 [tI x0, tI x1, tLA8 x2, tI x3, tI x4, tLA8 x5, tLA8 (sL (X.take k ++ (latP n h1).pass (X.drop k))), tI (n : Int), tI (k : Int)] = some [tI 0, tI x0, tI x1, tLA8 x2, tI x3, tI x4, tLA8 x5, tLA8 (sL ((latP n h1).pass X)), tI (n : Int)] := by
 intro k
 induction k with
 | zero =>
  intro _
  apply vs_l07Put_4
  simp [bs_l07Put_4]
 | succ k ih =>
  intro hk
  have hk' : k < X.length := by omega
  have hlen := (latP n h1).pass_len (l := X.drop (k + 1))
  have hd := pass_drop h1 hk'
  cases hp : (latP n h1).pass (X.drop (k + 1)) with
  | nil =>
   rw [hp] at hlen
   simp at hlen
   omega
  | cons b m =>
   rw [hp] at hd
   have hSk : isP X[k] := hS _ (List.getElem_mem hk')
   have hSb : isP b := by
    have h3 := Lat.pass_S (Γ := latP n h1) (l := X.drop (k + 1)) (fun x hx => hS x (List.mem_of_mem_drop hx))
    rw [hp] at h3
    exact h3 b List.mem_cons_self
   have hSK : isP (X[k]⁻¹ * whP n) := (latP n h1).S_K hSk
   obtain ⟨l1, l2, g1, g2⟩ := cur_get hk' b m
   have e1 : wi64 (((k + 1 : Nat) : Int) - 1) = (k : Int) := by rw [wrap_i64] <;> omega
   have len : (X.take (k + 1) ++ b :: m).length = X.length := by
    rw [hp] at hlen
    simp at hlen ⊢
    omega
   have gg1 := sL_get (n := n) l1
   have gg2 := sL_get (n := n) l2
   rw [g1] at gg1
   rw [g2] at gg2
   have hst : (latP n h1).pass (X.drop k) = (X[k] * meetP (X[k]⁻¹ * whP n) b) :: ((meetP (X[k]⁻¹ * whP n) b)⁻¹ * b) :: m := by
    rw [hd, Lat.step1, ← meetK h1]
   have ih' := ih (by omega)
   rw [hst] at ih'
   have e3 := cur_set hk' b (X[k] * meetP (X[k]⁻¹ * whP n) b) ((meetP (X[k]⁻¹ * whP n) b)⁻¹ * b) m
   have l3 : k + 1 < ((X.take (k + 1) ++ b :: m).set k (X[k] * meetP (X[k]⁻¹ * whP n) b)).length := by rw [List.length_set]; exact l2
   have gg3 := sL_get (n := n) l3
   have g3 : ((X.take (k + 1) ++ b :: m).set k (X[k] * meetP (X[k]⁻¹ * whP n) b))[k + 1] = b := by
    rw [List.getElem_set_ne (by omega), g2]
   rw [g3] at gg3
   apply vs_l07Put_4
   simp (disch := omega) only [bs_l07Put_4, decide_eq_true, cond_true, cond_false, Bool.and_true, Int.toNat_natCast, sL_len, List.length_set, len, gg1, gg2, e1, c_l07Complement n hn, c_l07MeetP n h1 hn hSK hSb, Option.bind_some, getTV_here, c_l07Then n hn, c_l07Back n hn, sL_set, gg3, e3]
   exact ih'
open Classical in
theorem c_l07Put_11 (n : Nat) (hn : n ≤ 8) (Y : List (Pm n)) (hY : Y.length < 1000000) (x0 x1 : Int) (x2 : List (List Int)) : ∀ (d i : Nat) (p : Int) (B : List (Pm n)), i + d = Y.length → -1000000000 ≤ p → p + d ≤ 2000000000 → B.length ≤ i →
  R is_l07Put_11 [tI x0, tI x1, tLA8 x2, tLA8 (sL Y), tI (n : Int), tI p, tLA8 (sL B), tI (n : Int), tI (i : Int)] = some [tI 0, tI x0, tI x1, tLA8 x2, tI (n : Int), tI (p + ((Y.drop i).countP (fun x => decide (x ≠ 1 ∧ x = whP n)) : Nat)), tLA8 (sL (B ++ (Y.drop i).filter (fun x => decide (x ≠ 1 ∧ x ≠ whP n))))] := by
 intro d
 induction d with
 | zero =>
  intro i p B hi _ _ _
  apply vs_l07Put_11
  rw [List.drop_of_length_le (by omega)]
  have h1 : ¬ ((i : Int) < (Y.length : Int)) := by omega
  simp only [bs_l07Put_11, sL_len, decide_eq_false h1, cond_false, List.countP_nil, List.filter_nil, List.append_nil, Int.natCast_zero, Int.add_zero]
 | succ d ih =>
  intro i p B hi hp hp' hB
  have h0 : i < Y.length := by omega
  have w : wi64 ((i : Int) + 1) = ((i + 1 : Nat) : Int) := by rw [wrap_i64] <;> omega
  have w2 : wi64 (p + 1) = p + 1 := by rw [wrap_i64] <;> omega
  have ap : apOk (sL B) [sA Y[i]] = true := apOk1 (by rw [sL_len]; omega)
  rw [List.drop_eq_getElem_cons h0]
  apply vs_l07Put_11
  simp (disch := omega) only [bs_l07Put_11, sL_len, decide_eq_true, cond_true, Bool.and_true, Int.toNat_natCast, sL_get h0, c_l07Fine n hn, c_l07Whole n hn, Option.bind_some, getTV_here, beq_sA hn, w, w2, ap, sL_snoc]
  by_cases e1 : Y[i] = 1
  · rw [decide_eq_true e1, cond_true, ih (i + 1) p B (by omega) hp (by omega) (by omega)]
    rw [List.countP_cons_of_neg (by simp [e1]), List.filter_cons_of_neg (by simp [e1])]
  · by_cases e2 : Y[i] = whP n
    · rw [decide_eq_false e1, cond_false, decide_eq_true e2, cond_true, ih (i + 1) (p + 1) B (by omega) (by omega) (by omega) (by omega)]
      rw [List.countP_cons_of_pos (p := fun x => decide (x ≠ 1 ∧ x = whP n)) (decide_eq_true ⟨e1, e2⟩), List.filter_cons_of_neg (by simp [e2])]
      rw [show p + 1 + ((List.countP (fun x => decide (x ≠ 1 ∧ x = whP n)) (List.drop (i + 1) Y) : Nat) : Int) = p + ((List.countP (fun x => decide (x ≠ 1 ∧ x = whP n)) (List.drop (i + 1) Y) + 1 : Nat) : Int) by omega]
    · rw [decide_eq_false e1, cond_false, decide_eq_false e2, cond_false, ih (i + 1) p (B ++ [Y[i]]) (by omega) hp (by omega) (by simp; omega)]
      rw [List.countP_cons_of_neg (by simp [e2]), List.filter_cons_of_pos (p := fun x => decide (x ≠ 1 ∧ x ≠ whP n)) (decide_eq_true ⟨e1, e2⟩), List.append_assoc]
      rfl
open Classical in
theorem pickP {n : Nat} (h2 : 2 ≤ n) (h1 : 1 ≤ n) {i j : Nat} {A : List (Pm n)} (hP : (latP n h1).Proper A) : (((latP n h1).Ds i ++ A ++ Lat.ones j).countP (fun x => decide (x ≠ 1 ∧ x = whP n))) = i ∧ (((latP n h1).Ds i ++ A ++ Lat.ones j).filter (fun x => decide (x ≠ 1 ∧ x ≠ whP n))) = A := by
 have hD : whP n ≠ 1 := whP_ne h2
 have c1 : ((latP n h1).Ds i).countP (fun x => decide (x ≠ 1 ∧ x = whP n)) = i := by
  show (List.replicate i (whP n)).countP _ = i
  rw [List.countP_replicate, if_pos (decide_eq_true ⟨hD, rfl⟩)]
 have c2 : A.countP (fun x => decide (x ≠ 1 ∧ x = whP n)) = 0 := by
  rw [List.countP_eq_zero]
  intro x hx h
  exact (hP.no x hx).1 (of_decide_eq_true h).2
 have c3 : (Lat.ones j : List (Pm n)).countP (fun x => decide (x ≠ 1 ∧ x = whP n)) = 0 := by
  rw [List.countP_eq_zero]
  intro x hx h
  exact (of_decide_eq_true h).1 (List.eq_of_mem_replicate hx)
 have f1 : ((latP n h1).Ds i).filter (fun x => decide (x ≠ 1 ∧ x ≠ whP n)) = [] := by
  rw [List.filter_eq_nil_iff]
  intro x hx h
  exact (of_decide_eq_true h).2 (List.eq_of_mem_replicate hx)
 have f2 : A.filter (fun x => decide (x ≠ 1 ∧ x ≠ whP n)) = A := by
  rw [List.filter_eq_self]
  intro x hx
  exact decide_eq_true ⟨(hP.no x hx).2, (hP.no x hx).1⟩
 have f3 : (Lat.ones j : List (Pm n)).filter (fun x => decide (x ≠ 1 ∧ x ≠ whP n)) = [] := by
  rw [List.filter_eq_nil_iff]
  intro x hx h
  exact (of_decide_eq_true h).1 (List.eq_of_mem_replicate hx)
 rw [List.countP_append, List.countP_append, List.filter_append, List.filter_append, c1, c2, c3, f1, f2, f3]
 simp
theorem c_l07Put (n : Nat) (h2 : 2 ≤ n) (h1 : 1 ≤ n) (hn : n ≤ 8) (v : Nm n) (s : Pm n) (hs : isP s) (hP : (latP n h1).Proper v.2) (hl : v.2.length < 900000) (hp : -1000000000 ≤ v.1) (hp' : v.1 ≤ 1000000000) :
  R is_l07Put [tPIPILA8 (enc v), tA8 (sA s)] = some [tPIPILA8 (enc (mk h1 v.1 (v.2 ++ [s])))] := by
 have hS := snoc_S (h1 := h1) hP.S hs
 have h4 := c_l07Put_4 n h1 hn (v.2 ++ [s]) (by simp; omega) hS (n : Int) v.1 0 0 (sL v.2) [] v.2.length (by simp)
 have e0 : (v.2 ++ [s]).take v.2.length ++ (latP n h1).pass ((v.2 ++ [s]).drop v.2.length) = v.2 ++ [s] := by simp [Lat.pass, Lat.step1]
 rw [e0, Lat.pass_nf hP.S hs hP.W] at h4
 have hnl := (latP n h1).nf_len (l := v.2 ++ [s])
 have hlA : (v.2 ++ [s]).length = v.2.length + 1 := by simp
 have h11 := c_l07Put_11 n hn ((latP n h1).nf (v.2 ++ [s])) (by omega) 0 0 [] ((latP n h1).nf (v.2 ++ [s])).length 0 v.1 [] (by omega) hp (by omega) (by simp)
 rw [List.drop_zero, List.nil_append] at h11
 obtain ⟨j, e, hP', _⟩ := Lat.norm_spec (whP_ne h2) hS
 obtain ⟨k1, k2⟩ := pickP h2 h1 (i := ((latP n h1).norm (v.2 ++ [s])).1) (j := j) hP'
 rw [← e] at k1 k2
 rw [k1, k2] at h11
 have e1 : wi64 (((sL (v.2 ++ [s])).length : Nat) - 1) = (v.2.length : Int) := by
  rw [sL_len, List.length_append, List.length_cons, List.length_nil, wrap_i64] <;> omega
 apply vs_l07Put
 simp only [sL_nil, Int.natCast_zero] at h11
 simp only [bs_l07Put, enc, apOk0 (ys := sL v.2) (by rw [sL_len]; omega), apOk1 (xs := sL v.2) (x := sA s) (by rw [sL_len]; omega), cond_true, sL_snoc, e1, h4, Option.bind_some, getTV_here, getTV_next, h11]
 rfl
end Go.Ev.Yteclcmiopobnaaa.P
namespace Go.Ev.Yteclcmiopobnaaa.P
open Go.Ev.Yteclcmiopobnaaa
open Go.Ev Go.Gar
def pr (n x : Nat) : Nat := if x = 0 then n - 1 else x - 1
theorem pr_lt {n x : Nat} (h : x < n) : pr n x < n := by
 unfold pr
 split <;> omega
theorem sc_pr {n x : Nat} (h : x < n) : sc n (pr n x) = x := by
 unfold sc pr
 split
 · rw [if_pos (by omega)]; omega
 · rw [if_neg (by omega)]; omega
theorem pr_iff {n x y : Nat} (hx : x < n) (hy : y < n) : y = pr n x ↔ sc n y = x := by
 unfold sc pr
 constructor
 · intro h
   split at h <;> split <;> omega
 · intro h
   split at h <;> split <;> omega
theorem whP_g {n x : Nat} (h : x < n) : (whP n).g x = pr n x := by
 have e := whP_f (pr_lt h)
 rw [sc_pr h] at e
 have := (whP n).gf (pr n x)
 rw [e] at this
 exact this
noncomputable def T {n : Nat} (s : Pm n) : Pm n := whP n * (s * (whP n)⁻¹)
theorem T_f {n : Nat} (s : Pm n) {y : Nat} (h : y < n) : (T s).f y = pr n (s.f (sc n y)) := by
 show (whP n).g (s.f ((whP n).f y)) = _
 rw [whP_f h, whP_g (s.lt (sc_lt h))]
theorem unT {n : Nat} (a : Pm n) : (whP n)⁻¹ * (T a * whP n) = a := by
 unfold T
 simp only [Grp.assoc, Grp.inv_mul, Grp.mul_one]
 rw [inv_mul_l]
theorem leP_T {n : Nat} {a b : Pm n} (l : leP a b) : leP (T a) (T b) := by
 apply leP_conj (whP n)
 rw [unT, unT]
 exact l
theorem leP_unT {n : Nat} {a b : Pm n} (l : leP (T a) (T b)) : leP a b := by
 apply leP_conj (whP n)⁻¹
 rw [inv_inv]
 exact l
theorem T_auto (n : Nat) (h1 : 1 ≤ n) : (latP n h1).Auto (fun s : Pm n => T s) where
 mul x y := by
  unfold T
  simp only [Grp.assoc, inv_mul_l]
 inv x := by
  unfold T
  simp only [mul_inv_rev, inv_inv, Grp.assoc]
 S _ h := isP_unrot h1 h
 meet x y hx hy := by
  have hm : isP (meetP x y) := (latP n h1).S_meet hx hy
  have hTx : isP (T x) := isP_unrot h1 hx
  have hTy : isP (T y) := isP_unrot h1 hy
  have hM : isP (meetP (T x) (T y)) := (latP n h1).S_meet hTx hTy
  show T (meetP x y) = meetP (T x) (T y)
  have hU : isP ((whP n)⁻¹ * (meetP (T x) (T y) * whP n)) := isP_rot hM
  have eU : T ((whP n)⁻¹ * (meetP (T x) (T y) * whP n)) = meetP (T x) (T y) := by
   unfold T
   simp only [Grp.assoc, Grp.mul_inv, Grp.mul_one, mul_inv_l]
  apply (latP n h1).anti (isP_unrot h1 hm) hM
  · exact (latP n h1).le_meet hTx hTy (isP_unrot h1 hm) (leP_T ((latP n h1).meet_l hx hy)) (leP_T ((latP n h1).meet_r hx hy))
  · have l1 : leP ((whP n)⁻¹ * (meetP (T x) (T y) * whP n)) x := by
     apply leP_unT
     rw [eU]
     exact (latP n h1).meet_l hTx hTy
    have l2 : leP ((whP n)⁻¹ * (meetP (T x) (T y) * whP n)) y := by
     apply leP_unT
     rw [eU]
     exact (latP n h1).meet_r hTx hTy
    have l3 := leP_T ((latP n h1).le_meet hx hy hU l1 l2)
    rw [eU] at l3
    exact l3
 D := by
  show T (whP n) = whP n
  unfold T
  rw [Grp.mul_inv, Grp.mul_one]
 inj x y h := by
  have := congrArg (fun z : Pm n => (whP n)⁻¹ * (z * whP n)) h
  simp only [unT] at this
  exact this
theorem turnm {n i : Nat} (hi : i < n) (hn : n ≤ 8) : Int.tmod (wi64 (Int.tmod (wi64 ((i : Int) + -1)) (n : Int) + (n : Int))) (n : Int) = ((pr n i : Nat) : Int) := by
 unfold pr
 by_cases h : i = 0
 · subst h
   rw [if_pos rfl]
   have e : wi64 (((0 : Nat) : Int) + -1) = -1 := by decide
   have e2 : Int.tmod (-1) (n : Int) = -((1 % n : Nat) : Int) := by rw [Int.neg_tmod]; rfl
   rw [e, e2]
   by_cases h1 : n = 1
   · subst h1; decide
   · have e3 : 1 % n = 1 := Nat.mod_eq_of_lt (by omega)
     have e4 : wi64 (-((1 : Nat) : Int) + (n : Int)) = ((n - 1 : Nat) : Int) := by rw [wrap_i64] <;> omega
     rw [e3, e4, tmn, Nat.mod_eq_of_lt (by omega)]
 · rw [if_neg h]
   have e : wi64 ((i : Int) + -1) = ((i - 1 : Nat) : Int) := by rw [wrap_i64] <;> omega
   have e4 : wi64 (((i - 1 : Nat) : Int) + (n : Int)) = ((i - 1 + n : Nat) : Int) := by rw [wrap_i64] <;> omega
   rw [e, tmn, Nat.mod_eq_of_lt (show i - 1 < n by omega), e4, tmn, Nat.add_mod_right, Nat.mod_eq_of_lt (by omega)]
theorem turnm' {n i : Nat} (hi : i < n) (hn : n ≤ 8) : Int.tmod (wi64 ((i : Int) + ((n - 1 : Nat) : Int))) (n : Int) = ((pr n i : Nat) : Int) := by
 unfold pr
 have e : wi64 ((i : Int) + ((n - 1 : Nat) : Int)) = ((i + (n - 1) : Nat) : Int) := by rw [wrap_i64] <;> omega
 rw [e, tmn]
 by_cases h : i = 0
 · rw [if_pos h, h, Nat.zero_add, Nat.mod_eq_of_lt (by omega)]
 · rw [if_neg h, show i + (n - 1) = i - 1 + n by omega, Nat.add_mod_right, Nat.mod_eq_of_lt (by omega)]
theorem tm_step {n : Nat} (f : Nat → Nat) {i : Nat} (hi : i < n) : A8 n (fun y => if y = pr n i then pr n (f i) else if sc n y < i then pr n (f (sc n y)) else 0) = A8 n (fun y => if sc n y < i + 1 then pr n (f (sc n y)) else 0) := by
 apply A8_congr
 intro y hy
 by_cases h : y = pr n i
 · have e := (pr_iff hi hy).1 h
   rw [if_pos h, if_pos (by omega), e]
 · have e : sc n y ≠ i := fun h2 => h ((pr_iff hi hy).2 h2)
   rw [if_neg h]
   by_cases h2 : sc n y < i
   · rw [if_pos h2, if_pos (by omega)]
   · rw [if_neg h2, if_neg (by omega)]
theorem tm_end {n : Nat} (s : Pm n) : A8 n (fun y => if sc n y < n then pr n (s.f (sc n y)) else 0) = sA (T s) := by
 apply A8_congr
 intro y hy
 rw [if_pos (sc_lt hy), T_f s hy]
theorem tm_zero (n : Nat) (f : Nat → Nat) : A8 n (fun y => if sc n y < 0 then pr n (f (sc n y)) else 0) = List.replicate 8 0 := by
 rw [A8_zero n]
 apply A8_congr
 intro y _
 rw [if_neg (by omega)]
theorem c_l07TurnM (n : Nat) (hn : n ≤ 8) (s : Pm n) : R is_l07Turn [tA8 (sA s), tI (n : Int), tI (-1)] = some [tA8 (sA (T s))] := by
 have h3 : ∀ i, i ≤ n → R is_l07Turn_3 [tA8 (sA s), tA8 (List.replicate 8 0), tA8 (A8 n (fun y => if sc n y < i then pr n (s.f (sc n y)) else 0)), tI (n : Int), tI (-1), tI (i : Int)] = some [tI 0, tA8 (List.replicate 8 0), tA8 (sA (T s))] := by
  refine up_loop _ ?_ (fun i hi ih => ?_)
  · apply vs_l07Turn_3
    have h1 : ¬ ((n : Int) < (n : Int)) := by omega
    simp only [bs_l07Turn_3, decide_eq_false h1, cond_false, tm_end]
  · apply vs_l07Turn_3
    have h1 := pr_lt hi
    have h3 := s.lt hi
    have h2 := pr_lt h3
    have h0 : ¬ (n : Int) = 0 := by omega
    have w8 : wu8 ((pr n (s.f i) : Nat) : Int) = ((pr n (s.f i) : Nat) : Int) := by rw [wrap_u8] <;> omega
    have w : wi64 ((i : Int) + 1) = ((i + 1 : Nat) : Int) := by rw [wrap_i64] <;> omega
    have w2 : wi64 ((s.f i : Nat) : Int) = ((s.f i : Nat) : Int) := by rw [wrap_i64] <;> omega
    have v1 : decide ((0 : Int) ≤ ((pr n i : Nat) : Int)) = true := decide_eq_true (by omega)
    have v2 : decide (((pr n i : Nat) : Int) < 8) = true := decide_eq_true (by omega)
    have v3 : decide ((i : Int) < (n : Int)) = true := decide_eq_true (by omega)
    have v4 : decide ((0 : Int) ≤ (i : Int)) = true := decide_eq_true (by omega)
    have v5 : decide ((i : Int) < 8) = true := decide_eq_true (by omega)
    simp only [bs_l07Turn_3, turnm hi hn, v1, v2, v3, v4, v5, cond_true, Bool.and_true, Int.toNat_natCast, bne_dec, decide_eq_false h0, Bool.not_false, sA_get hi hn, w2, turnm h3 hn, w8, A8_set h1 hn, tm_step s.f hi]
    rw [w]
    exact ih
 have h := h3 0 (Nat.zero_le _)
 rw [tm_zero] at h
 simp only [Int.natCast_zero] at h
 apply vs_l07Turn
 simp only [bs_l07Turn, h, Option.bind_some, getTV_here, getTV_next]
theorem c_turnPartM (n : Nat) (hn0 : 1 ≤ n) (hn : n ≤ 8) (s : Pm n) : R ii_turnPart [tA8 (sA s), tI (n : Int), tI (-1)] = some [tA8 (sA (T s))] := by
 have h3 : ∀ i, i ≤ n → R ii_turnPart_4 [tA8 (sA s), tA8 (List.replicate 8 0), tA8 (A8 n (fun y => if sc n y < i then pr n (s.f (sc n y)) else 0)), tI (n : Int), tI ((n - 1 : Nat) : Int), tI (n : Int), tI (i : Int)] = some [tI 0, tA8 (List.replicate 8 0), tA8 (sA (T s))] := by
  refine up_loop _ ?_ (fun i hi ih => ?_)
  · apply vi_turnPart_4
    have h1 : ¬ ((n : Int) < (n : Int)) := by omega
    simp only [bi_turnPart_4, decide_eq_false h1, cond_false, tm_end]
  · apply vi_turnPart_4
    have h1 := pr_lt hi
    have h3 := s.lt hi
    have h2 := pr_lt h3
    have h0 : ¬ (n : Int) = 0 := by omega
    have w8 : wu8 ((pr n (s.f i) : Nat) : Int) = ((pr n (s.f i) : Nat) : Int) := by rw [wrap_u8] <;> omega
    have w : wi64 ((i : Int) + 1) = ((i + 1 : Nat) : Int) := by rw [wrap_i64] <;> omega
    have w2 : wi64 ((s.f i : Nat) : Int) = ((s.f i : Nat) : Int) := by rw [wrap_i64] <;> omega
    have v1 : decide ((0 : Int) ≤ ((pr n i : Nat) : Int)) = true := decide_eq_true (by omega)
    have v2 : decide (((pr n i : Nat) : Int) < 8) = true := decide_eq_true (by omega)
    have v3 : decide ((i : Int) < (n : Int)) = true := decide_eq_true (by omega)
    have v4 : decide ((0 : Int) ≤ (i : Int)) = true := decide_eq_true (by omega)
    have v5 : decide ((i : Int) < 8) = true := decide_eq_true (by omega)
    simp only [bi_turnPart_4, turnm' hi hn, v1, v2, v3, v4, v5, cond_true, Bool.and_true, Int.toNat_natCast, bne_dec, decide_eq_false h0, Bool.not_false, sA_get hi hn, w2, turnm' h3 hn, w8, A8_set h1 hn, tm_step s.f hi]
    rw [w]
    exact ih
 have h := h3 0 (Nat.zero_le _)
 rw [tm_zero] at h
 simp only [Int.natCast_zero] at h
 have h0 : ¬ (n : Int) = 0 := by omega
 have hm : Int.tmod (wi64 (Int.tmod (-1) (n : Int) + (n : Int))) (n : Int) = ((n - 1 : Nat) : Int) := by
  have := turnm (show 0 < n by omega) hn
  have e : wi64 (((0 : Nat) : Int) + -1) = -1 := by decide
  rw [e] at this
  exact this
 apply vi_turnPart
 simp only [bi_turnPart, bne_dec, decide_eq_false h0, Bool.not_false, cond_true, hm, h, Option.bind_some, getTV_here, getTV_next]
theorem isP_swap {n p : Nat} (h : p + 1 < n) : isP (Pm.swap n p h) := by
 refine ⟨fun x => if x = p + 1 then p else x, fun x hx => ?_, ?_, fun x hx => ?_⟩
 · by_cases h1 : x = p + 1
   · rw [if_pos h1, if_neg (by omega)]
     exact ⟨by omega, rfl⟩
   · rw [if_neg h1, if_neg h1]
     exact ⟨Nat.le_refl _, rfl⟩
 · rw [Bool.eq_false_iff]
   intro hc
   obtain ⟨a, b, c, y, h1, h2, h3, h4, e1, e2, e3⟩ := (crs_iff n _).1 hc
   simp only at e1
   split at e1 <;> split at e1 <;> omega
 · show Pm.sf p x = _
   unfold Pm.sf
   rcases mdf_spec (g := fun x => if x = p + 1 then p else x) hx with ⟨k, k1, k2, k3, k4, k5⟩ | ⟨k1, k2⟩
   · rw [k5]
     have k3' : (if k = p + 1 then p else k) = (if x = p + 1 then p else x) := k3
     split at k3' <;> split at k3' <;> split <;> (try split) <;> omega
   · rw [k2]
     show (if x = p then p + 1 else if x = p + 1 then p else x) = if x = p + 1 then p else x
     by_cases h1 : x = p
     · have h2 : (if p + 1 = p + 1 then p else p + 1) ≠ (if x = p + 1 then p else x) := k1 (p + 1) (by omega) h
       rw [if_pos rfl, if_neg (by omega)] at h2
       exact (h2 h1.symm).elim
     · rw [if_neg h1]
end Go.Ev.Yteclcmiopobnaaa.P
namespace Go.Ev.Yteclcmiopobnaaa.P
open Go.Ev.Yteclcmiopobnaaa
open Go.Ev Go.Gar
def swapN (n p : Nat) : Pm n := if h : p + 1 < n then Pm.swap n p h else 1
theorem swapN_eq {n p : Nat} (h : p + 1 < n) : swapN n p = Pm.swap n p h := dif_pos h
noncomputable def stepD {n : Nat} (h1 : 1 ≤ n) (v : Nm n) (x : Int) : Nm n :=
 if 0 < x then mk h1 v.1 (v.2 ++ [swapN n (x.natAbs - 1)]) else mk h1 (v.1 - 1) (v.2.map T ++ [whP n * (swapN n (x.natAbs - 1))⁻¹])
noncomputable def dOf (n : Nat) (h1 : 1 ≤ n) (w : List Int) : Nm n := w.foldl (stepD h1) (0, [])
structure OkD {n : Nat} (h1 : 1 ≤ n) (v : Nm n) (j : Nat) : Prop where
 P : (latP n h1).Proper v.2
 lo : -(j : Int) ≤ v.1
 hi : v.1 + v.2.length ≤ j
 len : v.2.length ≤ j
def Lw (n : Nat) (w : List Int) : Prop := ∀ x ∈ w, x ≠ 0 ∧ 1 - (n : Int) ≤ x ∧ x ≤ (n : Int) - 1
theorem turned_P {n : Nat} {h1 : 1 ≤ n} {A : List (Pm n)} (h : (latP n h1).Proper A) : (latP n h1).Proper (A.map T) := (T_auto n h1).Proper h
theorem stepD_ok {n : Nat} (h2 : 2 ≤ n) {h1 : 1 ≤ n} {v : Nm n} {j : Nat} (h : OkD h1 v j) {x : Int} (hx : x ≠ 0 ∧ 1 - (n : Int) ≤ x ∧ x ≤ (n : Int) - 1) : OkD h1 (stepD h1 v x) (j + 1) := by
 have a1 := h.lo
 have a2 := h.hi
 have a3 := h.len
 have hp : x.natAbs - 1 + 1 < n := by omega
 have hs : isP (swapN n (x.natAbs - 1)) := by rw [swapN_eq hp]; exact isP_swap hp
 unfold stepD
 split
 · have hm := mk_spec h2 h1 v.1 (snoc_S h.P.S hs)
   simp only [List.length_append, List.length_cons, List.length_nil] at hm
   exact ⟨hm.1, by omega, by omega, by omega⟩
 · have hm := mk_spec h2 h1 (v.1 - 1) (snoc_S (turned_P h.P).S (isP_left h1 hs))
   simp only [List.length_append, List.length_cons, List.length_nil, List.length_map] at hm
   exact ⟨hm.1, by omega, by omega, by omega⟩
theorem OkD.zero {n : Nat} (h1 : 1 ≤ n) : OkD h1 ((0, []) : Nm n) 0 := ⟨Lat.Proper.nil, by simp, by simp, by simp⟩
theorem fold_ok {n : Nat} (h2 : 2 ≤ n) {h1 : 1 ≤ n} : ∀ (l : List Int) {v : Nm n} {j : Nat}, Lw n l → OkD h1 v j → OkD h1 (l.foldl (stepD h1) v) (j + l.length)
 | [], v, j, _, h => h
 | x :: l, v, j, hl, h => by
  have := fold_ok h2 l (fun y hy => hl y (List.mem_cons_of_mem _ hy)) (stepD_ok h2 h (hl x List.mem_cons_self))
  rw [List.foldl_cons, List.length_cons, show j + (l.length + 1) = j + 1 + l.length by omega]
  exact this
theorem swap_arr {n p : Nat} (h : p + 1 < n) (hn : n ≤ 8) : List.set (List.set (sA (1 : Pm n)) p (((p + 1 : Nat) : Int))) (p + 1) ((p : Nat) : Int) = sA (Pm.swap n p h) := by
 have e1 : List.set (sA (1 : Pm n)) p (((p + 1 : Nat) : Int)) = A8 n (fun x => if x = p then p + 1 else x) := A8_set (show p < n by omega) hn
 rw [e1, A8_set h hn]
 apply A8_congr
 intro x _
 show _ = Pm.sf p x
 unfold Pm.sf
 by_cases h1 : x = p + 1
 · rw [if_pos h1, if_neg (by omega), if_pos h1]
 · rw [if_neg h1]
   by_cases h2 : x = p
   · rw [if_pos h2, if_pos h2]
   · rw [if_neg h2, if_neg h2, if_neg h1]
theorem c_nothing (n : Nat) (hn : n ≤ 8) : R ii_nothing [tI (n : Int)] = some [tA8 (sA (1 : Pm n))] := by
 have h := c_nothing_3 n hn (List.replicate 8 0) 0 (Nat.zero_le _)
 rw [one_zero] at h
 simp only [Int.natCast_zero] at h
 apply vi_nothing
 simp only [bi_nothing, h, Option.bind_some, getTV_here, getTV_next]
theorem c_exchange (n p : Nat) (h : p + 1 < n) (hn : n ≤ 8) : R ii_exchange [tI ((p + 1 : Nat) : Int), tI (n : Int)] = some [tA8 (sA (Pm.swap n p h))] := by
 have w : wi64 (((p + 1 : Nat) : Int) - 1) = (p : Int) := by rw [wrap_i64] <;> omega
 have g1 : List.getD (sA (1 : Pm n)) (p + 1) 0 = ((p + 1 : Nat) : Int) := sA_get h hn
 have g2 : List.getD (sA (1 : Pm n)) p 0 = ((p : Nat) : Int) := sA_get (by omega) hn
 have v1 : decide ((0 : Int) ≤ ((p + 1 : Nat) : Int)) = true := decide_eq_true (by omega)
 have v2 : decide (((p + 1 : Nat) : Int) < 8) = true := decide_eq_true (by omega)
 have v3 : decide ((0 : Int) ≤ (p : Int)) = true := decide_eq_true (by omega)
 have v4 : decide ((p : Int) < 8) = true := decide_eq_true (by omega)
 apply vi_exchange
 simp only [bi_exchange, c_nothing n hn, Option.bind_some, getTV_here, v1, v2, v3, v4, w, Bool.and_true, cond_true, Int.toNat_natCast, g1, g2, swap_arr h hn]
theorem c_size (x : Int) (h1 : -1000 ≤ x) (h2 : x ≤ 1000) : R ii_size [tI x] = some [tI (x.natAbs : Int)] := by
 apply vi_size
 have e0 : mx x (0 - x) = (x.natAbs : Int) := by
  unfold mx
  split <;> omega
 simp only [bi_size]
 rw [wrap_i64 (by omega) (by omega), e0]
theorem tl_step {n : Nat} (A : List (Pm n)) {k : Nat} (hk : k < A.length) : ((A.take k).map T ++ A.drop k).set k (T A[k]) = (A.take (k + 1)).map T ++ A.drop (k + 1) := by
 have hl : ((A.take k).map T).length = k := by simp; omega
 rw [List.drop_eq_getElem_cons hk, List.set_append_right _ _ (by omega), hl, Nat.sub_self, List.set_cons_zero]
 have e : A.take (k + 1) = A.take k ++ [A[k]] := take_snoc hk
 rw [e, List.map_append, List.append_assoc]
 rfl
theorem tl_get {n : Nat} (A : List (Pm n)) {k : Nat} (hk : k < A.length) : List.getD (sL ((A.take k).map T ++ A.drop k)) k (List.replicate 8 0) = sA A[k] := by
 have hl : ((A.take k).map T).length = k := by simp; omega
 have h2 : k < ((A.take k).map T ++ A.drop k).length := by simp; omega
 rw [sL_get h2]
 congr 1
 rw [List.getElem_eq_iff, List.getElem?_append_right (by omega), hl, Nat.sub_self, List.getElem?_drop, Nat.add_zero, List.getElem?_eq_getElem hk]
theorem tl_len {n : Nat} (A : List (Pm n)) (k : Nat) : ((A.take k).map T ++ A.drop k).length = A.length := by simp; omega
theorem c_l07Form_11 (n : Nat) (hn : n ≤ 8) (A : List (Pm n)) (hA : A.length < 1000000) (x0 : List Int) (x1 x2 x4 x5 x9 : Int) (x3 : List (List Int)) (x7 : List Int) : ∀ k, k ≤ A.length →
  R is_l07Form_11 [tLI x0, tI x1, tI x2, tLA8 x3, tI x4, tI x5, tLA8 (sL ((A.take k).map T ++ A.drop k)), tA8 x7, tI (n : Int), tI x9, tI (k : Int)] = some [tI 0, tLI x0, tI x1, tI x2, tLA8 x3, tI x4, tI x5, tLA8 (sL (A.map T)), tA8 x7, tI (n : Int), tI x9] := by
 refine up_loop _ ?_ (fun k hk ih => ?_)
 · apply vs_l07Form_11
   have h1 : ¬ ((A.length : Int) < (A.length : Int)) := by omega
   simp only [bs_l07Form_11, sL_len, List.take_length, List.drop_length, List.append_nil, List.length_map, decide_eq_false h1, cond_false]
 · apply vs_l07Form_11
   have v1 : decide ((k : Int) < (A.length : Int)) = true := decide_eq_true (by omega)
   have v2 : decide ((0 : Int) ≤ (k : Int)) = true := decide_eq_true (by omega)
   have w : wi64 ((k : Int) + 1) = ((k + 1 : Nat) : Int) := by rw [wrap_i64] <;> omega
   simp only [bs_l07Form_11, sL_len, tl_len, v1, v2, cond_true, Bool.and_true, Int.toNat_natCast, tl_get A hk, c_l07TurnM n hn, Option.bind_some, getTV_here, sL_set, tl_step A hk, w, ih]
theorem c_putInverse_4 (n : Nat) (h1 : 1 ≤ n) (hn : n ≤ 8) (A : List (Pm n)) (hA : A.length < 1000000) (x0 x1 : Int) (x3 : List Int) : ∀ k, k ≤ A.length →
  R i__i_Dual__putInverse_4 [tI x0, tI x1, tLA8 (sL ((A.take k).map T ++ A.drop k)), tA8 x3, tI (n : Int), tI (A.length : Int), tI (k : Int)] = some [tI 0, tI x0, tI x1, tLA8 (sL (A.map T)), tA8 x3, tI (n : Int)] := by
 refine up_loop _ ?_ (fun k hk ih => ?_)
 · apply v__i_Dual__putInverse_4
   have h1 : ¬ ((A.length : Int) < (A.length : Int)) := by omega
   simp only [b__i_Dual__putInverse_4, decide_eq_false h1, cond_false, List.take_length, List.drop_length, List.append_nil]
 · apply v__i_Dual__putInverse_4
   have v1 : decide ((k : Int) < (A.length : Int)) = true := decide_eq_true (by omega)
   have v2 : decide ((0 : Int) ≤ (k : Int)) = true := decide_eq_true (by omega)
   have w : wi64 ((k : Int) + 1) = ((k + 1 : Nat) : Int) := by rw [wrap_i64] <;> omega
   simp only [b__i_Dual__putInverse_4, sL_len, tl_len, v1, v2, cond_true, Bool.and_true, Int.toNat_natCast, tl_get A hk, c_turnPartM n h1 hn, Option.bind_some, getTV_here, sL_set, tl_step A hk, w, ih]
theorem c_putInverse (n : Nat) (h2 : 2 ≤ n) (h1 : 1 ≤ n) (hn : n ≤ 8) (v : Nm n) (s : Pm n) (hs : isP s) (hP : (latP n h1).Proper v.2) (hl : v.2.length < 900000) (hp : -900000000 ≤ v.1) (hp' : v.1 ≤ 900000000) :
  R i__i_Dual__putInverse [tPIPILA8 (enc v), tA8 (sA s)] = some [tPIPILA8 (enc (mk h1 (v.1 - 1) (v.2.map T ++ [whP n * s⁻¹])))] := by
 have h4 := c_putInverse_4 n h1 hn v.2 (by omega) (n : Int) (v.1 - 1) (sA s) 0 (Nat.zero_le _)
 rw [List.take_zero, List.map_nil, List.nil_append, List.drop_zero] at h4
 have hput := c_putP n h2 h1 hn (v.1 - 1, v.2.map T) (whP n * s⁻¹) (isP_left h1 hs) (turned_P hP) (by simp only [List.length_map]; omega) (by simp only; omega) (by simp only; omega)
 have w : wi64 (v.1 - 1) = v.1 - 1 := by rw [wrap_i64] <;> omega
 simp only [Int.natCast_zero] at h4
 simp only [enc] at hput ⊢
 apply v__i_Dual__putInverse
 simp only [b__i_Dual__putInverse, w, sL_len, h4, Option.bind_some, getTV_here, getTV_next, c_wholePart n hn, c_backPart n hn, c_thenPart n hn, hput]
theorem c_dualOf_3 (n : Nat) (h2 : 2 ≤ n) (h1 : 1 ≤ n) (hn : n ≤ 8) (w : List Int) (hw : Lw n w) (hl : w.length ≤ 200) (x2 x3 : Int) (x4 : List (List Int)) : ∀ (d i : Nat) (v : Nm n), i + d = w.length → OkD h1 v i →
  R ii_dualOf_3 [tI (n : Int), tLI w, tI x2, tI x3, tLA8 x4, tI (n : Int), tI v.1, tLA8 (sL v.2), tI (w.length : Int), tI (i : Int)] =
   some [tI 0, tI x2, tI x3, tLA8 x4, tI (n : Int), tI ((w.drop i).foldl (stepD h1) v).1, tLA8 (sL ((w.drop i).foldl (stepD h1) v).2)] := by
 intro d
 induction d with
 | zero =>
  intro i v hi hv
  apply vi_dualOf_3
  have h1 : ¬ ((i : Int) < (w.length : Int)) := by omega
  rw [List.drop_of_length_le (by omega)]
  simp only [bi_dualOf_3, decide_eq_false h1, cond_false, List.foldl_nil]
 | succ d ih =>
  intro i v hi hv
  have h0 : i < w.length := by omega
  have a1 := hv.lo
  have a2 := hv.hi
  have a3 := hv.len
  have hx := hw _ (List.getElem_mem h0)
  have b1 := hx.1
  have b2 := hx.2.1
  have b3 := hx.2.2
  have hp : w[i].natAbs - 1 + 1 < n := by omega
  have ih' := ih (i + 1) (stepD h1 v w[i]) (by omega) (stepD_ok h2 hv hx)
  have hz := c_size w[i] (by omega) (by omega)
  have ez : ((w[i].natAbs : Nat) : Int) = ((w[i].natAbs - 1 + 1 : Nat) : Int) := by omega
  have he := c_exchange n (w[i].natAbs - 1) hp hn
  rw [← ez] at he
  apply vi_dualOf_3
  rw [List.drop_eq_getElem_cons h0, List.foldl_cons]
  simp (disch := omega) only [bi_dualOf_3, decide_eq_true, cond_true, Bool.and_true, Int.toNat_natCast, getD_at h0, hz, he, Option.bind_some, getTV_here, wrap_i64]
  by_cases h : 0 < w[i]
  · have hput := c_putP n h2 h1 hn v (Pm.swap n _ hp) (isP_swap hp) hv.P (by omega) (by omega) (by omega)
    have es : stepD h1 v w[i] = mk h1 v.1 (v.2 ++ [Pm.swap n _ hp]) := by rw [stepD, if_pos h, swapN_eq hp]
    rw [es] at ih' ⊢
    simp only [enc] at hput
    simp only [decide_eq_true h, cond_true, hput, Option.bind_some, getTV_here]
    exact ih'
  · have hput := c_putInverse n h2 h1 hn v (Pm.swap n _ hp) (isP_swap hp) hv.P (by omega) (by omega) (by omega)
    have es : stepD h1 v w[i] = mk h1 (v.1 - 1) (v.2.map T ++ [whP n * (Pm.swap n _ hp)⁻¹]) := by rw [stepD, if_neg h, swapN_eq hp]
    rw [es] at ih' ⊢
    simp only [enc] at hput
    simp only [decide_eq_false h, cond_false, hput, Option.bind_some, getTV_here]
    exact ih'
theorem c_l07Form_3 (n : Nat) (h2 : 2 ≤ n) (h1 : 1 ≤ n) (hn : n ≤ 8) (w : List Int) (hw : Lw n w) (hl : w.length ≤ 200) (x1 x2 : Int) (x3 : List (List Int)) : ∀ (d i : Nat) (v : Nm n), i + d = w.length → OkD h1 v i →
  R is_l07Form_3 [tLI w, tI x1, tI x2, tLA8 x3, tI (n : Int), tI v.1, tLA8 (sL v.2), tI (n : Int), tI (i : Int)] =
   some [tI 0, tI x1, tI x2, tLA8 x3, tI (n : Int), tI ((w.drop i).foldl (stepD h1) v).1, tLA8 (sL ((w.drop i).foldl (stepD h1) v).2)] := by
 intro d
 induction d with
 | zero =>
  intro i v hi hv
  apply vs_l07Form_3
  have h1 : ¬ ((i : Int) < (w.length : Int)) := by omega
  rw [List.drop_of_length_le (by omega)]
  simp only [bs_l07Form_3, decide_eq_false h1, cond_false, List.foldl_nil]
 | succ d ih =>
  intro i v hi hv
  have h0 : i < w.length := by omega
  have a1 := hv.lo
  have a2 := hv.hi
  have a3 := hv.len
  have hx := hw _ (List.getElem_mem h0)
  have b1 := hx.1
  have b2 := hx.2.1
  have b3 := hx.2.2
  have hp : w[i].natAbs - 1 + 1 < n := by omega
  have ih' := ih (i + 1) (stepD h1 v w[i]) (by omega) (stepD_ok h2 hv hx)
  have e0 : wi64 (0 - w[i]) = 0 - w[i] := by rw [wrap_i64] <;> omega
  have ez : mx w[i] (0 - w[i]) = ((w[i].natAbs - 1 + 1 : Nat) : Int) := by unfold mx; split <;> omega
  have ew : wi64 (((w[i].natAbs - 1 + 1 : Nat) : Int) - 1) = ((w[i].natAbs - 1 : Nat) : Int) := by rw [wrap_i64] <;> omega
  have w8 : wu8 ((w[i].natAbs - 1 + 1 : Nat) : Int) = ((w[i].natAbs - 1 + 1 : Nat) : Int) := by rw [wrap_u8] <;> omega
  have w8' : wu8 ((w[i].natAbs - 1 : Nat) : Int) = ((w[i].natAbs - 1 : Nat) : Int) := by rw [wrap_u8] <;> omega
  have v1 : decide ((i : Int) < (w.length : Int)) = true := decide_eq_true (by omega)
  have v2 : decide ((0 : Int) ≤ (i : Int)) = true := decide_eq_true (by omega)
  have v3 : decide ((0 : Int) ≤ ((w[i].natAbs - 1 : Nat) : Int)) = true := decide_eq_true (by omega)
  have v4 : decide (((w[i].natAbs - 1 : Nat) : Int) < 8) = true := decide_eq_true (by omega)
  have v5 : decide ((0 : Int) ≤ ((w[i].natAbs - 1 + 1 : Nat) : Int)) = true := decide_eq_true (by omega)
  have v6 : decide (((w[i].natAbs - 1 + 1 : Nat) : Int) < 8) = true := decide_eq_true (by omega)
  have wi : wi64 ((i : Int) + 1) = ((i + 1 : Nat) : Int) := by rw [wrap_i64] <;> omega
  apply vs_l07Form_3
  rw [List.drop_eq_getElem_cons h0, List.foldl_cons]
  simp only [bs_l07Form_3, v1, v2, cond_true, Bool.and_true, Int.toNat_natCast, getD_at h0, c_l07Fine n hn, Option.bind_some, getTV_here, e0, ez, ew, v3, v4, v5, v6, w8, w8', swap_arr hp hn]
  by_cases h : 0 < w[i]
  · have h' : ¬ w[i] < 0 := by omega
    have hput := c_l07Put n h2 h1 hn v (Pm.swap n _ hp) (isP_swap hp) hv.P (by omega) (by omega) (by omega)
    have es : stepD h1 v w[i] = mk h1 v.1 (v.2 ++ [Pm.swap n _ hp]) := by rw [stepD, if_pos h, swapN_eq hp]
    rw [es] at ih' ⊢
    simp only [enc] at hput
    simp only [decide_eq_false h', cond_false, hput, Option.bind_some, getTV_here, wi]
    exact ih'
  · have h' : w[i] < 0 := by omega
    have h11 := c_l07Form_11 n hn v.2 (by omega) w x1 x2 (n : Int) v.1 (i : Int) x3 (sA (Pm.swap n _ hp)) 0 (Nat.zero_le _)
    rw [List.take_zero, List.map_nil, List.nil_append, List.drop_zero] at h11
    simp only [Int.natCast_zero] at h11
    have hput := c_l07Put n h2 h1 hn (v.1 - 1, v.2.map T) (whP n * (Pm.swap n _ hp)⁻¹) (isP_left h1 (isP_swap hp)) (turned_P hv.P) (by simp only [List.length_map]; omega) (by simp only; omega) (by simp only; omega)
    have es : stepD h1 v w[i] = mk h1 (v.1 - 1) (v.2.map T ++ [whP n * (Pm.swap n _ hp)⁻¹]) := by rw [stepD, if_neg h, swapN_eq hp]
    have wm : wi64 (v.1 - 1) = v.1 - 1 := by rw [wrap_i64] <;> omega
    rw [es] at ih' ⊢
    simp only [enc] at hput
    simp only [decide_eq_true h', cond_true, h11, Option.bind_some, getTV_here, getTV_next, c_l07Whole n hn, c_l07Back n hn, c_l07Then n hn, wm, hput, wi]
    exact ih'
theorem Lw_one {w : List Int} (hw : Lw 1 w) : w = [] := by
 cases w with
 | nil => rfl
 | cons x w =>
  have := hw x (by simp)
  omega
theorem c_dualOf (n : Nat) (h1 : 1 ≤ n) (hn : n ≤ 8) (w : List Int) (hw : Lw n w) (hl : w.length ≤ 200) : R ii_dualOf [tPILI ((n : Int), w)] = some [tPIPILA8 (enc (dOf n h1 w))] := by
 apply vi_dualOf
 by_cases h2 : 2 ≤ n
 · have h := c_dualOf_3 n h2 h1 hn w hw hl 0 0 [] w.length 0 (0, []) (by omega) (OkD.zero h1)
   simp only [sL_nil, Int.natCast_zero, List.drop_zero] at h
   simp only [bi_dualOf, h, Option.bind_some, getTV_here, getTV_next]
   rfl
 · have : n = 1 := by omega
   subst this
   have := Lw_one hw
   subst this
   have h : R ii_dualOf_3 [tI 1, tLI [], tI 0, tI 0, tLA8 [], tI 1, tI 0, tLA8 [], tI 0, tI 0] = some [tI 0, tI 0, tI 0, tLA8 [], tI 1, tI 0, tLA8 []] := by
    apply vi_dualOf_3
    simp [bi_dualOf_3]
   simp [bi_dualOf, h, dOf, enc, sL_nil]
theorem c_l07Form (n : Nat) (h1 : 1 ≤ n) (hn : n ≤ 8) (w : List Int) (hw : Lw n w) (hl : w.length ≤ 200) : R is_l07Form [tI (n : Int), tLI w] = some [tPIPILA8 (enc (dOf n h1 w))] := by
 apply vs_l07Form
 by_cases h2 : 2 ≤ n
 · have h := c_l07Form_3 n h2 h1 hn w hw hl 0 0 [] w.length 0 (0, []) (by omega) (OkD.zero h1)
   simp only [sL_nil, Int.natCast_zero, List.drop_zero] at h
   simp only [bs_l07Form, h, Option.bind_some, getTV_here, getTV_next]
   rfl
 · have : n = 1 := by omega
   subst this
   have := Lw_one hw
   subst this
   have h : R is_l07Form_3 [tLI [], tI 0, tI 0, tLA8 [], tI 1, tI 0, tLA8 [], tI 1, tI 0] = some [tI 0, tI 0, tI 0, tLA8 [], tI 1, tI 0, tLA8 []] := by
    apply vs_l07Form_3
    simp [bs_l07Form_3]
   simp [bs_l07Form, h, dOf, enc, sL_nil]
theorem dOf_len {n : Nat} (h1 : 1 ≤ n) (w : List Int) (hw : Lw n w) (hl : w.length ≤ 200) : (dOf n h1 w).2.length ≤ 200 := by
 by_cases h2 : 2 ≤ n
 · have := (fold_ok h2 w hw (OkD.zero h1)).len
   unfold dOf
   omega
 · have : n = 1 := by omega
   subst this
   have := Lw_one hw
   subst this
   simp [dOf]
theorem isBr_Lw {b : Int × List Int} (h : isBr b = true) : ∃ n : Nat, b.1 = n ∧ 1 ≤ n ∧ n ≤ 8 ∧ b.2.length ≤ 200 ∧ Lw n b.2 := by
 have hk := isBr_ok h
 refine ⟨b.1.toNat, by omega, by omega, by omega, hk.2.2.1, fun x hx => ?_⟩
 have := hk.2.2.2 x hx
 omega
end Go.Ev.Yteclcmiopobnaaa.P
namespace Go.Ev.Yteclcmiopobnaaa.P
open Go.Ev.Yteclcmiopobnaaa
open Go.Ev Go.Gar
theorem c_l07Same_4 (x0 x1 x3 x4 : Int) (a b : List (List Int)) (h0 : a.length < 1000000000) (h1 : b.length = a.length) : ∀ i, i ≤ a.length → R is_l07Same_4 [tI x0, tI x1, tLA8 a, tI x3, tI x4, tLA8 b, tI (i : Int)] = some (if a.drop i = b.drop i then [tI 0] else [tI 1, tB false]) := by
 refine up_loop _ ?_ (fun i hi ih => ?_)
 · apply vs_l07Same_4
   rw [List.drop_length, ← h1, List.drop_length]
   simp [bs_l07Same_4, h1]
 · apply vs_l07Same_4
   rw [List.drop_eq_getElem_cons hi, List.drop_eq_getElem_cons (by omega : i < b.length)]
   simp (disch := omega) only [bs_l07Same_4, decide_eq_true, cond_true, Bool.and_true, Int.toNat_natCast, wrap_i64]
   rw [show (i : Int) + 1 = ((i + 1 : Nat) : Int) by omega, ih]
   simp only [List.getD_eq_getElem?_getD, List.getElem?_eq_getElem hi, List.getElem?_eq_getElem (by omega : i < b.length), Option.getD_some, List.cons.injEq]
   by_cases e : a[i] = b[i] <;> simp [e, bne_ll]
theorem c_Equal_4 (a b : List (List Int)) (h0 : a.length < 1000000000) (h1 : b.length = a.length) : ∀ i, i ≤ a.length → R ig_Equal___i_Part_i_Part__4 [tLA8 a, tLA8 b, tI (a.length : Int), tI (i : Int)] = some (if a.drop i = b.drop i then [tI 0] else [tI 1, tB false]) := by
 refine up_loop _ ?_ (fun i hi ih => ?_)
 · apply vg_Equal___i_Part_i_Part__4
   rw [List.drop_length, ← h1, List.drop_length]
   simp [bg_Equal___i_Part_i_Part__4, h1]
 · apply vg_Equal___i_Part_i_Part__4
   rw [List.drop_eq_getElem_cons hi, List.drop_eq_getElem_cons (by omega : i < b.length)]
   simp (disch := omega) only [bg_Equal___i_Part_i_Part__4, decide_eq_true, cond_true, Bool.and_true, Int.toNat_natCast, wrap_i64]
   rw [show (i : Int) + 1 = ((i + 1 : Nat) : Int) by omega, ih]
   simp only [List.getD_eq_getElem?_getD, List.getElem?_eq_getElem hi, List.getElem?_eq_getElem (by omega : i < b.length), Option.getD_some, List.cons.injEq]
   by_cases e : a[i] = b[i] <;> simp [e, bne_ll]
theorem c_Equal (a b : List (List Int)) (h0 : a.length < 1000000000) : R ig_Equal___i_Part_i_Part_ [tLA8 a, tLA8 b] = some [tB (decide (a = b))] := by
 apply vg_Equal___i_Part_i_Part_
 by_cases e : b.length = a.length
 · have := c_Equal_4 a b h0 e 0 (Nat.zero_le _)
   simp only [List.drop_zero, Int.natCast_zero] at this
   simp only [bg_Equal___i_Part_i_Part_, e, bne_self_eq_false, cond_false, this]
   by_cases e2 : a = b <;> simp [e2]
 · have : a ≠ b := fun h => e (by rw [h])
   have e3 : ¬ ((a.length : Int) = b.length) := by omega
   simp [bg_Equal___i_Part_i_Part_, this, e3, bne_dec]
theorem c_l07Same (a b : Int × Int × List (List Int)) (h0 : a.2.2.length < 1000000000) : R is_l07Same [tPIPILA8 a, tPIPILA8 b] = some [tB (decide (a = b))] := by
 apply vs_l07Same
 obtain ⟨a1, a2, a3⟩ := a
 obtain ⟨b1, b2, b3⟩ := b
 by_cases q1 : a1 = b1
 · by_cases q2 : a2 = b2
   · by_cases e : b3.length = a3.length
     · have := c_l07Same_4 a1 a2 b1 b2 a3 b3 h0 e 0 (Nat.zero_le _)
       simp only [List.drop_zero, Int.natCast_zero] at this
       subst q1
       subst q2
       simp only [bs_l07Same, e, bne_self_eq_false, cond_false, this]
       by_cases e2 : a3 = b3 <;> simp [e2]
     · have : a3 ≠ b3 := fun h => e (by rw [h])
       have e3 : ¬ ((a3.length : Int) = b3.length) := by omega
       simp [bs_l07Same, this, e3, bne_dec]
   · simp [bs_l07Same, q2, bne_dec]
 · simp [bs_l07Same, q1, bne_dec]
end Go.Ev.Yteclcmiopobnaaa.P
namespace Go.Ev.Yteclcmiopobnaaa.P
open Go.Ev.Yteclcmiopobnaaa
open Go.Ev Go.Gar
theorem mkp_nf {n : Nat} {h1 : 1 ≤ n} (p : Int) {X Y : List (Pm n)} (hX : (latP n h1).AllS X) (hY : (latP n h1).AllS Y) (h : (latP n h1).nf X = (latP n h1).nf Y) : mk h1 p X = mk h1 p Y := by
 unfold mk
 rw [← Lat.norm_nf hX, h, Lat.norm_nf hY]
theorem mkp_app {n : Nat} (h2 : 2 ≤ n) {h1 : 1 ≤ n} (p : Int) {X Y : List (Pm n)} (hX : (latP n h1).AllS X) (hY : (latP n h1).AllS Y) : mk h1 p (X ++ Y) = mk h1 (mk h1 p X).1 ((mk h1 p X).2 ++ Y) := by
 have h := Lat.norm_app (whP_ne h2) hX hY
 simp only [mk, h, Int.natCast_add, Int.add_assoc]
theorem mkp_T {n : Nat} (h2 : 2 ≤ n) {h1 : 1 ≤ n} (p : Int) {X Y : List (Pm n)} (hX : (latP n h1).AllS X) (hY : (latP n h1).AllS Y) :
  mk h1 (p + (((latP n h1).norm X).1 : Nat)) (((latP n h1).norm X).2.map T ++ Y) = mk h1 p (X.map T ++ Y) := by
 have hA := (T_auto n h1)
 have e := hA.norm (whP_ne h2) hX
 rw [mkp_app h2 p (hA.AllS hX) hY]
 have e1 : mk h1 p (X.map T) = (p + (((latP n h1).norm X).1 : Nat), ((latP n h1).norm X).2.map T) := by
  simp only [mk]
  have e' : (latP n h1).norm (X.map T) = (((latP n h1).norm X).1, ((latP n h1).norm X).2.map T) := e
  rw [e']
 rw [e1]
theorem nfp_D1 {n : Nat} {h1 : 1 ≤ n} {x : Pm n} (hx : isP x) {Y : List (Pm n)} (hY : (latP n h1).AllS Y) : (latP n h1).nf (T x :: whP n :: Y) = (latP n h1).nf (whP n :: x :: Y) := by
 have hT : isP (T x) := (T_auto n h1).S x hx
 have hD : isP (whP n) := (latP n h1).S_D
 have hm := Lat.nf_move (Γ := latP n h1) (p := []) (q := Y) (x := T x) (y := whP n) (c := (latP n h1).K (T x)) hT hD (Lat.SK hT) ((latP n h1).refl (Lat.SK hT)) ((latP n h1).le_D (Lat.SK hT)) hY
 have e1 : T x * (latP n h1).K (T x) = whP n := mul_inv_l _ _
 have e2 : ((latP n h1).K (T x))⁻¹ * whP n = x := by
  show ((T x)⁻¹ * whP n)⁻¹ * whP n = x
  unfold T
  simp only [mul_inv_rev, inv_inv, Grp.assoc, inv_mul_l, Grp.inv_mul, Grp.mul_one]
 rw [e1, e2] at hm
 exact hm
theorem nfp_D {n : Nat} {h1 : 1 ≤ n} : ∀ {X Y : List (Pm n)}, (latP n h1).AllS X → (latP n h1).AllS Y → (latP n h1).nf (X.map T ++ whP n :: Y) = (latP n h1).nf (whP n :: (X ++ Y))
 | [], Y, _, _ => rfl
 | x :: X, Y, hX, hY => by
  have ih := nfp_D hX.tail hY
  rw [List.map_cons, List.cons_append, Lat.nf_cons, ih, ← Lat.nf_cons]
  exact nfp_D1 hX.head (hX.tail.app hY)
theorem mkp_back {n : Nat} (h2 : 2 ≤ n) {h1 : 1 ≤ n} (p : Int) {A : List (Pm n)} (hP : (latP n h1).Proper A) {X : List (Pm n)} (hX : (latP n h1).AllS X) (h : (latP n h1).nf X = (latP n h1).nf (A.map T ++ [whP n, 1])) : mk h1 (p - 1) X = (p, A) := by
 have hD : isP (whP n) := (latP n h1).S_D
 have h0 : (latP n h1).AllS [(1 : Pm n)] := Lat.AllS.cons (latP n h1).S_one Lat.AllS.nil
 have hA := (T_auto n h1).AllS hP.S
 have hd : (latP n h1).AllS [whP n, 1] := Lat.AllS.cons hD h0
 have e := nfp_D hP.S h0
 rw [← h] at e
 have hW := Lat.Wd_D (Lat.nf_Wd (hP.S.app h0)) (Lat.nf_S (hP.S.app h0))
 have e2 : (latP n h1).nf (A ++ [1]) = A ++ [1] := by
  have := Lat.nf_ones (Γ := latP n h1) (X := A) (Y := []) 1 hP.S Lat.AllS.nil
  simp only [List.append_nil] at this
  rw [Lat.nf_fix hP.W] at this
  exact this
 have e3 : (latP n h1).nf (whP n :: (A ++ [1])) = (latP n h1).Ds 1 ++ A ++ Lat.ones 1 := by
  have := Lat.nf_Ds (Γ := latP n h1) 1 (Y := A ++ [1]) (hP.S.app h0)
  rw [e2] at this
  simp only [List.append_assoc]
  exact this
 rw [e3] at e
 have hn := Lat.norm_of (whP_ne h2) e hP
 simp only [mk, hn]
 rw [show p - 1 + ((1 : Nat) : Int) = p by omega]
theorem snoc2 {n : Nat} {h1 : 1 ≤ n} {A : List (Pm n)} (hA : (latP n h1).AllS A) {s t : Pm n} (hs : isP s) (ht : isP t) : (latP n h1).AllS (A ++ [s, t]) := hA.app (Lat.AllS.cons hs (Lat.AllS.cons ht Lat.AllS.nil))
theorem step_pos {n : Nat} {h1 : 1 ≤ n} (v : Nm n) {x : Int} (hx : 0 < x) (hp : x.natAbs - 1 + 1 < n) : stepD h1 v x = mk h1 v.1 (v.2 ++ [Pm.swap n (x.natAbs - 1) hp]) := by
 rw [stepD, if_pos hx, swapN_eq hp]
theorem step_neg {n : Nat} {h1 : 1 ≤ n} (v : Nm n) {x : Int} (hx : ¬ 0 < x) (hp : x.natAbs - 1 + 1 < n) : stepD h1 v x = mk h1 (v.1 - 1) (v.2.map T ++ [whP n * (Pm.swap n (x.natAbs - 1) hp)⁻¹]) := by
 rw [stepD, if_neg hx, swapN_eq hp]
theorem rel_free {n : Nat} (h2 : 2 ≤ n) {h1 : 1 ≤ n} {v : Nm n} (hP : (latP n h1).Proper v.2) {x : Int} (hx : x ≠ 0 ∧ 1 - (n : Int) ≤ x ∧ x ≤ (n : Int) - 1) : stepD h1 (stepD h1 v x) (-x) = v := by
 have hp : x.natAbs - 1 + 1 < n := by omega
 have hp' : (-x).natAbs - 1 + 1 < n := by omega
 have en : (-x).natAbs - 1 = x.natAbs - 1 := by omega
 have hs := isP_swap hp
 have hl := isP_left h1 hs
 have hD : isP (whP n) := (latP n h1).S_D
 by_cases h : 0 < x
 · have es : Pm.swap n ((-x).natAbs - 1) hp' = Pm.swap n (x.natAbs - 1) hp := by simp only [en]
   rw [step_neg _ (by omega) hp', es, step_pos _ h hp]
   generalize Pm.swap n (x.natAbs - 1) hp = s at hs hl
   have h0 := snoc_S hP.S hs
   have e := mkp_T h2 (v.1 - 1) h0 (Y := [whP n * s⁻¹]) (Lat.AllS.cons hl Lat.AllS.nil)
   have e1 : (mk h1 v.1 (v.2 ++ [s])).1 - 1 = v.1 - 1 + (((latP n h1).norm (v.2 ++ [s])).1 : Nat) := by
    show v.1 + _ - 1 = _
    omega
   rw [e1]
   refine e.trans ?_
   have hT : isP (T s) := (T_auto n h1).S s hs
   apply mkp_back h2 v.1 hP
   · rw [List.map_append]
     exact (((T_auto n h1).AllS hP.S).app (Lat.AllS.cons hT Lat.AllS.nil)).app (Lat.AllS.cons hl Lat.AllS.nil)
   · have hm := Lat.nf_move (Γ := latP n h1) (p := v.2.map T) (q := []) (x := T s) (y := whP n * s⁻¹) (c := whP n * s⁻¹) hT hl hl (by
      have e5 : (latP n h1).K (T s) = whP n * s⁻¹ := by
       show (T s)⁻¹ * whP n = _
       unfold T
       simp only [mul_inv_rev, inv_inv, Grp.assoc, Grp.inv_mul, Grp.mul_one]
      rw [e5]
      exact (latP n h1).refl hl) ((latP n h1).refl hl) Lat.AllS.nil
     have e6 : T s * (whP n * s⁻¹) = whP n := by
      unfold T
      simp only [Grp.assoc, inv_mul_l, Grp.mul_inv, Grp.mul_one]
     rw [e6, Grp.inv_mul] at hm
     rw [List.map_append, List.append_assoc]
     exact hm
 · have es : Pm.swap n ((-x).natAbs - 1) hp' = Pm.swap n (x.natAbs - 1) hp := by simp only [en]
   rw [step_pos _ (by omega) hp', es, step_neg _ h hp]
   generalize Pm.swap n (x.natAbs - 1) hp = s at hs hl
   have hA := (T_auto n h1).AllS hP.S
   have h0 := snoc_S hA hl
   rw [← mkp_app h2 (v.1 - 1) h0 (Lat.AllS.cons hs Lat.AllS.nil)]
   apply mkp_back h2 v.1 hP (h0.app (Lat.AllS.cons hs Lat.AllS.nil))
   have hm := Lat.nf_move (Γ := latP n h1) (p := v.2.map T) (q := []) (x := whP n * s⁻¹) (y := s) (c := s) hl hs hs (by
    have e5 : (latP n h1).K (whP n * s⁻¹) = s := by
     show (whP n * s⁻¹)⁻¹ * whP n = _
     simp only [mul_inv_rev, inv_inv, Grp.assoc, Grp.inv_mul, Grp.mul_one]
    rw [e5]
    exact (latP n h1).refl hs) ((latP n h1).refl hs) Lat.AllS.nil
   rw [inv_mul_r, Grp.inv_mul] at hm
   rw [List.append_assoc]
   exact hm
theorem eo_swap {n p : Nat} (h : p + 1 < n) {a : Pm n} (ha : Eo a p (p + 1)) : leP (Pm.swap n p h) a := by
 intro x y e
 induction e with
 | re x => exact .re x
 | st x =>
  show Eo a x (Pm.sf p x)
  unfold Pm.sf
  by_cases h1 : x = p
  · rw [if_pos h1, h1]; exact ha
  · rw [if_neg h1]
    by_cases h2 : x = p + 1
    · rw [if_pos h2, h2]; exact ha.sy
    · rw [if_neg h2]; exact .re x
 | sy _ ih => exact ih.sy
 | tr _ _ i1 i2 => exact i1.tr i2
theorem sc_nx {n i : Nat} (h : i + 1 < n) : sc n i = i + 1 := by
 unfold sc
 simp
 omega
theorem mk2_join {n : Nat} {h1 : 1 ≤ n} {P Q : List (Pm n)} {s t : Pm n} (hQ : (latP n h1).AllS Q) (hs : isP s) (ht : isP t) (hle : leP t ((latP n h1).K s)) : (latP n h1).nf (P ++ s :: t :: Q) = (latP n h1).nf (P ++ (s * t) :: 1 :: Q) := by
 have hm := Lat.nf_move (Γ := latP n h1) (p := P) (q := Q) (x := s) (y := t) (c := t) hs ht ht hle ((latP n h1).refl ht) hQ
 rw [Grp.inv_mul] at hm
 exact hm
theorem steps2 {n : Nat} (h2 : 2 ≤ n) {h1 : 1 ≤ n} {p : Int} {A : List (Pm n)} (hA : (latP n h1).AllS A) {s t : Pm n} (hs : isP s) (ht : isP t) : mk h1 (mk h1 p (A ++ [s])).1 ((mk h1 p (A ++ [s])).2 ++ [t]) = mk h1 p (A ++ [s, t]) := by
 rw [← mkp_app h2 p (snoc_S hA hs) (Lat.AllS.cons ht Lat.AllS.nil), List.append_assoc]
 rfl
theorem rel_far {n : Nat} (h2 : 2 ≤ n) {h1 : 1 ≤ n} {v : Nm n} (hP : (latP n h1).Proper v.2) {i j : Nat} (hi : i + 1 < n) (hj : j + 1 < n) (hij : i + 2 ≤ j) :
  stepD h1 (stepD h1 v ((i + 1 : Nat) : Int)) ((j + 1 : Nat) : Int) = stepD h1 (stepD h1 v ((j + 1 : Nat) : Int)) ((i + 1 : Nat) : Int) := by
 have ei : (((i + 1 : Nat) : Int)).natAbs - 1 = i := by omega
 have ej : (((j + 1 : Nat) : Int)).natAbs - 1 = j := by omega
 have s1 : ∀ w : Nm n, stepD h1 w ((i + 1 : Nat) : Int) = mk h1 w.1 (w.2 ++ [Pm.swap n i hi]) := fun w => by
  rw [stepD, if_pos (by omega), ei, swapN_eq hi]
 have s2 : ∀ w : Nm n, stepD h1 w ((j + 1 : Nat) : Int) = mk h1 w.1 (w.2 ++ [Pm.swap n j hj]) := fun w => by
  rw [stepD, if_pos (by omega), ej, swapN_eq hj]
 have hs := isP_swap hi
 have ht := isP_swap hj
 rw [s1, s2, s2, s1, steps2 h2 hP.S hs ht, steps2 h2 hP.S ht hs]
 apply mkp_nf _ (snoc2 hP.S hs ht) (snoc2 hP.S ht hs)
 have l1 : leP (Pm.swap n j hj) ((latP n h1).K (Pm.swap n i hi)) := by
  apply eo_swap
  have := Eo.st (s := (latP n h1).K (Pm.swap n i hi)) j
  have e : ((latP n h1).K (Pm.swap n i hi)).f j = j + 1 := by
   show (whP n).f (Pm.sf i j) = _
   rw [show Pm.sf i j = j by unfold Pm.sf; rw [if_neg (by omega), if_neg (by omega)], whP_f (by omega), sc_nx hj]
  rw [e] at this
  exact this
 have l2 : leP (Pm.swap n i hi) ((latP n h1).K (Pm.swap n j hj)) := by
  apply eo_swap
  have := Eo.st (s := (latP n h1).K (Pm.swap n j hj)) i
  have e : ((latP n h1).K (Pm.swap n j hj)).f i = i + 1 := by
   show (whP n).f (Pm.sf j i) = _
   rw [show Pm.sf j i = i by unfold Pm.sf; rw [if_neg (by omega), if_neg (by omega)], whP_f (by omega), sc_nx hi]
  rw [e] at this
  exact this
 rw [mk2_join Lat.AllS.nil hs ht l1, mk2_join Lat.AllS.nil ht hs l2]
 have e : Pm.swap n i hi * Pm.swap n j hj = Pm.swap n j hj * Pm.swap n i hi := by
  apply Pm.ext
  intro x
  show Pm.sf j (Pm.sf i x) = Pm.sf i (Pm.sf j x)
  unfold Pm.sf
  repeat' split
  all_goals omega
 rw [e]
theorem rel_braid {n : Nat} (h2 : 2 ≤ n) {h1 : 1 ≤ n} {v : Nm n} (hP : (latP n h1).Proper v.2) {i : Nat} (hi : i + 2 < n) :
  stepD h1 (stepD h1 (stepD h1 v ((i + 1 : Nat) : Int)) ((i + 2 : Nat) : Int)) ((i + 1 : Nat) : Int) = stepD h1 (stepD h1 (stepD h1 v ((i + 2 : Nat) : Int)) ((i + 1 : Nat) : Int)) ((i + 2 : Nat) : Int) := by
 have hi1 : i + 1 < n := by omega
 have ei : (((i + 1 : Nat) : Int)).natAbs - 1 = i := by omega
 have ej : (((i + 2 : Nat) : Int)).natAbs - 1 = i + 1 := by omega
 have s1 : ∀ w : Nm n, stepD h1 w ((i + 1 : Nat) : Int) = mk h1 w.1 (w.2 ++ [Pm.swap n i hi1]) := fun w => by
  rw [stepD, if_pos (by omega), ei, swapN_eq hi1]
 have s2 : ∀ w : Nm n, stepD h1 w ((i + 2 : Nat) : Int) = mk h1 w.1 (w.2 ++ [Pm.swap n (i + 1) hi]) := fun w => by
  rw [stepD, if_pos (by omega), ej, swapN_eq hi]
 have hs := isP_swap hi1
 have ht := isP_swap hi
 have f1 : ∀ x, (Pm.swap n i hi1).f x = Pm.sf i x := fun x => rfl
 have f2 : ∀ x, (Pm.swap n (i + 1) hi).f x = Pm.sf (i + 1) x := fun x => rfl
 have g1 : Pm.sf i i = i + 1 := by simp [Pm.sf]
 have g2 : Pm.sf (i + 1) i = i := by unfold Pm.sf; rw [if_neg (by omega), if_neg (by omega)]
 have g3 : Pm.sf i (i + 1) = i := by unfold Pm.sf; rw [if_neg (by omega), if_pos rfl]
 have g4 : Pm.sf (i + 1) (i + 1) = i + 2 := by simp [Pm.sf]
 have g5 : Pm.sf (i + 1) (i + 2) = i + 1 := by unfold Pm.sf; rw [if_neg (by omega), if_pos rfl]
 have g6 : Pm.sf i (i + 2) = i + 2 := by unfold Pm.sf; rw [if_neg (by omega), if_neg (by omega)]
 have g7 : ∀ x, x ≠ i → x ≠ i + 1 → Pm.sf i x = x := fun x a b => by unfold Pm.sf; rw [if_neg a, if_neg b]
 have g8 : ∀ x, x ≠ i + 1 → x ≠ i + 2 → Pm.sf (i + 1) x = x := fun x a b => by unfold Pm.sf; rw [if_neg a, if_neg b]
 have l1 : leP (Pm.swap n i hi1) ((latP n h1).K (Pm.swap n (i + 1) hi)) := by
  apply eo_swap
  have := Eo.st (s := (latP n h1).K (Pm.swap n (i + 1) hi)) i
  have e : ((latP n h1).K (Pm.swap n (i + 1) hi)).f i = i + 1 := by
   show (whP n).f (Pm.sf (i + 1) i) = _
   rw [g2, whP_f (by omega), sc_nx hi1]
  rw [e] at this
  exact this
 obtain ⟨hc, lc⟩ := Lat.P1 (Γ := latP n h1) ht hs l1
 have ls : leP (Pm.swap n i hi1) (Pm.swap n (i + 1) hi * Pm.swap n i hi1) := by
  apply eo_swap
  have := Eo.st (s := Pm.swap n (i + 1) hi * Pm.swap n i hi1) i
  have e : (Pm.swap n (i + 1) hi * Pm.swap n i hi1).f i = i + 1 := by
   show Pm.sf i (Pm.sf (i + 1) i) = _
   rw [g2, g1]
  rw [e] at this
  exact this
 obtain ⟨hu, lu⟩ := Lat.P0 (Γ := latP n h1) hs hc ls
 have eu : Pm.swap n i hi1 * ((Pm.swap n i hi1)⁻¹ * (Pm.swap n (i + 1) hi * Pm.swap n i hi1)) = Pm.swap n (i + 1) hi * Pm.swap n i hi1 := mul_inv_l _ _
 have sw : ∀ x, Pm.sf i (Pm.sf i x) = x := Pm.sf_sf i
 have uf : ∀ x, ((Pm.swap n i hi1)⁻¹ * (Pm.swap n (i + 1) hi * Pm.swap n i hi1)).f x = Pm.sf i (Pm.sf (i + 1) (Pm.sf i x)) := fun x => rfl
 have eut : ((Pm.swap n i hi1)⁻¹ * (Pm.swap n (i + 1) hi * Pm.swap n i hi1)) * Pm.swap n (i + 1) hi = Pm.swap n (i + 1) hi * Pm.swap n i hi1 := by
  apply Pm.ext
  intro x
  show Pm.sf (i + 1) (Pm.sf i (Pm.sf (i + 1) (Pm.sf i x))) = Pm.sf i (Pm.sf (i + 1) x)
  by_cases x1 : x = i
  · subst x1; simp only [g1, g2, g3, g4, g5, g6]
  · by_cases x2 : x = i + 1
    · subst x2; simp only [g1, g2, g3, g4, g5, g6]
    · by_cases x3 : x = i + 2
      · subst x3; simp only [g1, g2, g3, g4, g5, g6]
      · simp only [g7 x x1 x2, g8 x x2 x3]
 generalize hu' : (Pm.swap n i hi1)⁻¹ * (Pm.swap n (i + 1) hi * Pm.swap n i hi1) = u at hu lu eu uf eut
 have luc : leP u (Pm.swap n (i + 1) hi * Pm.swap n i hi1) := by
  have key : Eo (Pm.swap n (i + 1) hi * Pm.swap n i hi1) (i + 2) i := by
   have := Eo.st (s := Pm.swap n (i + 1) hi * Pm.swap n i hi1) (i + 2)
   have e : (Pm.swap n (i + 1) hi * Pm.swap n i hi1).f (i + 2) = i := by
    show Pm.sf i (Pm.sf (i + 1) (i + 2)) = _
    rw [g5, g3]
   rw [e] at this
   exact this
  intro x y e
  induction e with
  | re x => exact .re x
  | st x =>
   rw [uf]
   by_cases x1 : x = i
   · subst x1
     rw [g1, g4, g6]
     exact key.sy
   · by_cases x2 : x = i + 2
     · subst x2
       rw [g6, g5, g3]
       exact key
     · have : Pm.sf i (Pm.sf (i + 1) (Pm.sf i x)) = x := by
        by_cases x3 : x = i + 1
        · subst x3; simp only [g1, g2, g3, g4, g5, g6]
        · simp only [g7 x x1 x3, g8 x x3 x2]
       rw [this]
       exact .re x
  | sy _ ih => exact ih.sy
  | tr _ _ i1 i2 => exact i1.tr i2
 obtain ⟨_, lt⟩ := Lat.P0 (Γ := latP n h1) hu hc luc
 have et : u⁻¹ * (Pm.swap n (i + 1) hi * Pm.swap n i hi1) = Pm.swap n (i + 1) hi := by
  rw [← eut, inv_mul_l]
 rw [et] at lt
 have three : ∀ {a b c : Pm n}, isP a → isP b → isP c → mk h1 (mk h1 v.1 (v.2 ++ [a, b])).1 ((mk h1 v.1 (v.2 ++ [a, b])).2 ++ [c]) = mk h1 v.1 (v.2 ++ [a, b, c]) := fun ha hb hc => by
  rw [← mkp_app h2 v.1 (snoc2 hP.S ha hb) (Lat.AllS.cons hc Lat.AllS.nil), List.append_assoc]
  rfl
 rw [s1, s2, s1, s2, s1, s2, steps2 h2 hP.S hs ht, steps2 h2 hP.S ht hs, three hs ht hs, three ht hs ht]
 have a3 : ∀ {a b c : Pm n}, isP a → isP b → isP c → (latP n h1).AllS (v.2 ++ [a, b, c]) := fun ha hb hc => hP.S.app (Lat.AllS.cons ha (Lat.AllS.cons hb (Lat.AllS.cons hc Lat.AllS.nil)))
 apply mkp_nf _ (a3 hs ht hs) (a3 ht hs ht)
 have k1 := mk2_join (h1 := h1) (P := v.2 ++ [Pm.swap n i hi1]) (Q := []) Lat.AllS.nil ht hs l1
 have k2 := mk2_join (h1 := h1) (P := v.2 ++ [Pm.swap n i hi1]) (Q := []) Lat.AllS.nil hu ht lt
 rw [eut] at k2
 have k3 := mk2_join (h1 := h1) (P := v.2) (Q := [Pm.swap n (i + 1) hi]) (Lat.AllS.cons ht Lat.AllS.nil) hs hu lu
 have k4 := mk2_join (h1 := h1) (P := v.2) (Q := [Pm.swap n (i + 1) hi]) (Lat.AllS.cons ht Lat.AllS.nil) ht hs l1
 rw [eu] at k3
 rw [List.append_assoc] at k1 k2
 have k5 := k1.trans k2.symm
 exact k5.trans (k3.trans k4.symm)
end Go.Ev.Yteclcmiopobnaaa.P
namespace Go.Ev.Yteclcmiopobnaaa.P
open Go.Ev.Yteclcmiopobnaaa
open Go.Ev Go.Gar
theorem isP_swapN {n p : Nat} (h1 : 1 ≤ n) : isP (swapN n p) := by
 unfold swapN
 split
 · exact isP_swap _
 · exact (latP n h1).S_one
theorem stepD_P {n : Nat} (h2 : 2 ≤ n) {h1 : 1 ≤ n} {v : Nm n} (h : (latP n h1).Proper v.2) (x : Int) : (latP n h1).Proper (stepD h1 v x).2 := by
 unfold stepD
 split
 · exact (mk_spec h2 h1 _ (snoc_S h.S (isP_swapN h1))).1
 · exact (mk_spec h2 h1 _ (snoc_S ((T_auto n h1).AllS h.S) (isP_left h1 (isP_swapN h1)))).1
theorem dOf_BE {n : Nat} (h2 : 2 ≤ n) {h1 : 1 ≤ n} {a b : List Int} (h : BE n a b) : dOf n h1 a = dOf n h1 b :=
 h.fold (P := fun v : Nm n => (latP n h1).Proper v.2) (f := stepD h1) (fun s x hs => stepD_P h2 hs x) (fun s x hs hx => rel_free h2 hs hx)
  (fun s i j hs hij hj => rel_far h2 hs (by omega) hj hij) (fun s i hs hi => rel_braid h2 hs hi) (0, []) Lat.Proper.nil
end Go.Ev.Yteclcmiopobnaaa.P
