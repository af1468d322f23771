/- Cycling, not turned; conjugates and positive conjugating elements; the greatest infimum of a class. -/
import Derived.Test.YtgfleapbganjiaaGreatMv1
set_option linter.unusedVariables false
namespace Go.Gar
namespace Cj
variable {G : Type} [Grp G] (Γ : Cj G)
theorem cj_one (x : G) : cj x 1 = x := by simp only [cj, inv_one, Grp.one_mul, Grp.mul_one]
theorem cj_inv (x g : G) : (cj x g)⁻¹ = cj x⁻¹ g := by simp only [cj, mul_inv_rev, inv_inv, Grp.assoc]
theorem cj_two (z g d : G) : cj (cj z d) (cj g d) = cj (cj z g) d := by
 simp only [cj, mul_inv_rev, inv_inv, Grp.assoc, mul_inv_l]
theorem inf_cjD (x : G) (k : Int) : Γ.inf (cj x (Γ.D k)) = Γ.inf x := by
 unfold cj
 rw [D_neg, Γ.inf_Dl, Γ.inf_Dr]
 omega
def gc (p : Int) (z : G) : G := Γ.D p * (Γ.hd (Γ.D (-p) * z) * Γ.D (-p))
def cy (p : Int) (z : G) : G := cj z (Γ.gc p z)
def cyI (p : Int) (x : G) : Nat → G
 | 0 => x
 | k + 1 => Γ.cy p (cyI p x k)
theorem gg_gc (p : Int) (z : G) : Γ.gg p z = Γ.gc p z * Γ.D (-1) := by
 unfold gg gc
 rw [Grp.assoc, Grp.assoc, ← Γ.D_add, show -p + -1 = -(p + 1) by omega]
theorem F_cy (p : Int) (z : G) : Γ.F p z = cj (Γ.cy p z) (Γ.D (-1)) := by
 unfold F cy
 rw [gg_gc, cj_cj]
theorem Bk_F (p : Int) (x : G) (k : Nat) : cj x (Γ.Bk p x (k + 1)) = Γ.F p (cj x (Γ.Bk p x k)) := by
 unfold F
 rw [cj_cj]
 rfl
theorem cy_inf {p : Int} {z : G} (hz : p ≤ Γ.inf z) : p ≤ Γ.inf (Γ.cy p z) := by
 have := Γ.F_inf hz
 rw [F_cy, inf_cjD] at this
 exact this
theorem cyI_inf {p : Int} {x : G} (hx : p ≤ Γ.inf x) : ∀ k, p ≤ Γ.inf (Γ.cyI p x k)
 | 0 => hx
 | k + 1 => Γ.cy_inf (cyI_inf hx k)
variable (turn : ∀ (p : Int) (a : G), 0 ≤ Γ.inf a → Γ.hd (Γ.D p * (a * Γ.D (-p))) = Γ.D p * (Γ.hd a * Γ.D (-p)))
include turn
theorem cy_D {p : Int} {z : G} (hz : p ≤ Γ.inf z) (k : Int) : Γ.cy p (cj z (Γ.D k)) = cj (Γ.cy p z) (Γ.D k) := by
 have e : Γ.gc p (cj z (Γ.D k)) = cj (Γ.gc p z) (Γ.D k) := by
  have h := turn (-k) (Γ.D (-p) * z) (Γ.Zpos hz)
  rw [Int.neg_neg] at h
  have e1 : Γ.D (-p) * cj z (Γ.D k) = Γ.D (-k) * (Γ.D (-p) * z * Γ.D k) := by
   unfold cj
   rw [D_neg, ← Grp.assoc, ← Γ.D_add, show -p + -k = -k + -p by omega, Γ.D_add]
   simp only [Grp.assoc]
  unfold gc
  rw [e1, h]
  unfold cj
  rw [D_neg, ← Grp.assoc, ← Grp.assoc, ← Γ.D_add, show p + -k = -k + p by omega, Γ.D_add]
  simp only [Grp.assoc]
  rw [← Γ.D_add k, ← Γ.D_add (-p), show k + -p = -p + k by omega]
 unfold cy
 rw [e, cj_two]
theorem Bk_cyI {p : Int} {x : G} (hx : p ≤ Γ.inf x) : ∀ k : Nat, cj x (Γ.Bk p x k) = cj (Γ.cyI p x k) (Γ.D (-(k : Int)))
 | 0 => by
  show cj x 1 = cj x (Γ.D (-((0 : Nat) : Int)))
  rw [show -((0 : Nat) : Int) = 0 by omega, Γ.D_zero]
 | k + 1 => by
  rw [Bk_F, Bk_cyI hx k, F_cy, Γ.cy_D turn (Γ.cyI_inf hx k), cj_cj, ← Γ.D_add]
  show _ = cj (Γ.cy p (Γ.cyI p x k)) _
  rw [show -(k : Int) + -1 = -((k + 1 : Nat) : Int) by omega]
omit turn
variable (cen : ∀ (k : Int) (a : G), Γ.D (2 * k) * a = a * Γ.D (2 * k))
include cen
theorem conj_pos (x g : G) : ∃ f, 0 ≤ Γ.inf f ∧ x * f = f * cj x g := by
 refine ⟨g * Γ.D (2 * ((Γ.inf g).natAbs : Int)), ?_, ?_⟩
 · rw [Γ.inf_Dr]; omega
 · unfold cj
   rw [Grp.assoc, cen, Grp.assoc, ← Grp.assoc g, Grp.mul_inv, Grp.one_mul, Grp.assoc, ← Grp.assoc x]
theorem conj_pos' (x g : G) : ∃ f, 0 ≤ Γ.inf f ∧ cj x g * f = f * x := by
 obtain ⟨f, h1, h2⟩ := Γ.conj_pos cen (cj x g) g⁻¹
 refine ⟨f, h1, ?_⟩
 rw [h2, cj_cj, Grp.mul_inv, cj_one]
include turn
theorem cyc_max {p : Int} {x g : G} (hx : p ≤ Γ.inf x) (hy : p + 1 ≤ Γ.inf (cj x g)) : p + 1 ≤ Γ.inf (Γ.cyI p x Γ.N) := by
 obtain ⟨f, h1, h2⟩ := Γ.conj_pos' cen x g
 have := Γ.cycles turn (p := p) _ x (cj x g) f h1 hy hx h2 (Nat.lt_succ_self _)
 rw [Γ.Bk_cyI turn hx, inf_cjD] at this
 exact this
theorem F_max {p : Int} {x g : G} (hx : p ≤ Γ.inf x) (hy : p + 1 ≤ Γ.inf (cj x g)) : p + 1 ≤ Γ.inf (cj x (Γ.Bk p x Γ.N)) := by
 obtain ⟨f, h1, h2⟩ := Γ.conj_pos' cen x g
 exact Γ.cycles turn (p := p) _ x (cj x g) f h1 hy hx h2 (Nat.lt_succ_self _)
end Cj
end Go.Gar
