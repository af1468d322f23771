/- Texts merged: Md1 Md2 Md3 Mw1 Mw3 Mu8 Mv1 Mv2 Mv3 Mv4 Mv5 Mu9 Mv7 MvA. -/
import Derived.Test.YtmdkgikjnaijeaaGreatWc
import Derived.Test.YtmdkgikjnaijeaaGreatWd
import Derived.Test.YtmdkgikjnaijeaaGreatWe
import Derived.Test.YtmdkgikjnaijeaaGreatWa
set_option linter.unusedVariables false
set_option linter.unusedSimpArgs false
namespace Go.Ev.YtmdkgikjnaijeaaGreat
open Go.Ev Go.Gar
end Go.Ev.YtmdkgikjnaijeaaGreat
namespace Go.Ev.YtmdkgikjnaijeaaGreat
open Go.Ev Go.Gar
end Go.Ev.YtmdkgikjnaijeaaGreat
namespace Go.Ev.YtmdkgikjnaijeaaGreat
open Go.Ev Go.Gar
end Go.Ev.YtmdkgikjnaijeaaGreat
namespace Go.Ev.YtmdkgikjnaijeaaGreat
open Go.Ev Go.Gar
def times (l : List Int) : Nat → List Int
 | 0 => []
 | k + 1 => l ++ times l k
end Go.Ev.YtmdkgikjnaijeaaGreat
namespace Go.Ev.YtmdkgikjnaijeaaGreat
open Go.Ev Go.Gar
theorem e0 : ((0 : Int) != 0) = false := rfl
end Go.Ev.YtmdkgikjnaijeaaGreat
namespace Go.Ev.YtmdkgikjnaijeaaGreat
open Go.Ev Go.Gar
end Go.Ev.YtmdkgikjnaijeaaGreat
namespace Go.Gar
structure Cj (G : Type) [Grp G] where
 D : Int → G
 inf : G → Int
 hd : G → G
 cnt : G → Nat
 len : G → Nat
 N : Nat
 D_add : ∀ a b, D (a + b) = D a * D b
 D_zero : D 0 = 1
 inf_one : inf 1 = 0
 inf_mul : ∀ a b, inf a + inf b ≤ inf (a * b)
 inf_D : ∀ k, inf (D k) = k
 anti : ∀ a, 0 ≤ inf a → 0 ≤ inf a⁻¹ → a = 1
 hd_pos : ∀ a, 0 ≤ inf a → 0 ≤ inf (hd a)
 hd_le : ∀ a, 0 ≤ inf a → 0 ≤ inf ((hd a)⁻¹ * a)
 hd_D : ∀ a, 0 ≤ inf a → 0 ≤ inf ((hd a)⁻¹ * D 1)
 hd_max : ∀ a b, 0 ≤ inf a → 0 ≤ inf b → 0 ≤ inf ((hd b)⁻¹ * a) → 0 ≤ inf ((hd b)⁻¹ * hd a)
 hd_D1 : hd (D 1) = D 1
 hd_mul : ∀ a b, 0 ≤ inf a → 0 ≤ inf b → 0 ≤ inf ((hd (a * b))⁻¹ * (a * hd b))
 cnt_lt : ∀ a b, 0 ≤ inf a → 0 ≤ inf b → 0 ≤ inf ((hd a)⁻¹ * hd b) → hd a ≠ hd b → cnt (hd a) < cnt (hd b)
 cnt_le : ∀ a, 0 ≤ inf a → cnt (hd a) ≤ N
 hd_one : ∀ a, 0 ≤ inf a → hd a = 1 → a = 1
 len_lt : ∀ a, 0 ≤ inf a → hd a ≠ 1 → len ((hd a)⁻¹ * a) < len a
namespace Cj
variable {G : Type} [Grp G] (Γ : Cj G)
theorem zNI (k : Int) : (Γ.D k)⁻¹ = Γ.D (-k) := by
 have h : Γ.D (-k) * Γ.D k = 1 := by rw [← Γ.D_add, show -k + k = 0 by omega, Γ.D_zero]
 have : Γ.D (-k) * Γ.D k * (Γ.D k)⁻¹ = (Γ.D k)⁻¹ := by rw [h, Grp.one_mul]
 rw [← this, Grp.assoc, Grp.mul_inv, Grp.mul_one]
theorem inf_Dl (k : Int) (a : G) : Γ.inf (Γ.D k * a) = k + Γ.inf a := by
 have h1 := Γ.inf_mul (Γ.D k) a; have h2 := Γ.inf_mul (Γ.D (-k)) (Γ.D k * a); rw [← Grp.assoc, ← Γ.D_add, show -k + k = 0 by omega, Γ.D_zero, Grp.one_mul, Γ.inf_D] at h2; rw [Γ.inf_D] at h1; omega
theorem inf_Dr (k : Int) (a : G) : Γ.inf (a * Γ.D k) = Γ.inf a + k := by
 have h1 := Γ.inf_mul a (Γ.D k); have h2 := Γ.inf_mul (a * Γ.D k) (Γ.D (-k)); rw [Grp.assoc, ← Γ.D_add, show k + -k = 0 by omega, Γ.D_zero, Grp.mul_one, Γ.inf_D] at h2; rw [Γ.inf_D] at h1; omega
def le (a b : G) : Prop := 0 ≤ Γ.inf (a⁻¹ * b)
theorem le_trans {a b c : G} (h : Γ.le a b) (g : Γ.le b c) : Γ.le a c := by
 unfold le at *; have := Γ.inf_mul (a⁻¹ * b) (b⁻¹ * c); rw [Grp.assoc, zb] at this; omega
theorem le_anti {a b : G} (h : Γ.le a b) (g : Γ.le b a) : a = b := by
 unfold le at *; have := Γ.anti (a⁻¹ * b) h (by rw [zL, kS]; exact g); have e : a * (a⁻¹ * b) = a * 1 := by rw [this]
 rw [zb, Grp.mul_one] at e; exact e.symm
def cj (x g : G) : G := g⁻¹ * (x * g)
theorem cj_inf {x g : G} {p : Int} : p ≤ Γ.inf (cj x g) ↔ Γ.le g (x * g * Γ.D (-p)) := by
 unfold le cj; rw [← Grp.assoc, ← Grp.assoc, Γ.inf_Dr]; rw [Grp.assoc]; constructor <;> intro h <;> omega
theorem cj_cj (x g h : G) : cj (cj x g) h = cj x (g * h) := by
 simp only [cj, zL, Grp.assoc]
theorem split (x g : G) (p : Int) : x * g * Γ.D (-p) = (x * Γ.D (-p)) * (Γ.D p * (g * Γ.D (-p))) := by
 rw [Grp.assoc x (Γ.D (-p)), ← Grp.assoc (Γ.D (-p)), ← Γ.D_add, show -p + p = 0 by omega, Γ.D_zero, Grp.one_mul, Grp.assoc]
theorem head_conj {x f : G} {p : Int} (hf : 0 ≤ Γ.inf f) (hx : p ≤ Γ.inf x) {t : G} (ht0 : 0 ≤ Γ.inf t) (ht : Γ.le (Γ.hd t) (x * f * Γ.D (-p))) (turn : ∀ a : G, 0 ≤ Γ.inf a → Γ.hd (Γ.D p * (a * Γ.D (-p))) = Γ.D p * (Γ.hd a * Γ.D (-p))) :
  Γ.le (Γ.hd t) (x * Γ.hd f * Γ.D (-p)) := by
 have h1 : 0 ≤ Γ.inf (x * Γ.D (-p)) := by rw [Γ.inf_Dr]; omega
 have h2 : 0 ≤ Γ.inf (Γ.D p * (f * Γ.D (-p))) := by rw [Γ.inf_Dl, Γ.inf_Dr]; omega
 rw [split] at ht; have h3 : 0 ≤ Γ.inf (x * Γ.D (-p) * (Γ.D p * (f * Γ.D (-p)))) := by
  have := Γ.inf_mul (x * Γ.D (-p)) (Γ.D p * (f * Γ.D (-p))); omega
 have h4 : Γ.le (Γ.hd t) (Γ.hd (x * Γ.D (-p) * (Γ.D p * (f * Γ.D (-p))))) := Γ.hd_max _ _ h3 ht0 ht; have h5 := Γ.hd_mul _ _ h1 h2; rw [turn f hf] at h5; rw [split]; exact Γ.le_trans h4 h5
variable (turn : ∀ (p : Int) (a : G), 0 ≤ Γ.inf a → Γ.hd (Γ.D p * (a * Γ.D (-p))) = Γ.D p * (Γ.hd a * Γ.D (-p)))
include turn
theorem convex {x y f : G} {p : Int} (hf : 0 ≤ Γ.inf f) (h : x * f = f * y) (hx : p ≤ Γ.inf x) (hy : p ≤ Γ.inf y) : p ≤ Γ.inf (cj x (Γ.hd f)) := by
 rw [cj_inf]; refine Γ.head_conj hf hx hf ?_ (turn p); refine Γ.le_trans (b := f) (Γ.hd_le f hf) ?_; unfold le; rw [h, ← Grp.assoc, kF, Γ.inf_Dr]; omega
omit turn
def gg (p : Int) (z : G) : G := Γ.D p * (Γ.hd (Γ.D (-p) * z) * Γ.D (-(p + 1)))
def F (p : Int) (z : G) : G := cj z (Γ.gg p z)
theorem Zpos {p : Int} {z : G} (hz : p ≤ Γ.inf z) : 0 ≤ Γ.inf (Γ.D (-p) * z) := by rw [Γ.inf_Dl]; omega
theorem F_inf {p : Int} {z : G} (hz : p ≤ Γ.inf z) : p ≤ Γ.inf (Γ.F p z) := by
 have h0 := Γ.Zpos hz; have h1 := Γ.hd_le _ h0; have h2 := Γ.hd_pos _ h0; unfold F cj gg; generalize Γ.hd (Γ.D (-p) * z) = h at h1 h2; have e : (Γ.D p * (h * Γ.D (-(p + 1))))⁻¹ * (z * (Γ.D p * (h * Γ.D (-(p + 1))))) = Γ.D (p + 1) * ((h⁻¹ * (Γ.D (-p) * z)) * (Γ.D p * (h * Γ.D (-(p + 1))))) := by
  simp only [zL, zNI, Grp.assoc, Int.neg_neg]
 rw [e, Γ.inf_Dl]; have h3 := Γ.inf_mul (h⁻¹ * (Γ.D (-p) * z)) (Γ.D p * (h * Γ.D (-(p + 1)))); rw [Γ.inf_Dl, Γ.inf_Dr] at h3; omega
theorem fg_pos {p : Int} {y f z : G} (hf : 0 ≤ Γ.inf f) (hy : p + 1 ≤ Γ.inf y) (hz : p ≤ Γ.inf z) (h : y * f = f * z) : 0 ≤ Γ.inf (f * Γ.gg p z) := by
 have h0 := Γ.Zpos hz; have hV : 0 ≤ Γ.inf (Γ.D (-p) * (f * Γ.D p)) := by rw [Γ.inf_Dl, Γ.inf_Dr]; omega
 have hVX : Γ.D (-p) * (f * Γ.D p) * (Γ.D (-p) * z) = Γ.D (-p) * (y * f) := by
  rw [h, Grp.assoc, Grp.assoc f, ← Grp.assoc (Γ.D p), ← Γ.D_add, show p + -p = 0 by omega, Γ.D_zero, Grp.one_mul]
 have h1 : 1 ≤ Γ.inf (Γ.D (-p) * (f * Γ.D p) * (Γ.D (-p) * z)) := by
  rw [hVX, Γ.inf_Dl]; have := Γ.inf_mul y f; omega
 have h2 : Γ.le (Γ.D 1) (Γ.D (-p) * (f * Γ.D p) * (Γ.D (-p) * z)) := by
  unfold le; rw [zNI, Γ.inf_Dl]; omega
 have h3 := Γ.hd_max _ (Γ.D 1) (show 0 ≤ Γ.inf (Γ.D (-p) * (f * Γ.D p) * (Γ.D (-p) * z)) by omega) (by rw [Γ.inf_D]; omega) (by rw [Γ.hd_D1]; exact h2); rw [Γ.hd_D1] at h3; have h4 := Γ.le_trans h3 (Γ.hd_mul _ _ hV h0); unfold le at h4; rw [zNI, Γ.inf_Dl] at h4; have e : f * Γ.gg p z = Γ.D p * (Γ.D (-p) * (f * Γ.D p) * Γ.hd (Γ.D (-p) * z) * Γ.D (-(p + 1))) := by
  unfold gg; simp only [Grp.assoc]; rw [← Grp.assoc (Γ.D p) (Γ.D (-p)), ← Γ.D_add, show p + -p = 0 by omega, Γ.D_zero, Grp.one_mul]
 rw [e, Γ.inf_Dl, Γ.inf_Dr]; omega
theorem fg_le {p : Int} {f z : G} (hz : p ≤ Γ.inf z) : Γ.le (f * Γ.gg p z) f ∧ Γ.le (f * Γ.gg p z) (f * z * Γ.D (-(p + 1))) := by
 have h0 := Γ.Zpos hz; have h1 := Γ.hd_le _ h0; have h2 := Γ.hd_D _ h0
 constructor
 · unfold le gg; generalize Γ.hd (Γ.D (-p) * z) = h at h1 h2; have e : (f * (Γ.D p * (h * Γ.D (-(p + 1)))))⁻¹ * f = Γ.D (p + 1) * (h⁻¹ * Γ.D 1 * Γ.D (-(p + 1))) := by
    simp only [zL, zNI, Grp.assoc, Int.neg_neg, Grp.inv_mul, Grp.mul_one]; rw [← Γ.D_add 1, show 1 + -(p + 1) = -p by omega]
   rw [e, Γ.inf_Dl, Γ.inf_Dr]; omega
 · unfold le gg; generalize Γ.hd (Γ.D (-p) * z) = h at h1 h2; have e : (f * (Γ.D p * (h * Γ.D (-(p + 1)))))⁻¹ * (f * z * Γ.D (-(p + 1))) = Γ.D (p + 1) * (h⁻¹ * (Γ.D (-p) * z) * Γ.D (-(p + 1))) := by
    simp only [zL, zNI, Grp.assoc, Int.neg_neg, kF]
   rw [e, Γ.inf_Dl, Γ.inf_Dr]; omega
def Bk (p : Int) (x : G) : Nat → G
 | 0 => 1
 | k + 1 => Bk p x k * Γ.gg p (cj x (Bk p x k))
theorem Bk_inf {p : Int} {x : G} (hx : p ≤ Γ.inf x) : ∀ k, p ≤ Γ.inf (cj x (Γ.Bk p x k))
 | 0 => by simpa [Bk, cj, jJ, Grp.one_mul, Grp.mul_one] using hx
 | k + 1 => by
  have := Γ.F_inf (Bk_inf hx k); unfold F at this; rw [cj_cj] at this; exact this
theorem zRH {x y f : G} (h : y * f = f * x) (g : G) : y * (f * g) = f * g * cj x g := by
 unfold cj; rw [← Grp.assoc, h, Grp.assoc, Grp.assoc, zb]
theorem fB_pos {p : Int} {x y f : G} (hf : 0 ≤ Γ.inf f) (hy : p + 1 ≤ Γ.inf y) (hx : p ≤ Γ.inf x) (h : y * f = f * x) : ∀ k, 0 ≤ Γ.inf (f * Γ.Bk p x k)
 | 0 => by simpa [Bk, Grp.mul_one] using hf
 | k + 1 => by
  have := Γ.fg_pos (fB_pos hf hy hx h k) hy (Γ.Bk_inf hx k) (zRH h _); simp only [Bk]; rw [← Grp.assoc]; exact this
theorem fB_le {p : Int} {x f : G} (hx : p ≤ Γ.inf x) (k : Nat) : Γ.le (f * Γ.Bk p x (k + 1)) (f * Γ.Bk p x k) := by
 have := (Γ.fg_le (f := f * Γ.Bk p x k) (Γ.Bk_inf hx k)).1; simp only [Bk]; rw [← Grp.assoc]; exact this
theorem hd_mono {a b : G} (ha : 0 ≤ Γ.inf a) (hb : 0 ≤ Γ.inf b) (h : Γ.le a b) : Γ.le (Γ.hd a) (Γ.hd b) := Γ.hd_max b a hb ha (Γ.le_trans (b := a) (Γ.hd_le a ha) h)
theorem chain (u : Nat → G) (hp : ∀ k, 0 ≤ Γ.inf (u k)) (hd : ∀ k, Γ.le (u (k + 1)) (u k)) : ∀ m, (∃ k, k < m ∧ Γ.hd (u k) = Γ.hd (u (k + 1))) ∨ Γ.cnt (Γ.hd (u m)) + m ≤ Γ.cnt (Γ.hd (u 0))
 | 0 => .inr (Nat.le_refl _)
 | m + 1 => by
  rcases chain u hp hd m with ⟨k, h1, h2⟩ | h
  · exact .inl ⟨k, by omega, h2⟩
  · by_cases e : Γ.hd (u m) = Γ.hd (u (m + 1))
    · exact .inl ⟨m, by omega, e⟩
    · have := Γ.cnt_lt _ _ (hp (m + 1)) (hp m) (Γ.hd_mono (hp (m + 1)) (hp m) (hd m)) (fun h => e h.symm); exact .inr (by omega)
theorem le_down (u : Nat → G) (hd : ∀ k, Γ.le (u (k + 1)) (u k)) (k : Nat) : ∀ d, Γ.le (u (k + d)) (u k)
 | 0 => by unfold le; rw [Nat.add_zero, Grp.inv_mul, Γ.inf_one]; exact Int.le_refl _
 | d + 1 => Γ.le_trans (hd (k + d)) (le_down u hd k d)
theorem hd_1 : Γ.hd 1 = 1 := by
 have h1 := Γ.hd_le 1 (by rw [Γ.inf_one]; exact Int.le_refl _); have h2 := Γ.hd_pos 1 (by rw [Γ.inf_one]; exact Int.le_refl _); rw [Grp.mul_one] at h1; exact Γ.anti _ h2 h1
include turn
theorem cycles {p : Int} : ∀ (r : Nat) (x y f : G), 0 ≤ Γ.inf f → p + 1 ≤ Γ.inf y → p ≤ Γ.inf x → y * f = f * x → Γ.len (f * Γ.Bk p x Γ.N) < r → p + 1 ≤ Γ.inf (cj x (Γ.Bk p x Γ.N)) := by
 intro r
 induction r with
 | zero => intro x y f _ _ _ _ h; omega
 | succ r ih =>
  intro x y f hf hy hx h hr; have hp : ∀ k, 0 ≤ Γ.inf (f * Γ.Bk p x k) := Γ.fB_pos hf hy hx h; have hdn : ∀ k, Γ.le (f * Γ.Bk p x (k + 1)) (f * Γ.Bk p x k) := Γ.fB_le hx; have fin : f * Γ.Bk p x Γ.N = 1 → p + 1 ≤ Γ.inf (cj x (Γ.Bk p x Γ.N)) := by
   intro e; have := zRH h (Γ.Bk p x Γ.N); rw [e, Grp.mul_one, Grp.one_mul] at this; rw [← this]; exact hy
  rcases Γ.chain (fun k => f * Γ.Bk p x k) hp hdn Γ.N with ⟨k, hk, e⟩ | hc
  · have hmono : ∀ j, Γ.le (f * Γ.Bk p x (k + j)) (f * Γ.Bk p x k) := Γ.le_down (fun k => f * Γ.Bk p x k) hdn k; obtain ⟨j, hj⟩ : ∃ j, Γ.N = k + j := ⟨Γ.N - k, by omega⟩
    by_cases h1 : Γ.hd (f * Γ.Bk p x k) = 1
    · have e1 := Γ.hd_one _ (hp k) h1; have := hmono j; rw [← hj, e1] at this; unfold le at this; rw [Grp.mul_one] at this; exact fin (Γ.anti _ (hp Γ.N) this)
    ·
     have a1 : Γ.le (Γ.hd (f * Γ.Bk p x k)) (f * Γ.Bk p x (k + 1)) := by rw [e]; exact Γ.hd_le _ (hp (k + 1))
     have a2 : Γ.le (f * Γ.Bk p x (k + 1)) (f * Γ.Bk p x k * cj x (Γ.Bk p x k) * Γ.D (-(p + 1))) := by
      have := (Γ.fg_le (f := f * Γ.Bk p x k) (Γ.Bk_inf hx k)).2; simp only [Bk]; rw [← Grp.assoc f]; exact this
     have a3 := Γ.le_trans a1 a2; rw [← zRH h] at a3; have a4 := (Γ.cj_inf (x := y) (g := Γ.hd (f * Γ.Bk p x k)) (p := p + 1)).2 (Γ.head_conj (hp k) hy (hp k) a3 (turn (p + 1))); have a5 : Γ.le (Γ.hd (f * Γ.Bk p x k)) f := by
      have := Γ.le_down (fun k => f * Γ.Bk p x k) hdn 0 k; simp only [Nat.zero_add, Bk, Grp.mul_one] at this; exact Γ.le_trans (b := f * Γ.Bk p x k) (Γ.hd_le _ (hp k)) this
     generalize hθ : Γ.hd (f * Γ.Bk p x k) = θ at a3 a4 a5 h1; have rel : cj y θ * (θ⁻¹ * f) = θ⁻¹ * f * x := by
      unfold cj; rw [Grp.assoc, Grp.assoc, zb, h, Grp.assoc]
     have hq := Γ.fB_pos (f := θ⁻¹ * f) a5 a4 hx rel Γ.N; rw [Grp.assoc] at hq; have hθN : θ = Γ.hd (f * Γ.Bk p x Γ.N) := by
      refine Γ.le_anti ?_ ?_
      · have := Γ.hd_max _ _ (hp Γ.N) (hp k) (by rw [hθ]; exact hq); rw [hθ] at this; exact this
      · have := Γ.hd_mono (hp (k + j)) (hp k) (hmono j); rw [← hj, hθ] at this; exact this
     refine ih x (cj y θ) (θ⁻¹ * f) a5 a4 hx rel ?_; rw [Grp.assoc, hθN]; have := Γ.len_lt _ (hp Γ.N) (by rw [← hθN]; exact h1); omega
  · have c0 := Γ.cnt_le _ (hp 0); have : Γ.hd (f * Γ.Bk p x Γ.N) = 1 := by
     apply Classical.byContradiction; intro hne; have one : 0 ≤ Γ.inf (1 : G) := by rw [Γ.inf_one]; exact Int.le_refl _
     have := Γ.cnt_lt 1 _ one (hp Γ.N) (by rw [Γ.hd_1, jJ, Grp.one_mul]; exact Γ.hd_pos _ (hp Γ.N)) (by rw [Γ.hd_1]; exact fun e => hne e.symm); omega
    exact fin (Γ.hd_one _ (hp Γ.N) this)
theorem path {p q : Int} {Q : G → Prop} {y : G} (hy : p ≤ Γ.inf y) (hy' : q ≤ Γ.inf y⁻¹) (step : ∀ z a : G, 0 ≤ Γ.inf a → Q z → p ≤ Γ.inf (cj z (Γ.hd a)) → q ≤ Γ.inf (cj z (Γ.hd a))⁻¹ → Q (cj z (Γ.hd a))) :
  ∀ (r : Nat) (x f : G), Γ.len f < r → 0 ≤ Γ.inf f → x * f = f * y → p ≤ Γ.inf x → q ≤ Γ.inf x⁻¹ → Q x → Q y := by
 intro r
 induction r with
 | zero => intro x f h; omega
 | succ r ih =>
  intro x f hr hf h hx hx' hQ
  by_cases h1 : Γ.hd f = 1
  · have e := Γ.hd_one f hf h1; rw [e, Grp.mul_one, Grp.one_mul] at h; rw [← h]; exact hQ
  · have b1 := Γ.convex turn hf h hx hy; have hinv : x⁻¹ * f = f * y⁻¹ := by
     have : x⁻¹ * (x * f) * y⁻¹ = x⁻¹ * (f * y) * y⁻¹ := by rw [h]
     rw [kF, Grp.assoc, Grp.assoc, Grp.mul_inv, Grp.mul_one] at this; exact this.symm
    have b2 := Γ.convex turn hf hinv hx' hy'; have e2 : (cj x (Γ.hd f))⁻¹ = cj x⁻¹ (Γ.hd f) := by simp only [cj, zL, kS, Grp.assoc]
    refine ih (cj x (Γ.hd f)) ((Γ.hd f)⁻¹ * f) ?_ (Γ.hd_le f hf) ?_ b1 (by rw [e2]; exact b2) (step x f hf hQ b1 (by rw [e2]; exact b2))
    · have := Γ.len_lt f hf h1; omega
    · unfold cj; rw [Grp.assoc, Grp.assoc, zb, h, Grp.assoc]
end Cj
end Go.Gar
namespace Go.Ev.YtmdkgikjnaijeaaGreat
open Go.Ev Go.Gar
abbrev NG (m : Nat) := {v : Nm (m + 2) // (Pm.lat (m + 2)).Proper v.2}
theorem le2 (m : Nat) : 2 ≤ m + 2 := by omega
noncomputable instance ngGrp (m : Nat) : Grp (NG m) where
 mul a b := ⟨prod a.1 b.1, zRM (le2 m) _ _⟩
 one := ⟨eN (m + 2), Lat.Proper.nil⟩
 inv a := ⟨invN a.1, zU9 (le2 m) _⟩
 assoc a b c := Subtype.ext (jU (le2 m) _ _ _)
 one_mul a := Subtype.ext (zI1 (le2 m) a.2)
 mul_one a := Subtype.ext (zU1 (le2 m) a.2)
 inv_mul a := Subtype.ext (zVn (le2 m) a.2)
 mul_inv a := Subtype.ext (zVm (le2 m) a.2)
variable {m : Nat}
theorem zUQ (a b : NG m) : (a * b).1 = prod a.1 b.1 := rfl
def dG (k : Int) : NG m := ⟨(k, []), Lat.Proper.nil⟩
noncomputable def sG (s : Pm (m + 2)) : NG m := ⟨sN s, (kf (le2 m) 0 [s]).1⟩
noncomputable def mG (Y : List (Pm (m + 2))) : NG m := ⟨mk 0 Y, (kf (le2 m) 0 Y).1⟩
theorem zMa {G : Type} [Grp G] {a b : G} (h : a * b = 1) : b⁻¹ = a := by
 have : a * b * b⁻¹ = b⁻¹ := by rw [h, Grp.one_mul]
 rw [← this, Grp.assoc, Grp.mul_inv, Grp.mul_one]
theorem zTK (s : Pm (m + 2)) : ((sG s)⁻¹ : NG m).1 = isN s := by
 have : (⟨isN s, zU8 (le2 m) s⟩ : NG m) * sG s = 1 := Subtype.ext (is_s (le2 m) s); rw [zMa this]
theorem zUH {n : Nat} (h2 : 2 ≤ n) (v : Nm n) (s : Pm n) : prod (isN s) v = less1 v s := zPE h2 v s
theorem zNq (s : Pm (m + 2)) (a : NG m) : ((sG s)⁻¹ * a).1 = less1 a.1 s := by rw [zUQ, zTK, zUH (le2 m)]
theorem zFU (X Y : List (Pm (m + 2))) : (mG (X ++ Y) : NG m) = mG X * mG Y := Subtype.ext (zSh (le2 m) 0 0 X Y).symm
theorem zEN (s : Pm (m + 2)) : (mG [s] : NG m) = sG s := rfl
theorem zTz {n : Nat} (h2 : 2 ≤ n) : sN (1 : Pm n) = eN n := zRW h2 0 Lat.Proper.nil
theorem zOy : (sG 1 : NG m) = 1 := Subtype.ext (zTz (le2 m))
theorem zNr : (sG (Pm.half (m + 2)) : NG m) = dG 1 := Subtype.ext (mk_D (le2 m) 0)
theorem zRO (a : NG m) (h0 : 0 ≤ a.1.1) : ∃ Y, a = mG Y := by
 obtain ⟨⟨p, A⟩, hP⟩ := a; refine ⟨(Pm.lat (m + 2)).Ds p.toNat ++ A, Subtype.ext ?_⟩; have h : (Pm.lat (m + 2)).nf ((Pm.lat (m + 2)).Ds p.toNat ++ A) = (Pm.lat (m + 2)).Ds p.toNat ++ A ++ Lat.ones 0 := by
  rw [Lat.nf_Ds _ (allS _), Lat.nf_fix hP.W]; simp only [Lat.ones, List.replicate_zero, List.append_nil]
 have hn := Lat.norm_of (kw (le2 m)) h hP; show (p, A) = mk 0 _; simp only [mk, hn]; have : 0 ≤ p := h0; congr 1; omega
theorem zSG {n : Nat} (t : Pm n) (Z : List (Pm n)) : ((Pm.lat n).L t Z).headD 1 = t * (Pm.lat n).meet ((Pm.lat n).K t) (Z.headD 1) := by
 cases Z with
 | nil =>
  show t = t * (Pm.lat n).meet ((Pm.lat n).K t) 1; rw [Lat.meet_one_r (Γ := Pm.lat n) trivial, Grp.mul_one]
 | cons z Z => rfl
theorem zIv {n : Nat} : ∀ (X Z Z' : List (Pm n)), Z.headD 1 = Z'.headD 1 → (X.foldr (Pm.lat n).L Z).headD 1 = (X.foldr (Pm.lat n).L Z').headD 1
 | [], Z, Z', h => h
 | x :: X, Z, Z', h => by
  rw [List.foldr_cons, List.foldr_cons, zSG, zSG, zIv X Z Z' h]
theorem zUN (Y : List (Pm (m + 2))) : hd (mG Y : NG m).1 = ((Pm.lat (m + 2)).nf Y).headD 1 := zUM (le2 m) Y
theorem zVp {n : Nat} (h2 : 2 ≤ n) (s : Pm n) : hd (sN s) = s := zUM h2 [s]
theorem zRc (s : Pm (m + 2)) : hd (sG s : NG m).1 = s := zVp (le2 m) s
theorem zSr {a b : NG m} (ha : 0 ≤ a.1.1) (hb : 0 ≤ b.1.1) : hd (a * b).1 = hd (a * sG (hd b.1)).1 := by
 obtain ⟨X, rfl⟩ := zRO a ha; obtain ⟨Y, rfl⟩ := zRO b hb; rw [← zFU, ← zEN, ← zFU, zUN, zUN, Lat.nf_append, Lat.nf_append, zUN]; exact zIv _ _ _ rfl
theorem le_s (a : NG m) (h0 : 0 ≤ a.1.1) (s : Pm (m + 2)) : 0 ≤ ((sG s)⁻¹ * a).1.1 ↔ (Pm.lat (m + 2)).le s (hd a.1) := by
 constructor
 · intro h; rw [zNq] at h; rw [zUO (le2 m) a.1 a.2 s h]; exact (Lat.P1 (Γ := Pm.lat (m + 2)) trivial trivial ((Pm.lat (m + 2)).meet_l trivial trivial)).2
 · intro h
   by_cases h1 : s = 1
   · subst h1; rw [zOy, jJ, Grp.one_mul]; exact h0
   · rw [zNq]; exact zSl (le2 m) a.1 h0 s h1 h
theorem zGe (a b : NG m) : a.1.1 + b.1.1 ≤ (a * b).1.1 := (kf (le2 m) (a.1.1 + b.1.1) (tk b.1.1 a.1.2 ++ b.1.2)).2.1
theorem zIu (s : Pm (m + 2)) : 0 ≤ (sG s : NG m).1.1 := (kf (le2 m) 0 [s]).2.1
theorem zP8 {n : Nat} {A B : List (Pm n)} (h2 : 2 ≤ n) (hA : (Pm.lat n).Proper A) (h : (Pm.lat n).norm (A ++ B) = (0, [])) : A = [] := by
 have := zOt h2 B A hA.W (fun x hx => (hA.no x hx).2); rw [h] at this; simp only [List.length_nil] at this
 cases A with
 | nil => rfl
 | cons a A => simp only [List.length_cons] at this; omega
theorem zV4 (a : NG m) (h0 : 0 ≤ a.1.1) (h1 : 0 ≤ (a⁻¹).1.1) : a = 1 := by
 have e : (a * a⁻¹).1 = eN (m + 2) := by rw [Grp.mul_inv]; rfl
 obtain ⟨⟨p, A⟩, hP⟩ := a; generalize ((⟨(p, A), hP⟩ : NG m)⁻¹) = b at e h1; obtain ⟨⟨q, B⟩, hQ⟩ := b; have e1 : mk (p + q) (tk q A ++ B) = eN (m + 2) := e; simp only at h0 h1; have hp : p + q + (((Pm.lat (m + 2)).norm (tk q A ++ B)).1 : Int) = 0 := congrArg Prod.fst e1; have hl : ((Pm.lat (m + 2)).norm (tk q A ++ B)).2 = [] := congrArg Prod.snd e1; have hn : (Pm.lat (m + 2)).norm (tk q A ++ B) = (0, []) := Prod.ext (by show _ = 0; omega) hl; have hA := zP8 (le2 m) (zEG q hP) hn; have hA0 : A = [] := by
  have := congrArg List.length hA; rw [zOs] at this
  cases A with
  | nil => rfl
  | cons a A => simp at this
 apply Subtype.ext; show (p, A) = (0, []); rw [hA0, show p = 0 by omega]
theorem hd_le (a : NG m) (h0 : 0 ≤ a.1.1) : 0 ≤ ((sG (hd a.1))⁻¹ * a).1.1 := (le_s a h0 _).2 ((Pm.lat (m + 2)).refl trivial)
theorem zMo (p q : Int) : (dG (p + q) : NG m) = dG p * dG q := by
 apply Subtype.ext; show (p + q, []) = mk (p + q) (tk q [] ++ []); rw [zJ3, List.append_nil, zKB]
theorem zUB (a : NG m) (q : Int) : (a * dG q).1 = (a.1.1 + q, tk q a.1.2) := by
 show mk (a.1.1 + q) (tk q a.1.2 ++ []) = _; rw [List.append_nil, kO (le2 m) _ (zEG q a.2)]
theorem zEZ (a : NG m) (q : Int) : (dG q * a).1 = (q + a.1.1, a.1.2) := by
 show mk (q + a.1.1) (tk a.1.1 [] ++ a.1.2) = _; rw [zJ3, List.nil_append, kO (le2 m) _ a.2]
theorem zTX (a : NG m) (p : Int) : (dG p * (a * dG (-p))).1 = (a.1.1, tk (-p) a.1.2) := by
 rw [zEZ, zUB]; simp only; congr 1; omega
theorem zTp {n : Nat} (h2 : 2 ≤ n) (k : Int) (l : List (Pm n)) : (Pm.lat n).norm (tk k l) = (((Pm.lat n).norm l).1, tk k ((Pm.lat n).norm l).2) := by
 unfold tk
 split
 · rfl
 · exact (zGL n).norm (kw h2) (allS l)
theorem zTH (s : Pm (m + 2)) (p : Int) : (dG p * (sG s * dG (-p)) : NG m) = sG (t1 (-p) s) := by
 apply Subtype.ext; rw [zTX]; show _ = mk 0 [t1 (-p) s]; rw [← zQ2]; simp only [mk, zTp (le2 m)]
 rfl
theorem t1_1 {n : Nat} (p : Int) : t1 p (1 : Pm n) = 1 := by
 unfold t1
 split
 · rfl
 · show Pm.half n * 1 * Pm.half n = 1; rw [Grp.mul_one, Pm.half_half]
theorem zTr {n : Nat} (p : Int) : t1 p (Pm.half n) = Pm.half n := by
 unfold t1
 split
 · rfl
 · show Pm.half n * Pm.half n * Pm.half n = Pm.half n; rw [Pm.half_half, Grp.one_mul]
theorem zVo {n : Nat} (p q : Int) (A : List (Pm n)) : hd (p, tk q A) = t1 q (hd (p, A)) := by
 unfold hd; simp only
 split
 · exact (zTr q).symm
 · cases A with
   | nil => rw [zJ3]; exact (t1_1 q).symm
   | cons a A => rw [zQ4]; rfl
theorem zVT (p : Int) (a : NG m) : (sG (hd (dG p * (a * dG (-p))).1) : NG m) = dG p * (sG (hd a.1) * dG (-p)) := by
 rw [zTH, zTX, zVo]
theorem cenG (k : Int) (a : NG m) : dG (2 * k) * a = a * dG (2 * k) := by
 apply Subtype.ext; rw [zEZ, zUB]; have : tk (2 * k) a.1.2 = a.1.2 := by
  unfold tk; rw [if_pos ((par _).2 (by omega))]
 rw [this, Int.add_comm]
theorem zUL (a : NG m) (h0 : 0 ≤ a.1.1) (h : hd a.1 = 1) : a = 1 := by
 obtain ⟨⟨p, A⟩, hP⟩ := a; unfold hd at h; simp only at h h0
 by_cases hp : 0 < p
 · rw [if_pos hp] at h; exact absurd h (kw (le2 m))
 · rw [if_neg hp] at h
   cases A with
   | nil =>
    apply Subtype.ext; show (p, []) = (0, []); rw [show p = 0 by omega]
   | cons a A => exact absurd h ((hP.no a List.mem_cons_self).2)
theorem rest (a : NG m) (h0 : 0 ≤ a.1.1) (h1 : hd a.1 ≠ 1) : ((sG (hd a.1))⁻¹ * a).1 = if 0 < a.1.1 then (a.1.1 - 1, a.1.2) else (0, a.1.2.drop 1) := by
 obtain ⟨⟨p, A⟩, hP⟩ := a; unfold hd at h1 ⊢; simp only at h0 h1 ⊢
 by_cases hp : 0 < p
 · simp only [if_pos hp, zNr]; have : (⟨(p, A), hP⟩ : NG m) = dG 1 * ⟨(p - 1, A), hP⟩ := by
    apply Subtype.ext; rw [zEZ]; show (p, A) = (1 + (p - 1), A); congr 1; omega
   rw [this, kF]
 · simp only [if_neg hp] at h1 ⊢; have hp0 : p = 0 := by omega
   subst hp0
   cases A with
   | nil => exact absurd rfl h1
   | cons a A =>
    have hA : (Pm.lat (m + 2)).Proper A := zIi (A := a :: A) hP; have hP' : (Pm.lat (m + 2)).Proper (a :: A) := hP; have : (⟨(0, a :: A), hP⟩ : NG m) = sG a * ⟨(0, A), hA⟩ := by
     apply Subtype.ext; rw [zUQ]; show _ = prod (sN a) (0, A); have := zSE (le2 m) a A; rw [kO (le2 m) 0 hP', kO (le2 m) 0 hA] at this; exact this
    show ((sG a)⁻¹ * (⟨(0, a :: A), hP⟩ : NG m)).1 = _; rw [this, kF]
    rfl
theorem zUI (a : NG m) (h0 : 0 ≤ a.1.1) (h1 : hd a.1 ≠ 1) : ((sG (hd a.1))⁻¹ * a).1.1.toNat + ((sG (hd a.1))⁻¹ * a).1.2.length < a.1.1.toNat + a.1.2.length := by
 rw [rest a h0 h1]
 by_cases hp : 0 < a.1.1
 · rw [if_pos hp]; simp only; omega
 · rw [if_neg hp]; simp only [List.length_drop]; have : a.1.2.length ≠ 0 := by
    intro e; apply h1; unfold hd; rw [if_neg hp, List.length_eq_zero_iff.1 e]
    rfl
   omega
theorem zRt {n : Nat} {s t : Pm n} (h : (Pm.lat n).le s t) (hne : s ≠ t) : Pm.cnt s < Pm.cnt t := by
 have h' : ¬ Pm.le t s := fun h2 => hne (Pm.le_anti h h2); unfold Pm.le at h'; simp only [Classical.not_forall] at h'; obtain ⟨i, j, hij, h1, h2⟩ := h'; have hj := Pm.below hij h1; unfold Pm.cnt
 refine Pm.countP_lt (x := (i, j)) (fun y _ hy => ?_) ?_ ?_ ?_
 · simp only [Bool.and_eq_true, decide_eq_true_eq] at hy ⊢; exact ⟨hy.1, h y.1 y.2 hy.1 hy.2⟩
 · rw [List.mem_flatMap]; exact ⟨i, List.mem_range.2 (by omega), List.mem_map.2 ⟨j, List.mem_range.2 hj, rfl⟩⟩
 · simp only [decide_eq_true hij, Bool.true_and, decide_eq_false h2]
 · simp only [decide_eq_true hij, Bool.true_and, decide_eq_true h1]
theorem zOC {n : Nat} (s : Pm n) : Pm.cnt s ≤ Pm.cnt (Pm.half n) := by
 by_cases h : s = Pm.half n
 · rw [h]; exact Nat.le_refl _
 · exact Nat.le_of_lt (zRt (Pm.le_half s) h)
noncomputable def cjG (m : Nat) : Cj (NG m) where
 D := dG
 inf a := a.1.1
 hd a := sG (hd a.1)
 cnt a := Pm.cnt (hd a.1)
 len a := a.1.1.toNat + a.1.2.length
 N := Pm.cnt (Pm.half (m + 2))
 D_add := zMo
 D_zero := rfl
 inf_one := rfl
 inf_mul := zGe
 inf_D _ := rfl
 anti := zV4
 hd_pos a _ := zIu _
 hd_le := hd_le
 hd_D a h0 := (le_s (dG 1) (show (0 : Int) ≤ 1 by omega) _).2 ((Pm.lat (m + 2)).le_D trivial)
 hd_max a b ha hb h := (le_s (sG (hd a.1)) (zIu _) _).2 (by rw [zRc]; exact (le_s a ha _).1 h)
 hd_D1 := zNr
 hd_mul a b ha hb := by
  have hp : 0 ≤ (a * sG (hd b.1)).1.1 := by
   have := zGe a (sG (hd b.1)); have := zIu (hd b.1) (m := m); omega
  rw [zSr ha hb]; exact hd_le _ hp
 cnt_lt a b ha hb h hne := by
  rw [zRc, zRc]; have h1 := (le_s (sG (hd b.1)) (zIu _) _).1 h; rw [zRc] at h1; exact zRt h1 (fun e => hne (by rw [e]))
 cnt_le a _ := zOC _
 hd_one a h0 h := by
  apply zUL a h0; have := congrArg (fun x : NG m => hd x.1) h; simp only [zRc] at this; rw [this]
  rfl
 len_lt a h0 h := zUI a h0 (fun e => h (by rw [e, zOy]))
end Go.Ev.YtmdkgikjnaijeaaGreat
namespace Go.Gar
namespace Cj
variable {G : Type} [Grp G] (Γ : Cj G)
theorem cj_one (x : G) : cj x 1 = x := by simp only [cj, jJ, Grp.one_mul, Grp.mul_one]
theorem cj_inv (x g : G) : (cj x g)⁻¹ = cj x⁻¹ g := by simp only [cj, zL, kS, Grp.assoc]
theorem zVH (z g d : G) : cj (cj z d) (cj g d) = cj (cj z g) d := by
 simp only [cj, zL, kS, Grp.assoc, zb]
theorem zRb (x : G) (k : Int) : Γ.inf (cj x (Γ.D k)) = Γ.inf x := by
 unfold cj; rw [zNI, Γ.inf_Dl, Γ.inf_Dr]; omega
def gc (p : Int) (z : G) : G := Γ.D p * (Γ.hd (Γ.D (-p) * z) * Γ.D (-p))
def cy (p : Int) (z : G) : G := cj z (Γ.gc p z)
def cyI (p : Int) (x : G) : Nat → G
 | 0 => x
 | k + 1 => Γ.cy p (cyI p x k)
theorem zVq (p : Int) (z : G) : Γ.gg p z = Γ.gc p z * Γ.D (-1) := by
 unfold gg gc; rw [Grp.assoc, Grp.assoc, ← Γ.D_add, show -p + -1 = -(p + 1) by omega]
theorem F_cy (p : Int) (z : G) : Γ.F p z = cj (Γ.cy p z) (Γ.D (-1)) := by
 unfold F cy; rw [zVq, cj_cj]
theorem Bk_F (p : Int) (x : G) (k : Nat) : cj x (Γ.Bk p x (k + 1)) = Γ.F p (cj x (Γ.Bk p x k)) := by
 unfold F; rw [cj_cj]
 rfl
theorem cy_inf {p : Int} {z : G} (hz : p ≤ Γ.inf z) : p ≤ Γ.inf (Γ.cy p z) := by
 have := Γ.F_inf hz; rw [F_cy, zRb] at this; exact this
theorem cyI_inf {p : Int} {x : G} (hx : p ≤ Γ.inf x) : ∀ k, p ≤ Γ.inf (Γ.cyI p x k)
 | 0 => hx
 | k + 1 => Γ.cy_inf (cyI_inf hx k)
variable (turn : ∀ (p : Int) (a : G), 0 ≤ Γ.inf a → Γ.hd (Γ.D p * (a * Γ.D (-p))) = Γ.D p * (Γ.hd a * Γ.D (-p)))
include turn
theorem cy_D {p : Int} {z : G} (hz : p ≤ Γ.inf z) (k : Int) : Γ.cy p (cj z (Γ.D k)) = cj (Γ.cy p z) (Γ.D k) := by
 have e : Γ.gc p (cj z (Γ.D k)) = cj (Γ.gc p z) (Γ.D k) := by
  have h := turn (-k) (Γ.D (-p) * z) (Γ.Zpos hz); rw [Int.neg_neg] at h; have e1 : Γ.D (-p) * cj z (Γ.D k) = Γ.D (-k) * (Γ.D (-p) * z * Γ.D k) := by
   unfold cj; rw [zNI, ← Grp.assoc, ← Γ.D_add, show -p + -k = -k + -p by omega, Γ.D_add]; simp only [Grp.assoc]
  unfold gc; rw [e1, h]; unfold cj; rw [zNI, ← Grp.assoc, ← Grp.assoc, ← Γ.D_add, show p + -k = -k + p by omega, Γ.D_add]; simp only [Grp.assoc]; rw [← Γ.D_add k, ← Γ.D_add (-p), show k + -p = -p + k by omega]
 unfold cy; rw [e, zVH]
theorem Bk_cyI {p : Int} {x : G} (hx : p ≤ Γ.inf x) : ∀ k : Nat, cj x (Γ.Bk p x k) = cj (Γ.cyI p x k) (Γ.D (-(k : Int)))
 | 0 => by
  show cj x 1 = cj x (Γ.D (-((0 : Nat) : Int))); rw [show -((0 : Nat) : Int) = 0 by omega, Γ.D_zero]
 | k + 1 => by
  rw [Bk_F, Bk_cyI hx k, F_cy, Γ.cy_D turn (Γ.cyI_inf hx k), cj_cj, ← Γ.D_add]; show _ = cj (Γ.cy p (Γ.cyI p x k)) _; rw [show -(k : Int) + -1 = -((k + 1 : Nat) : Int) by omega]
omit turn
variable (cen : ∀ (k : Int) (a : G), Γ.D (2 * k) * a = a * Γ.D (2 * k))
include cen
theorem conj_pos (x g : G) : ∃ f, 0 ≤ Γ.inf f ∧ x * f = f * cj x g := by
 refine ⟨g * Γ.D (2 * ((Γ.inf g).natAbs : Int)), ?_, ?_⟩
 · rw [Γ.inf_Dr]; omega
 · unfold cj; rw [Grp.assoc, cen, Grp.assoc, ← Grp.assoc g, Grp.mul_inv, Grp.one_mul, Grp.assoc, ← Grp.assoc x]
theorem conj_pos' (x g : G) : ∃ f, 0 ≤ Γ.inf f ∧ cj x g * f = f * x := by
 obtain ⟨f, h1, h2⟩ := Γ.conj_pos cen (cj x g) g⁻¹; refine ⟨f, h1, ?_⟩; rw [h2, cj_cj, Grp.mul_inv, cj_one]
include turn
theorem cyc_max {p : Int} {x g : G} (hx : p ≤ Γ.inf x) (hy : p + 1 ≤ Γ.inf (cj x g)) : p + 1 ≤ Γ.inf (Γ.cyI p x Γ.N) := by
 obtain ⟨f, h1, h2⟩ := Γ.conj_pos' cen x g; have := Γ.cycles turn (p := p) _ x (cj x g) f h1 hy hx h2 (Nat.lt_succ_self _); rw [Γ.Bk_cyI turn hx, zRb] at this; exact this
theorem F_max {p : Int} {x g : G} (hx : p ≤ Γ.inf x) (hy : p + 1 ≤ Γ.inf (cj x g)) : p + 1 ≤ Γ.inf (cj x (Γ.Bk p x Γ.N)) := by
 obtain ⟨f, h1, h2⟩ := Γ.conj_pos' cen x g; exact Γ.cycles turn (p := p) _ x (cj x g) f h1 hy hx h2 (Nat.lt_succ_self _)
end Cj
end Go.Gar
namespace Go.Ev.YtmdkgikjnaijeaaGreat
open Go.Ev Go.Gar
variable {m : Nat}
theorem zTn (m : Nat) : ∀ (p : Int) (a : NG m), 0 ≤ (cjG m).inf a → (cjG m).hd ((cjG m).D p * (a * (cjG m).D (-p))) = (cjG m).D p * ((cjG m).hd a * (cjG m).D (-p)) := fun p a _ => zVT p a
theorem cenC (m : Nat) : ∀ (k : Int) (a : NG m), (cjG m).D (2 * k) * a = a * (cjG m).D (2 * k) := cenG
theorem d_mG (p : Int) (Y : List (Pm (m + 2))) : (dG p * mG Y : NG m).1 = mk p Y := by
 rw [zEZ]; show (p + (mk 0 Y).1, (mk 0 Y).2) = mk p Y; simp only [mk, Int.zero_add]
theorem z_eq (p : Int) {A : List (Pm (m + 2))} (hP : (Pm.lat (m + 2)).Proper A) : (⟨(p, A), hP⟩ : NG m) = dG p * mG A := by
 apply Subtype.ext; rw [d_mG, kO (le2 m) p hP]
theorem zQ5 {n : Nat} (p : Int) (s : Pm n) : t1 (-p) s = t1 p s := by
 have h1 := par p; have h2 := par (-p); unfold t1
 by_cases h : p % 2 = 0
 · rw [if_pos (h1.2 h), if_pos (h2.2 (by omega))]
 · rw [if_neg (fun e => h (h1.1 e)), if_neg (fun e => h (by have := h2.1 e; omega))]
theorem zTq {n : Nat} (p : Int) (s : Pm n) : t1 p (t1 p s) = s := by
 unfold t1
 split
 · rfl
 · exact zQ0 s
theorem s_cj (s : Pm (m + 2)) (p : Int) : (dG p * (sG s * dG (-p)) : NG m) = sG (t1 p s) := by rw [zTH, zQ5]
theorem dd (p : Int) : (dG p * dG (-p) : NG m) = 1 := by
 rw [← zMo, show p + -p = 0 by omega]
 rfl
theorem dd' (p : Int) : (dG (-p) * dG p : NG m) = 1 := by
 rw [← zMo, show -p + p = 0 by omega]
 rfl
theorem d_s (s : Pm (m + 2)) (p : Int) : (dG p * sG s : NG m) = sG (t1 p s) * dG p := by
 rw [← s_cj, Grp.assoc, Grp.assoc, dd', Grp.mul_one]
theorem zTY (z : NG m) : ((cjG m).cy z.1.1 z).1 = cyc z.1 := by
 obtain ⟨⟨p, A⟩, hP⟩ := z; have hd0 : hd (dG (-p) * (⟨(p, A), hP⟩ : NG m)).1 = A.headD 1 := by
  rw [zEZ]; show hd (-p + p, A) = _; unfold hd; simp only; rw [if_neg (by omega)]
 have hg : (cjG m).gc p (⟨(p, A), hP⟩ : NG m) = sG (t1 p (A.headD 1)) := by
  show (dG p * (sG (hd (dG (-p) * (⟨(p, A), hP⟩ : NG m)).1) * dG (-p)) : NG m) = _; rw [hd0, s_cj]
 show (Cj.cj (⟨(p, A), hP⟩ : NG m) ((cjG m).gc p (⟨(p, A), hP⟩ : NG m))).1 = cyc (p, A); rw [hg]
 cases A with
 | nil =>
  show (Cj.cj _ (sG (t1 p 1))).1 = _; rw [t1_1, zOy, Cj.cj_one]
  rfl
 | cons a A =>
  have e : (⟨(p, a :: A), hP⟩ : NG m) = sG (t1 p a) * (dG p * mG A) := by
   rw [z_eq p hP, show a :: A = [a] ++ A from rfl, zFU, zEN, ← Grp.assoc, d_s, Grp.assoc]
  show (Cj.cj _ (sG (t1 p a))).1 = _; rw [e]; unfold Cj.cj; rw [Grp.assoc, kF, Grp.assoc, ← zEN, ← zFU, d_mG]
  rfl
theorem zKD : ∀ A : List (Pm (m + 2)), -(A.length : Int) ≤ ((mG A)⁻¹ : NG m).1.1
 | [] => by
  have : (mG [] : NG m) = 1 := Subtype.ext (zKB 0); rw [this, jJ]; exact Int.le_refl _
 | a :: A => by
  rw [show a :: A = [a] ++ A from rfl, zFU, zEN, zL]; have h1 := zGe ((mG A)⁻¹ : NG m) (sG a)⁻¹; have h2 := zKD A; have h3 : -1 ≤ ((sG a)⁻¹ : NG m).1.1 := by
   rw [zTK]; exact (kf (le2 m) (-1) _).2.1
  simp only [List.length_append, List.length_cons, List.length_nil]; omega
theorem zDB (z : NG m) : (z⁻¹).1.1 = -(z.1.1 + (z.1.2.length : Int)) := by
 have up : -(z.1.1 + (z.1.2.length : Int)) ≤ (z⁻¹).1.1 := by
  obtain ⟨⟨p, A⟩, hP⟩ := z; have hi : ((dG p : NG m)⁻¹).1 = (-p, []) := by rw [zMa (dd' p)]; rfl
  rw [z_eq p hP, zL]; have h1 := zGe ((mG A)⁻¹ : NG m) (dG p)⁻¹; have h2 := zKD A; rw [hi] at h1; rw [d_mG, kO (le2 m) p hP]; simp only at h1 ⊢; omega
 have dn : (z⁻¹).1.1 ≤ -(z.1.1 + (z.1.2.length : Int)) := by
  have hpos : 0 ≤ (dG (-(z⁻¹).1.1) * z⁻¹ : NG m).1.1 := by rw [zEZ]; simp only; omega
  obtain ⟨Y, hY⟩ := zRO _ hpos; have e : z * dG (z⁻¹).1.1 * mG Y = 1 := by
   rw [← hY, Grp.assoc, ← Grp.assoc (dG _) (dG _), dd, Grp.one_mul, Grp.mul_inv]
  generalize (z⁻¹).1.1 = k at e; have e1 : (z * dG k * mG Y).1 = mk (z.1.1 + k) (tk k z.1.2 ++ Y) := by
   show prod (z * dG k).1 (mk 0 Y) = _; rw [zKy (le2 m), zUB]; simp only [zNe, Int.add_zero]
  rw [e] at e1; have hp : z.1.1 + k + (((Pm.lat (m + 2)).norm (tk k z.1.2 ++ Y)).1 : Int) = 0 := (congrArg Prod.fst e1).symm; have hl : ((Pm.lat (m + 2)).norm (tk k z.1.2 ++ Y)).2 = [] := (congrArg Prod.snd e1).symm; have hT := zEG k z.2; have := zOt (le2 m) Y (tk k z.1.2) hT.W (fun x hx => (hT.no x hx).2); rw [hl, zOs] at this; simp only [List.length_nil] at this; omega
 omega
theorem zSD {n : Nat} : ∀ {B : List (Pm n)} {a : Pm n}, (Pm.lat n).Wd (B ++ [a]) → ∀ x, B.getLast? = some x → (Pm.lat n).meet ((Pm.lat n).K x) a = 1
 | [], a, _, x, h => by simp at h
 | [b], a, hW, x, h => by
  simp only [List.getLast?_singleton, Option.some.injEq] at h; subst h; exact hW.1 a rfl
 | b :: c :: B, a, hW, x, h => zSD (B := c :: B) hW.2 x (by simpa using h)
theorem zUx {t s : Pm (m + 2)} (h : (Pm.lat (m + 2)).le s ((Pm.lat (m + 2)).K t)) : (sG (t * s) : NG m) = sG t * sG s := by
 rw [← zEN t, ← zEN s, ← zFU, ← zEN]; have e1 : (Pm.lat (m + 2)).nf ([t] ++ [s]) = (Pm.lat (m + 2)).nf [t * s] ++ [1] := Lat.L_mul (Γ := Pm.lat (m + 2)) trivial trivial h (allS []); have e2 : (Pm.lat (m + 2)).nf ([t * s] ++ [1]) = (Pm.lat (m + 2)).nf [t * s] ++ [1] := by
  have := Lat.nf_ones (Γ := Pm.lat (m + 2)) (X := [t * s]) (Y := []) 1 (allS _) (allS _); simpa using this
 have e3 : (Pm.lat (m + 2)).norm ([t] ++ [s]) = (Pm.lat (m + 2)).norm [t * s] := by
  have h1 := zO6 (le2 m) [t * s] []; rw [List.append_nil, List.append_nil] at h1; rw [← h1]; unfold Lat.norm; rw [e1, e2]
 apply Subtype.ext; show mk 0 [t * s] = mk 0 ([t] ++ [s]); simp only [mk, e3]
theorem zTU (a : Pm (m + 2)) : (sG (Pm.half (m + 2) * a⁻¹) * sG a : NG m) = dG 1 := by
 have h := zUx (m := m) (t := Pm.half (m + 2) * a⁻¹) (s := a) (by rw [zSH]; exact (Pm.lat (m + 2)).refl trivial); rw [← h, Grp.assoc, Grp.inv_mul, Grp.mul_one, zNr]
theorem zVV {n : Nat} {k : Int} {s t : Pm n} (h : (Pm.lat n).le s t) : (Pm.lat n).le (t1 k s) (t1 k t) := by
 unfold t1
 split
 · exact h
 · have e : (Pm.lat n).meet s t = s := (Pm.lat n).anti trivial trivial ((Pm.lat n).meet_l trivial trivial) ((Pm.lat n).le_meet trivial trivial trivial ((Pm.lat n).refl trivial) h); have := (zGL n).meet s t trivial trivial; rw [e] at this; rw [this]; exact (Pm.lat n).meet_r trivial trivial
theorem t1_K {n : Nat} (k : Int) (s : Pm n) : (Pm.lat n).K (t1 k s) = t1 k ((Pm.lat n).K s) := by
 unfold t1
 split
 · rfl
 · rw [K_eq, K_eq]; unfold trn; simp only [zL, Pm.half_inv, Grp.assoc, Pm.half_half, Grp.mul_one]
theorem zVB (p : Int) {B : List (Pm (m + 2))} {a : Pm (m + 2)} (hP : (Pm.lat (m + 2)).Proper (B ++ [a])) (q : Int) (hq : q = -(p + ((B ++ [a]).length : Int))) :
  hd (dG (-q) * (⟨(p, B ++ [a]), hP⟩ : NG m)⁻¹).1 = t1 (q + 1) (Pm.half (m + 2) * a⁻¹) := by
 have hB : (Pm.lat (m + 2)).Proper B := ⟨allS _, zLq hP.W, fun x hx => hP.no x (List.mem_append_left _ hx)⟩; have ha := hP.no a (by simp); have hw : ((dG p * mG B : NG m)⁻¹).1.1 = q + 1 := by
  rw [zDB, d_mG, kO (le2 m) p hB, hq]; simp only [List.length_append, List.length_cons, List.length_nil]; omega
 have ea : ((sG a)⁻¹ : NG m) = dG (-1) * sG (Pm.half (m + 2) * a⁻¹) := by
  rw [zMa (a := dG (-1) * sG (Pm.half (m + 2) * a⁻¹)) (b := sG a)]; rw [Grp.assoc, zTU]; exact dd' 1
 generalize hb : Pm.half (m + 2) * a⁻¹ = b at ea ⊢; have hKb : (Pm.lat (m + 2)).K b = a := by rw [← hb]; exact zSH a
 have hz : (⟨(p, B ++ [a]), hP⟩ : NG m) = dG p * mG B * sG a := by rw [z_eq p hP, zFU, zEN, Grp.assoc]
 generalize hwe : (dG p * mG B : NG m) = w at hw hz; have hu : dG (-q) * (⟨(p, B ++ [a]), hP⟩ : NG m)⁻¹ = sG (t1 (q + 1) b) * (dG (-(q + 1)) * w⁻¹) := by
  rw [hz, zL, ea, ← Grp.assoc, ← Grp.assoc, ← zMo, show -q + -1 = -(q + 1) by omega, d_s, zQ5, Grp.assoc]
 rw [hu]; have hu0 : (dG (-(q + 1)) * w⁻¹).1.1 = 0 := by
  rw [zEZ, hw]; simp only; omega
 generalize hu' : dG (-(q + 1)) * w⁻¹ = u' at hu0 ⊢; have hpos : 0 ≤ (sG (t1 (q + 1) b) * u').1.1 := by
  have := zGe (sG (t1 (q + 1) b)) u'; have := zIu (m := m) (t1 (q + 1) b); omega
 have hle : (Pm.lat (m + 2)).le (t1 (q + 1) b) (hd (sG (t1 (q + 1) b) * u').1) := (le_s _ hpos _).1 (by rw [kF]; omega); generalize ht : t1 (q + 1) b = t at hle hpos ⊢; have h2 := hd_le _ hpos; generalize hd (sG t * u').1 = h at hle h2 ⊢; obtain ⟨_, hsK⟩ := Lat.P0 (Γ := Pm.lat (m + 2)) trivial trivial hle; have eh : h = t * (t⁻¹ * h) := (zb _ _).symm; generalize t⁻¹ * h = s at hsK eh; have hs1 : s = 1 := by
  apply Classical.byContradiction; intro hne; have hsa : (Pm.lat (m + 2)).le (t1 (q + 1) s) a := by
   have := zVV (k := q + 1) hsK; rw [← ht, t1_K, zTq, hKb] at this; exact this
  have hσ1 : t1 (q + 1) s ≠ 1 := fun e => hne (by rw [← zTq (q + 1) s, e, t1_1])
  have hσD : t1 (q + 1) s ≠ (Pm.lat (m + 2)).D := fun e => by
   rw [e] at hsa; exact ha.1 ((Pm.lat (m + 2)).anti trivial trivial ((Pm.lat (m + 2)).le_D trivial) hsa)
  have hPσ : (Pm.lat (m + 2)).Proper (B ++ [t1 (q + 1) s]) := by
   refine ⟨allS _, zSC B _ hB.W (fun x hx => ?_), fun x hx => ?_⟩
   · have := zSD hP.W x hx; exact Lat.meet_le (Γ := Pm.lat (m + 2)) trivial trivial trivial ((Pm.lat (m + 2)).meet_l trivial trivial) ((Pm.lat (m + 2)).trans trivial trivial trivial ((Pm.lat (m + 2)).meet_r trivial trivial) hsa) this
   · rcases List.mem_append.1 hx with hx | hx
     · exact hB.no x hx
     · rw [List.mem_singleton.1 hx]; exact ⟨hσD, hσ1⟩
  have hl : ((⟨(p, B ++ [t1 (q + 1) s]), hPσ⟩ : NG m)⁻¹).1.1 = -(p + ((B ++ [t1 (q + 1) s]).length : Int)) := zDB _; have e1 : (⟨(p, B ++ [t1 (q + 1) s]), hPσ⟩ : NG m) = w * sG (t1 (q + 1) s) := by rw [z_eq p hPσ, zFU, zEN, ← hwe, Grp.assoc]
  have e2 : u' = sG s * ((sG h)⁻¹ * (sG t * u')) := by
   rw [eh, zUx hsK, zL, Grp.assoc, kF, zb]
  have e3 : (w * sG (t1 (q + 1) s))⁻¹ = dG (q + 1) * ((sG h)⁻¹ * (sG t * u')) := by
   have e4 : w⁻¹ = dG (q + 1) * u' := by rw [← hu', ← Grp.assoc, dd, Grp.one_mul]
   rw [zL, e4]
   conv => lhs; rw [e2]
   rw [← Grp.assoc (dG (q + 1)), d_s, Grp.assoc, kF]
  rw [e1, e3, zEZ] at hl; simp only [List.length_append, List.length_cons, List.length_nil] at hl hq; omega
 rw [eh, hs1, Grp.mul_one]
theorem zTw {α : Type} {l : List α} (h : l.length ≠ 0) : ∃ B a, l = B ++ [a] :=
 ⟨l.dropLast, l.getLast (fun e => h (by rw [e]; rfl)), (List.dropLast_concat_getLast _).symm⟩
theorem zVG (z : NG m) : ∃ g, cyc z.1 = (Cj.cj z g).1 := ⟨_, (zTY z).symm⟩
theorem zUd (z : NG m) : (((cjG m).F (z⁻¹).1.1 z⁻¹)⁻¹).1 = decyc z.1 := by
 have hq := zDB z; generalize (z⁻¹).1.1 = q at hq; obtain ⟨⟨p, A⟩, hP⟩ := z
 by_cases h : A.length = 0
 · have hA := List.length_eq_zero_iff.1 h; subst hA; have hz : (⟨(p, []), hP⟩ : NG m) = dG p := rfl; have hgg : (cjG m).gg q (⟨(p, []), hP⟩ : NG m)⁻¹ = dG (-1) := by
    show dG q * (sG (hd (dG (-q) * (⟨(p, []), hP⟩ : NG m)⁻¹).1) * dG (-(q + 1))) = _; have hq' : -q = p := by
     simp only [List.length_nil] at hq; omega
    rw [hz, zMa (dd' p), hq', dd]; show dG q * (sG 1 * dG (-(q + 1))) = _; rw [zOy, Grp.one_mul, ← zMo, show q + -(q + 1) = -1 by omega]
   have : (((cjG m).F q (⟨(p, []), hP⟩ : NG m)⁻¹)⁻¹) = (⟨(p, []), hP⟩ : NG m) := by
    show (Cj.cj _ ((cjG m).gg q _))⁻¹ = _; rw [hgg, Cj.cj_inv, kS, hz]; show (dG (-1))⁻¹ * (dG p * dG (-1)) = dG p; rw [← zMo, Int.add_comm p, zMo, kF]
   rw [this]
   rfl
 · obtain ⟨B, a, rfl⟩ := zTw h; have hh := zVB p hP q hq; have ea : ((sG a)⁻¹ : NG m) = dG (-1) * sG (Pm.half (m + 2) * a⁻¹) := by
    rw [zMa (a := dG (-1) * sG (Pm.half (m + 2) * a⁻¹)) (b := sG a)]; rw [Grp.assoc, zTU]; exact dd' 1
   have hgg : (cjG m).gg q (⟨(p, B ++ [a]), hP⟩ : NG m)⁻¹ = (sG a)⁻¹ := by
    show dG q * (sG (hd (dG (-q) * (⟨(p, B ++ [a]), hP⟩ : NG m)⁻¹).1) * dG (-(q + 1))) = _; rw [hh, ← zQ5 (q + 1), ← s_cj, ea, Int.neg_neg, Grp.assoc, Grp.assoc, dd, Grp.mul_one, ← Grp.assoc, ← zMo, show q + -(q + 1) = -1 by omega]
   have hz : (⟨(p, B ++ [a]), hP⟩ : NG m) = dG p * mG B * sG a := by rw [z_eq p hP, zFU, zEN, Grp.assoc]
   have : (((cjG m).F q (⟨(p, B ++ [a]), hP⟩ : NG m)⁻¹)⁻¹) = dG p * mG ([t1 p a] ++ B) := by
    show (Cj.cj _ ((cjG m).gg q _))⁻¹ = _; rw [hgg, Cj.cj_inv, kS, hz]; unfold Cj.cj; rw [kS, Grp.assoc, Grp.mul_inv, Grp.mul_one, zFU, zEN, ← Grp.assoc, ← Grp.assoc, d_s, zTq]
   rw [this, d_mG]; unfold decyc; rw [if_neg h]; simp only [List.length_append, List.length_cons, List.length_nil, Nat.zero_add, Nat.add_sub_cancel]
   rw [List.take_left']
   · simp only [List.singleton_append]; congr 2; rw [List.getD_eq_getElem?_getD, List.getElem?_append_right (Nat.le_refl _)]; simp
   · rfl
theorem zPY (z : NG m) (s : Pm (m + 2)) : conj1 z.1 s = (Cj.cj z (sG s)).1 := by
 unfold Cj.cj; rw [← Grp.assoc, zUQ, zNq]; show _ = prod (less1 z.1 s) (mk 0 [s]); rw [zKy (le2 m), zNe, Int.add_zero]
 rfl
theorem zOv {z : NG m} {p : Int} (hp : p = z.1.1) : ∀ (d k : Nat), srch cyc (gA z.1) d ((cjG m).cyI p z k).1 = none → ((cjG m).cyI p z k).1.1 = p → ((cjG m).cyI p z (k + d)).1.1 = p
 | 0, k, _, h => h
 | d + 1, k, hs, h => by
  have e : cyc ((cjG m).cyI p z k).1 = ((cjG m).cyI p z (k + 1)).1 := by
   rw [← zTY, h]
   rfl
  rw [srch] at hs
  split at hs
  · simp at hs
  · rename_i g; rw [e] at hs g; have hlo : p ≤ ((cjG m).cyI p z (k + 1)).1.1 := (cjG m).cyI_inf (x := z) (Int.le_of_eq hp) (k + 1); have hhi : ¬ z.1.1 < ((cjG m).cyI p z (k + 1)).1.1 := by simpa [gA] using g
    have := zOv hp d (k + 1) hs (by omega); rw [show k + (d + 1) = k + 1 + d by omega]; exact this
theorem zJ5 {z : NG m} {q : Int} (hq : q = (z⁻¹).1.1) : ∀ (d k : Nat), srch decyc (gB' z.1) d ((Cj.cj z⁻¹ ((cjG m).Bk q z⁻¹ k))⁻¹).1 = none → (Cj.cj z⁻¹ ((cjG m).Bk q z⁻¹ k)).1.1 = q → (Cj.cj z⁻¹ ((cjG m).Bk q z⁻¹ (k + d))).1.1 = q
 | 0, k, _, h => h
 | d + 1, k, hs, h => by
  have e : decyc ((Cj.cj z⁻¹ ((cjG m).Bk q z⁻¹ k))⁻¹).1 = ((Cj.cj z⁻¹ ((cjG m).Bk q z⁻¹ (k + 1)))⁻¹).1 := by
   rw [← zUd, kS, h, (cjG m).Bk_F]
  rw [srch] at hs
  split at hs
  · simp at hs
  · rename_i g; rw [e] at hs g; have hlo : q ≤ (Cj.cj z⁻¹ ((cjG m).Bk q z⁻¹ (k + 1))).1.1 := (cjG m).Bk_inf (x := z⁻¹) (Int.le_of_eq hq) (k + 1); have i1 := zDB z; have i2 := zDB ((Cj.cj z⁻¹ ((cjG m).Bk q z⁻¹ (k + 1)))⁻¹); rw [kS] at i2; have hhi : z.1.1 + (z.1.2.length : Int) ≤ ((Cj.cj z⁻¹ ((cjG m).Bk q z⁻¹ (k + 1)))⁻¹).1.1 + (((Cj.cj z⁻¹ ((cjG m).Bk q z⁻¹ (k + 1)))⁻¹).1.2.length : Int) := by simpa [gB'] using g
    have := zJ5 hq d (k + 1) hs (by omega); rw [show k + (d + 1) = k + 1 + d by omega]; exact this
theorem zPZ {m : Nat} (h : m + 2 ≤ 8) : Pm.cnt (Pm.half (m + 2)) = mN (m + 2) := by
 have h : m = 0 ∨ m = 1 ∨ m = 2 ∨ m = 3 ∨ m = 4 ∨ m = 5 ∨ m = 6 := by omega
 rcases h with rfl | rfl | rfl | rfl | rfl | rfl | rfl <;> decide
theorem zTG (hm : m + 2 ≤ 8) {z : NG m} (h : fA z.1 = none) (g : NG m) : (Cj.cj z g).1.1 ≤ z.1.1 := by
 apply Classical.byContradiction; intro hn; have h1 := zOv (z := z) rfl (mN (m + 2)) 0 h rfl; have h2 : z.1.1 + 1 ≤ ((cjG m).cyI z.1.1 z (Pm.cnt (Pm.half (m + 2)))).1.1 := (cjG m).cyc_max (zTn m) (cenC m) (p := z.1.1) (x := z) (g := g) (Int.le_refl _) (show z.1.1 + 1 ≤ (Cj.cj z g).1.1 by omega); rw [zPZ hm] at h2; rw [Nat.zero_add] at h1; omega
theorem zTT (hm : m + 2 ≤ 8) {z : NG m} (h : fB z.1 = none) (g : NG m) : z.1.1 + (z.1.2.length : Int) ≤ (Cj.cj z g).1.1 + ((Cj.cj z g).1.2.length : Int) := by
 apply Classical.byContradiction; intro hn; have i1 := zDB z; have i2 := zDB (Cj.cj z g); rw [Cj.cj_inv] at i2; have e0 : (Cj.cj z⁻¹ ((cjG m).Bk (z⁻¹).1.1 z⁻¹ 0)) = z⁻¹ := Cj.cj_one _; have h1 := zJ5 (z := z) rfl (mN (m + 2)) 0 (by rw [e0, kS]; exact h) (by rw [e0]); have h2 : (z⁻¹).1.1 + 1 ≤ (Cj.cj z⁻¹ ((cjG m).Bk (z⁻¹).1.1 z⁻¹ (Pm.cnt (Pm.half (m + 2))))).1.1 := (cjG m).F_max (zTn m) (cenC m) (p := (z⁻¹).1.1) (x := z⁻¹) (g := g) (Int.le_refl _) (show (z⁻¹).1.1 + 1 ≤ (Cj.cj z⁻¹ g).1.1 by omega); rw [zPZ hm] at h2; rw [Nat.zero_add] at h1; omega
theorem zSR {n : Nat} (hn1 : 1 ≤ n) (v0 : Nm n) : ∀ (f : Nat) (v : Nm n), v.2.length < f → Rel v v0 → fA (sumF f v) = none ∧ fB (sumF f v) = none := by
 intro f
 induction f with
 | zero => intro v h; omega
 | succ f ih =>
  intro v hf hv; rw [sumF]
  cases hA : fA v with
  | some u =>
   have := zLF hn1 hv hA; exact ih u (by omega) this.1
  | none =>
   cases hB : fB v with
   | some u =>
    have := zLE hn1 hv hB; exact ih u (by omega) this.1
   | none => exact ⟨hA, hB⟩
end Go.Ev.YtmdkgikjnaijeaaGreat
namespace Go.Ev.YtmdkgikjnaijeaaGreat
open Go.Ev Go.Gar
variable {m : Nat}
theorem zTm {n : Nat} (h : 2 ≤ n) : ∃ m, n = m + 2 := ⟨n - 2, by omega⟩
end Go.Ev.YtmdkgikjnaijeaaGreat
namespace Go.Ev.YtmdkgikjnaijeaaGreat
open Go.Ev Go.Gar
variable {m : Nat}
theorem zSa {X : NG m} {y : Nm (m + 2)} (h : Reach X.1 y) : ∃ g, y = (Cj.cj X g).1 := by
 induction h with
 | base => exact ⟨1, by rw [Cj.cj_one]⟩
 | @step x s hr q1 q2 ih =>
  obtain ⟨g, rfl⟩ := ih; exact ⟨g * sG s, by rw [zPY, Cj.cj_cj]⟩
theorem zSZ (hm : m + 2 ≤ 8) {X Y : NG m} (hA : fA X.1 = none) (hB : fB X.1 = none) {h : NG m} (eY : Y = Cj.cj X h) (e1 : Y.1.1 = X.1.1) (e2 : Y.1.2.length = X.1.2.length) : Reach X.1 Y.1 := by
 obtain ⟨f, f1, f2⟩ := (cjG m).conj_pos (cenC m) X h; rw [← eY] at f2; have iX := zDB X; have iY := zDB Y
 have := (cjG m).path (zTn m) (p := X.1.1) (q := (X⁻¹).1.1) (Q := fun z => Reach X.1 z.1 ∧ ∃ u, z = Cj.cj X u) (y := Y) (show X.1.1 ≤ Y.1.1 by omega) (show (X⁻¹).1.1 ≤ (Y⁻¹).1.1 by omega)
  (fun z a h0 hQ h1 h2 => by
   obtain ⟨hR, u, hu⟩ := hQ; have h1' : X.1.1 ≤ (Cj.cj z (sG (hd a.1))).1.1 := h1; have h2' : (X⁻¹).1.1 ≤ ((Cj.cj z (sG (hd a.1)))⁻¹).1.1 := h2; have eu : Cj.cj z (sG (hd a.1)) = Cj.cj X (u * sG (hd a.1)) := by rw [hu, Cj.cj_cj]
   have k1 := zTG hm hA (u * sG (hd a.1)); have k2 := zTT hm hB (u * sG (hd a.1)); rw [← eu] at k1 k2; have iz := zDB (Cj.cj z (sG (hd a.1))); refine ⟨?_, u * sG (hd a.1), eu⟩; show Reach X.1 (Cj.cj z (sG (hd a.1))).1; have ec := zPY z (hd a.1); rw [← ec]
   refine .step hR ?_ ?_
   · rw [ec]; omega
   · rw [ec]; omega)
  _ X f (Nat.lt_succ_self _) f1 f2 (Int.le_refl _) (Int.le_refl _) ⟨.base, 1, (Cj.cj_one X).symm⟩
 exact this.1
theorem zRI (hm : m + 2 ≤ 8) {X : NG m} (hA : fA X.1 = none) (hB : fB X.1 = none) {y : Nm (m + 2)} (hy : Reach X.1 y) (e1 : y.1 = X.1.1) (e2 : y.2.length = X.1.2.length) : Reach X.1 (cyc y) := by
 obtain ⟨g, rfl⟩ := zSa hy; obtain ⟨c, hc⟩ := zVG (Cj.cj X g); have hr := zLH (n := m + 2) (by omega) (w := (Cj.cj X g).1) (v := (Cj.cj X g).1) ⟨(Cj.cj X g).2, Int.le_refl _, Int.le_refl _, fun h => by omega⟩; have r1 := hr.lo; have r2 := hr.hi; rw [hc] at r1 r2 ⊢; have t1 := zTG hm hA (g * c); have t2 := zTT hm hB (g * c); rw [← Cj.cj_cj] at t1 t2; exact zSZ hm hA hB (h := g * c) (Cj.cj_cj _ _ _) (by omega) (by omega)
theorem Sets.cyc {n : Nat} (h2 : 2 ≤ n) (hn : n ≤ 8) {v : Nm n} (hv : OkN v 200) {ys : List VN} (g : Sets v ys) {y : Nm n} (hy : enc y ∈ ys) : enc (cyc y) ∈ ys := by
 obtain ⟨m, rfl⟩ := zTm h2; have hr := (g.mem y).2 hy; obtain ⟨y', e, hs⟩ := g.all _ hy; obtain rfl := zBh hn e; obtain ⟨hA, hB⟩ := zSR (show 1 ≤ m + 2 by omega) v (v.2.length + 1) v (by omega) (Rel.refl hv); refine (g.mem _).1 ?_; exact zRI (X := ⟨sumN v, (zG8 (by omega) hv).P⟩) hn hA hB hr hs.pow hs.len
def SetsX {n : Nat} (v : Nm n) (ys : List VN) : Prop := (n = 1 ∧ ys = [V1]) ∨ (2 ≤ n ∧ Sets v ys)
theorem SetsX.sets0 {n : Nat} {v : Nm n} (hv : OkN v 200) {ys : List VN} (h : SetsX v ys) : Sets0 v ys := by
 rcases h with ⟨rfl, rfl⟩ | ⟨h2, g⟩
 · exact zSV v hv
 · refine ⟨g.impl, g.spec, g.all, g.asc, g.len, g.nod, ?_⟩; intro e; have := (g.mem (sumN v)).1 .base; rw [e] at this; simp at this
theorem zSW {n : Nat} (h1 : 1 ≤ n) (h4 : n ≤ 4) (v : Nm n) (hv : OkN v 200) :
  (R jH [zA (enc v)] = some [zB [], tB false] ∧ R zDS [zA (enc v)] = some [zB [], tB false]) ∨ ∃ ys : List VN, SetsX v ys := by
 by_cases h : n = 1
 · exact .inr ⟨_, .inl ⟨h, rfl⟩⟩
 · rcases zSU n (by omega) h4 v hv with g | ⟨ys, g⟩
   · exact .inl g
   · exact .inr ⟨ys, .inr ⟨by omega, g⟩⟩
theorem SetsX.here {n : Nat} {v : Nm n} (hv : OkN v 200) {ys : List VN} (g : SetsX v ys) : enc (sumN v) ∈ ys := by
 rcases g with ⟨rfl, rfl⟩ | ⟨h2, g⟩
 · rw [(zG8 (by omega) hv).one rfl]; exact List.mem_singleton.2 rfl
 · exact (g.mem _).1 .base
theorem SetsX.orb {n : Nat} (hn : n ≤ 8) {v : Nm n} (hv : OkN v 200) {ys : List VN} (g : SetsX v ys) : ∀ z ∈ ys, ∃ y : Nm n, z = enc y ∧ OkN y 1000 ∧ enc (cyc y) ∈ ys := by
 intro z hz
 rcases g with ⟨rfl, rfl⟩ | ⟨h2, g⟩
 · rw [List.mem_singleton] at hz; refine ⟨(0, []), hz, zTg 1 1000, ?_⟩; have : cyc ((0, []) : Nm 1) = (0, []) := by simp [cyc]
   rw [this]; exact List.mem_singleton.2 rfl
 · obtain ⟨y, rfl, hy⟩ := g.all z hz; exact ⟨y, rfl, hy.ok h2 ((zG8 (by omega) hv).mono (by omega)), g.cyc h2 hn hv hz⟩
theorem zVW {n : Nat} (q1 : 1 ≤ n) (h4n : n ≤ 4) {v : Nm n} (q3 : OkN v 200) {ys : List VN} (g : Sets0 v ys) (hs : enc (sumN v) ∈ ys) :
  ((limV (enc (sumN v))).2 = 0 ∧ R jk [zA (enc v)] = some [zB ys, tI 0] ∧ R jn [zA (enc v)] = some [zB ys, tI 0]) ∨
  ((limV (enc (sumN v))).2 ≠ 0 ∧ R jk [zA (enc v)] = some [zB [], tI 3] ∧ R jn [zA (enc v)] = some [zB [], tI 3]) := by
 have hw : Rows8 (enc v).2.2 := zRB (by omega) _; have hs' := zLV (enc v) hw; have hi := zE1 (enc v) hw; have h := zSn q1 (by omega) q3; rw [h] at hs' hi; have h4 : ¬ 4 < (enc v).1 := by simp only [enc]; omega
 have hcode : R zB8 [zA (enc v)] = some [tI 0] := by
  apply zEr; simp [zCC, zBm, hs', h4]
 have e0 : ((0 : Int) != 0) = false := rfl; have hkl := (zG8 q1 q3).len; have hc := g.cls; have hlen := g.len; obtain ⟨y0, yr, rfl⟩ : ∃ y0 yr, ys = y0 :: yr := by
  match ys, g.ne with
  | y0 :: yr, _ => exact ⟨y0, yr, rfl⟩
 have hsame : ∀ b ∈ y0 :: yr, (limV b).2 = (limV y0).2 := fun b hb => by
  have c1 := hc b hb; have c2 := hc y0 (by simp); exact zRY (by rw [c1.2.1, c2.2.1]) (by rw [c1.2.2.1, c2.2.2.1])
 rw [hsame _ hs]; have hsp : R jD [zB (y0 :: yr), zB [], tI 0] = _ := zJN (decide ((limV y0).2 = 0)) (y0 :: yr) [] [] (by simp at hlen ⊢; omega) (by simp at hlen ⊢; omega) (fun b hb => by
  refine ⟨by rw [(hc b hb).2.2.1]; omega, ?_⟩; rw [hsame b hb]; simp)
 have pos : decide ((0 : Int) < (((y0 :: yr).length : Nat) : Int)) = true := decide_eq_true (by simp); have g0 : List.getD (y0 :: yr) 0 ((0, (0, [])) : VN) = y0 := rfl
 by_cases hz : (limV y0).2 = 0
 · refine .inl ⟨hz, jf _ ?_, jg _ ?_⟩
   · simp only [decide_eq_true hz, true_or, if_true, List.nil_append] at hsp; simp only [kb, zBm, hcode, Option.bind_some, getTV_here, getTV_next, e0, cond_false, g.spec, Bool.not_true, hsp, beq_self_eq_true, cond_true]
   · simp only [kc, zBm, hi, Option.bind_some, getTV_here, getTV_next, Bool.not_true, cond_false, decide_eq_false h4, g.impl, pos, cond_true, g0, zMx y0, hz, e0]
 · have h3 : (limV y0).2 = 3 := by
    unfold limV at hz ⊢
    split
    · rename_i hc; rw [if_pos hc] at hz; simp at hz
    · rfl
   refine .inr ⟨hz, jf _ ?_, jg _ ?_⟩
   · simp only [decide_eq_false hz, Bool.false_eq_true, false_or, List.cons_ne_nil, reduceCtorEq, if_false] at hsp; simp only [kb, zBm, hcode, Option.bind_some, getTV_here, getTV_next, e0, cond_false, g.spec, Bool.not_true, hsp]
     rfl
   · have e3 : ((3 : Int) != 0) = true := rfl; simp only [kc, zBm, hi, Option.bind_some, getTV_here, getTV_next, Bool.not_true, cond_false, decide_eq_false h4, g.impl, pos, cond_true, g0, zMx y0, h3, e3]
theorem zUu (a : VN) (ha : Rows8 a.2.2) : ∃ (l : List VN) (c : Int), R jk [zA a] = some [zB l, tI c] ∧ R jn [zA a] = some [zB l, tI c] ∧
  ((c ≠ 0 ∧ l = []) ∨ (c = 0 ∧ ∃ (n : Nat) (v : Nm n), 1 ≤ n ∧ n ≤ 4 ∧ OkN v 200 ∧ a = enc v ∧ SetsX v l ∧ (limV (enc (sumN v))).2 = 0)) := by
 rcases zSf a with h | ⟨h, n, v, q1, q2, q3, rfl⟩
 · have hs := zLV a ha; have hi := zE1 a ha; have hcode : R zB8 [zA a] = some [tI 1] := by
    apply zEr; simp [zCC, zBm, hs, h]
   refine ⟨[], 1, jf _ ?_, jg _ ?_, .inl ⟨by decide, rfl⟩⟩
   · simp [kb, zBm, hcode]
   · simp [kc, zBm, hi, h]
 · by_cases h4 : n ≤ 4
   · rcases zSW q1 h4 v q3 with ⟨g1, g2⟩ | ⟨ys, g⟩
     · have hs := zLV (enc v) ha; have hi := zE1 (enc v) ha; rw [h] at hs hi; have h4' : ¬ 4 < (enc v).1 := by simp only [enc]; omega
       have e0 : ((0 : Int) != 0) = false := rfl; have hcode : R zB8 [zA (enc v)] = some [tI 0] := by
        apply zEr; simp [zCC, zBm, hs, h4']
       refine ⟨[], 3, jf _ ?_, jg _ ?_, .inl ⟨by decide, rfl⟩⟩
       · simp only [kb, zBm, hcode, Option.bind_some, getTV_here, getTV_next, e0, cond_false, g2, Bool.not_false, cond_true]
       · simp only [kc, zBm, hi, Option.bind_some, getTV_here, getTV_next, Bool.not_true, cond_false, decide_eq_false h4', g1, Bool.not_false, cond_true]
     · rcases zVW q1 h4 q3 (g.sets0 q3) (g.here q3) with ⟨k1, k2, k3⟩ | ⟨k1, k2, k3⟩
       · exact ⟨ys, 0, k2, k3, .inr ⟨rfl, n, v, q1, h4, q3, rfl, g, k1⟩⟩
       · exact ⟨[], 3, k2, k3, .inl ⟨by decide, rfl⟩⟩
   · have hs := zLV (enc v) ha; have hi := zE1 (enc v) ha; rw [h] at hs hi; have h4' : 4 < (enc v).1 := by simp only [enc]; omega
     have hcode : R zB8 [zA (enc v)] = some [tI 2] := by
      apply zEr; simp [zCC, zBm, hs, h4']
     refine ⟨[], 2, jf _ ?_, jg _ ?_, .inl ⟨by decide, rfl⟩⟩
     · simp only [kb, zBm, hcode, Option.bind_some, getTV_here]
       rfl
     · simp only [kc, zBm, hi, Option.bind_some, getTV_here, Bool.not_true, cond_false, decide_eq_true h4', cond_true]
end Go.Ev.YtmdkgikjnaijeaaGreat
namespace Go.Ev.YtmdkgikjnaijeaaGreat
open Go.Ev Go.Gar
noncomputable def orb {n : Nat} (v : Nm n) : Nat → Nm n
 | 0 => v
 | k + 1 => cyc (orb v k)
theorem zNx {n : Nat} (v : Nm n) (a : Nat) : ∀ b, orb v (a + b) = orb (orb v a) b
 | 0 => rfl
 | b + 1 => congrArg cyc (zNx v a b)
theorem zTQ {n : Nat} {v : Nm n} {a b : Nat} (h : orb v a = orb v b) (c : Nat) : orb v (a + c) = orb v (b + c) := by rw [zNx, zNx, h]
def Bk {n : Nat} (v : Nm n) : Prop := ∃ k, orb v (k + 1) = v
theorem zU7 {P : Nat → Prop} : ∀ k, P k → ∃ j, j ≤ k ∧ P j ∧ ∀ i, i < j → ¬ P i := by
 intro k
 induction k using Nat.strongRecOn with
 | ind k ih =>
  intro hk
  by_cases h : ∃ i, i < k ∧ P i
  · obtain ⟨i, hi, hp⟩ := h; obtain ⟨j, h1, h2, h3⟩ := ih i hi hp; exact ⟨j, by omega, h2, h3⟩
  · exact ⟨k, Nat.le_refl _, hk, fun i hi hp => h ⟨i, hi, hp⟩⟩
theorem zIh {α : Type} (f : Nat → α) (n : Nat) (h : ∀ a b, a < b → b < n → f a ≠ f b) : ((List.range n).map f).Nodup := by
 rw [List.Nodup, List.pairwise_map]; refine List.Pairwise.imp_of_mem (R := fun a b => a < b) (fun {a b} ha hb hab => h a b hab (List.mem_range.1 hb)) ?_; exact List.pairwise_lt_range
theorem zTA {n : Nat} (hn : n ≤ 8) {v : Nm n} {ys : List VN} (hm : ∀ k, enc (orb v k) ∈ ys) (h : Bk v) : ∃ k, k < ys.length ∧ orb v (k + 1) = v := by
 obtain ⟨k, hk⟩ := h; obtain ⟨j, _, hj, hmin⟩ := zU7 (P := fun k => orb v (k + 1) = v) k hk; refine ⟨j, ?_, hj⟩; have hnd := zIh (fun i => enc (orb v i)) (j + 1) (fun a b hab hb e => by
  have e' : orb v a = orb v b := zBh hn e; have h1 := zTQ e' (j + 1 - b); rw [show b + (j + 1 - b) = j + 1 by omega, hj, show a + (j + 1 - b) = (a + j - b) + 1 by omega] at h1; exact hmin (a + j - b) (by omega) h1)
 have := hnd.length_le_of_subset (l₂ := ys) (fun z hz => by
  obtain ⟨i, _, rfl⟩ := List.mem_map.1 hz; exact hm i)
 rw [List.length_map, List.length_range] at this; omega
theorem zVK {n : Nat} {v : Nm n} {i k : Nat} (hik : i < k) (e : orb v (k + 1) = orb v (i + 1)) (hno : ∀ j, j < k → orb v (j + 1) ≠ v) : ¬ Bk v := by
 rintro ⟨m, hm⟩; obtain ⟨j, _, hj, hmin⟩ := zU7 (P := fun k => orb v (k + 1) = v) m hm
 by_cases hjk : j < k
 · exact hno j hjk hj
 · have h1 := zTQ e (j - k); rw [show k + 1 + (j - k) = j + 1 by omega, hj, show i + 1 + (j - k) = (i + j - k) + 1 by omega] at h1; exact hmin (i + j - k) (by omega) h1.symm
structure Orbs {n : Nat} (ys : List VN) : Prop where
 cyc : ∀ z ∈ ys, ∃ y : Nm n, z = enc y ∧ OkN y 1000 ∧ enc (cyc y) ∈ ys
 len : ys.length ≤ 120
theorem Orbs.mem {n : Nat} (hn : n ≤ 8) {ys : List VN} (h : Orbs (n := n) ys) {v : Nm n} (hv : enc v ∈ ys) : ∀ k, enc (orb v k) ∈ ys
 | 0 => hv
 | k + 1 => by
  obtain ⟨y, e, _, hc⟩ := h.cyc _ (Orbs.mem hn h hv k); have e' : orb v k = y := zBh hn e; show enc (Go.Ev.YtmdkgikjnaijeaaGreat.cyc (orb v k)) ∈ ys; rw [e']; exact hc
theorem Orbs.ok {n : Nat} (hn : n ≤ 8) {ys : List VN} (h : Orbs (n := n) ys) {v : Nm n} (hv : enc v ∈ ys) : OkN v 1000 := by
 obtain ⟨y, e, ho, _⟩ := h.cyc _ hv; rw [zBh hn e]; exact ho
theorem zID (v : VN) (L : List VN) (hL : ∀ x ∈ L, x.2.2.length < 1000000000) (hl : L.length < 10000000) : ∀ i : Nat, i ≤ L.length →
  (v ∈ L.drop i → ∃ j : Nat, R zI [zB L, tI v.1, tI v.2.1, tLA8 v.2.2, tI (L.length : Int), tI (i : Int)] = some [tI 1, tI (j : Int)]) ∧
  (v ∉ L.drop i → R zI [zB L, tI v.1, tI v.2.1, tLA8 v.2.2, tI (L.length : Int), tI (i : Int)] = some [tI 0]) := by
 have e' : (v.1, v.2.1, v.2.2) = v := rfl; have eL : ∀ x : VN, (x.1, x.2.1, x.2.2) = x := fun x => rfl
 refine zm _ ?_ (fun i hi ih => ?_)
 · rw [List.drop_length]; refine ⟨fun h => by simp at h, fun _ => ?_⟩; apply zi; simp [zO]
 · rw [List.drop_eq_getElem_cons hi]; have w : wi64 ((i : Int) + 1) = ((i + 1 : Nat) : Int) := by rw [zF] <;> omega
   have hk : R zDC [zA L[i], zA v] = some [tB (decide (L[i] = v))] := by
    apply zJi; simp only [zDL, eL, zEa L[i] v (hL _ (List.getElem_mem hi)), Option.bind_some, getTV_here]
   by_cases e : L[i] = v
   · refine ⟨fun _ => ⟨i, ?_⟩, fun h => (h (by rw [e]; exact List.mem_cons_self)).elim⟩; apply zi; simp (disch := omega) only [zO, decide_eq_true, cond_true, Bool.and_true, Int.toNat_natCast, zJs hi, eL, e', hk, Option.bind_some, getTV_here, decide_eq_true e]
   · have st : ∀ o, R zI [zB L, tI v.1, tI v.2.1, tLA8 v.2.2, tI (L.length : Int), tI ((i + 1 : Nat) : Int)] = some o → R zI [zB L, tI v.1, tI v.2.1, tLA8 v.2.2, tI (L.length : Int), tI (i : Int)] = some o := by
      intro o ho; apply zi; simp (disch := omega) only [zO, decide_eq_true, cond_true, cond_false, Bool.and_true, Int.toNat_natCast, zJs hi, eL, e', hk, Option.bind_some, getTV_here, decide_eq_false e, w, ho]
     refine ⟨fun h => ?_, fun h => ?_⟩
     · obtain ⟨j, hj⟩ := ih.1 ((List.mem_cons.1 h).resolve_left (fun g => e g.symm)); exact ⟨j, st _ hj⟩
     · exact st _ (ih.2 fun h' => h (List.mem_cons_of_mem _ h'))
open Classical in
theorem zHN (v : VN) (L : List VN) (hL : ∀ x ∈ L, x.2.2.length < 1000000000) (hl : L.length < 10000000) : R zh [zB L, zA v] = some [tB (decide (v ∈ L))] := by
 have e' : (v.1, v.2.1, v.2.2) = v := rfl; apply jN; have h := zID v L hL hl 0 (Nat.zero_le _); rw [List.drop_zero] at h; simp only [Int.natCast_zero] at h
 by_cases e : v ∈ L
 · obtain ⟨j, hj⟩ := h.1 e; have hI : R zX [zB L, zA v] = some [tI (j : Int)] := by
    apply kK; simp [zY, hj]
   simp [zU, e', hI, e]
 · have hI : R zX [zB L, zA v] = some [tI (-1)] := by
    apply kK; simp [zY, h.2 e]
   simp [zU, e', hI, e]
noncomputable def seen {n : Nat} (v : Nm n) (k : Nat) : List VN := (List.range k).map fun i => enc (orb v (i + 1))
theorem zQ9 {n : Nat} (v : Nm n) (k : Nat) : seen v (k + 1) = seen v k ++ [enc (orb v (k + 1))] := by
 simp [seen, List.range_succ]
open Classical in
theorem zLc {n : Nat} (h1 : 1 ≤ n) (hn : n ≤ 8) {ys : List VN} (hO : Orbs (n := n) ys) {v : Nm n} (hv : enc v ∈ ys) : ∀ (d k : Nat), k + d = 121 → (∀ a b, a < b → b < k → orb v (a + 1) ≠ orb v (b + 1)) → (∀ j, j < k → orb v (j + 1) ≠ v) →
  R zBB [tI (enc v).1, tI (enc v).2.1, tLA8 (enc v).2.2, zB (seen v k), tI (enc (orb v (k + 1))).1, tI (enc (orb v (k + 1))).2.1, tLA8 (enc (orb v (k + 1))).2.2] = some [tI 0, tB (decide (Bk v))] := by
 have eV : ∀ x : VN, (x.1, x.2.1, x.2.2) = x := fun x => rfl; have hm := hO.mem hn hv; have hlen := hO.len; have hsub : ∀ k, (seen v k).length = k := fun k => by simp [seen]
 have hle : ∀ k, ∀ x ∈ seen v k, x.2.2.length < 1000000000 := fun k x hx => by
  obtain ⟨i, _, rfl⟩ := List.mem_map.1 hx; have := (hO.ok hn (hm (i + 1))).len; rw [(zJt _).2]; omega
 intro d
 induction d with
 | zero =>
  intro k hk hd _; exfalso; have hnd : (seen v k).Nodup := zIh _ k (fun a b hab hb e => hd a b hab hb (zBh hn e)); have := hnd.length_le_of_subset (l₂ := ys) (fun z hz => by
   obtain ⟨i, _, rfl⟩ := List.mem_map.1 hz; exact hm (i + 1))
  rw [hsub] at this; omega
 | succ d ih =>
  intro k hk hd hno; have hok := hO.ok hn (hm (k + 1)); have hl1 := hok.len; have hs := zEa (enc (orb v (k + 1))) (enc v) (by rw [(zJt _).2]; omega); have hc := zHN (enc (orb v (k + 1))) (seen v k) (hle k) (by rw [hsub]; omega); have ap : apOk (seen v k) [enc (orb v (k + 1))] = true := zJx (by rw [hsub]; omega); have hcy : R zCS [zA (enc (orb v (k + 1)))] = some [zA (enc (orb v (k + 1 + 1)))] := zLb n h1 hn (orb v (k + 1)) (hok.mono (by omega)); apply zJh
  by_cases e1 : orb v (k + 1) = v
  · have hb : Bk v := ⟨k, e1⟩; have e1' : enc (orb v (k + 1)) = enc v := by rw [e1]
    simp only [jr, eV, hs, decide_eq_true e1', Option.bind_some, getTV_here, cond_true, decide_eq_true hb]
  · have e1' : ¬ enc (orb v (k + 1)) = enc v := fun h => e1 (zBh hn h)
    by_cases e2 : enc (orb v (k + 1)) ∈ seen v k
    · have hb : ¬ Bk v := by
       obtain ⟨i, hi, e⟩ := List.mem_map.1 e2; exact zVK (List.mem_range.1 hi) (zBh hn e).symm hno
      simp only [jr, eV, hs, decide_eq_false e1', hc, decide_eq_true e2, Option.bind_some, getTV_here, cond_true, cond_false, decide_eq_false hb]
    · have := ih (k + 1) (by omega) (fun a b hab hb e => by
       by_cases hbk : b < k
       · exact hd a b hab hbk e
       · have hbk' : b = k := by omega
         subst hbk'; exact e2 (List.mem_map.2 ⟨a, List.mem_range.2 hab, by rw [e]⟩)) (fun j hj => by
       by_cases hjk : j < k
       · exact hno j hjk
       · have : j = k := by omega
         subst this; exact e1)
      rw [zQ9] at this; simp only [jr, eV, hs, decide_eq_false e1', hc, decide_eq_false e2, Option.bind_some, getTV_here, cond_true, cond_false, ap, hcy, this]
open Classical in
theorem zOc {n : Nat} (h1 : 1 ≤ n) (hn : n ≤ 8) {ys : List VN} (hO : Orbs (n := n) ys) {v : Nm n} (hv : enc v ∈ ys) : R zEU [zA (enc v)] = some [tB (decide (Bk v))] := by
 have eV : ∀ x : VN, (x.1, x.2.1, x.2.2) = x := fun x => rfl; have hok := hO.ok hn hv; have hcy : R zCS [zA (enc v)] = some [zA (enc (orb v 1))] := zLb n h1 hn v (hok.mono (by omega)); have h4 := zLc h1 hn hO hv 121 0 rfl (fun a b _ hb => by omega) (fun j hj => by omega); have e0 : seen v 0 = [] := rfl; rw [e0] at h4; simp only [Nat.zero_add] at h4; apply zL2; simp only [zEl, eV, hcy, Option.bind_some, getTV_here, h4, getTV_next]
open Classical in
noncomputable def bkB (n : Nat) (z : VN) : Bool := decide (∃ y : Nm n, z = enc y ∧ Bk y)
open Classical in
theorem zOh {n : Nat} (hn : n ≤ 8) (y : Nm n) : bkB n (enc y) = decide (Bk y) := by
 unfold bkB
 by_cases h : Bk y
 · rw [decide_eq_true h, decide_eq_true ⟨y, rfl, h⟩]
 · rw [decide_eq_false h, decide_eq_false]; rintro ⟨z, e, hz⟩; exact h (zBh hn e ▸ hz)
theorem zV0 {n : Nat} (h1 : 1 ≤ n) (hn : n ≤ 8) {ys : List VN} (hO : Orbs (n := n) ys) : ∀ z ∈ ys, R jE [zA z] = some [tB (!(bkB n z))] := by
 intro z hz; have eV : ∀ x : VN, (x.1, x.2.1, x.2.2) = x := fun x => rfl; obtain ⟨y, rfl, _, _⟩ := hO.cyc z hz; apply zH7; simp only [zBl, eV, zOc h1 hn hO hz, Option.bind_some, getTV_here, zOh hn]
end Go.Ev.YtmdkgikjnaijeaaGreat
namespace Go.Ev.YtmdkgikjnaijeaaGreat
open Go.Ev Go.Gar
open Classical in
theorem zV1 {n : Nat} (hn : n ≤ 8) {y : Nm n} (h : Bk y) : bkB n (enc y) = true := by
 rw [zOh hn]; exact decide_eq_true h
open Classical in
theorem zV2 {n : Nat} (hn : n ≤ 8) {y : Nm n} (h : ¬ Bk y) : bkB n (enc y) = false := by
 rw [zOh hn]; exact decide_eq_false h
theorem zUi {n : Nat} (h1 : 1 ≤ n) (hn : n ≤ 8) {ys : List VN} (hO : Orbs (n := n) ys) {v : Nm n} {i : Nat} (hi : i < ys.length) (hv : ys[i] = enc v) (out : List VN) : ∀ (d k : Nat), k + d = ys.length →
  ∃ u : Nm n, R jZ [zB ys, zB out, tI (enc (orb v (k + 1))).1, tI (enc (orb v (k + 1))).2.1, tLA8 (enc (orb v (k + 1))).2.2, tI (i : Int), tI (k : Int)] =
   some [tI 0, zB ys, zB out, tI (enc u).1, tI (enc u).2.1, tLA8 (enc u).2.2, tI (i : Int)] ∧ OkN u 1000 ∧ (u = v ↔ ∃ j, k ≤ j ∧ j ≤ ys.length ∧ orb v (j + 1) = v) := by
 have eV : ∀ x : VN, (x.1, x.2.1, x.2.2) = x := fun x => rfl; have hmem : enc v ∈ ys := by rw [← hv]; exact List.getElem_mem hi
 have hm := hO.mem hn hmem; have hlen := hO.len; intro d
 induction d with
 | zero =>
  intro k hk
  refine ⟨orb v (k + 1), ?_, hO.ok hn (hm _), ?_⟩
  · apply zAm; have : ¬ ((k : Int) < (ys.length : Int)) := by omega
    simp only [kl, decide_eq_false this, cond_false]
  · constructor
    · exact fun h => ⟨k, Nat.le_refl _, by omega, h⟩
    · rintro ⟨j, h3, h4, h5⟩; have : j = k := by omega
      subst this; exact h5
 | succ d ih =>
  intro k hk; have hok := hO.ok hn (hm (k + 1)); have hl1 := hok.len; have hlt : ((k : Int) < (ys.length : Int)) := by omega
  have hi' : ((i : Int) < (ys.length : Int)) := by omega
  have hs := zJG (enc (orb v (k + 1))) (enc v) (by rw [(zJt _).2]; omega); have w : wi64 ((k : Int) + 1) = ((k + 1 : Nat) : Int) := by rw [zF] <;> omega
  by_cases e1 : orb v (k + 1) = v
  · have e1' : enc (orb v (k + 1)) = enc v := by rw [e1]
    refine ⟨orb v (k + 1), ?_, hok, fun _ => ⟨k, Nat.le_refl _, by omega, e1⟩, fun _ => e1⟩; apply zAm; simp (disch := omega) only [kl, decide_eq_true hlt, decide_eq_true hi', decide_eq_true, cond_true, Bool.and_true, Int.toNat_natCast, zJs hi, hv, eV, hs, decide_eq_true e1', Option.bind_some, getTV_here, Bool.not_true, cond_false]
  · have e1' : ¬ enc (orb v (k + 1)) = enc v := fun h => e1 (zBh hn h); have hcy : R zAJ [zA (enc (orb v (k + 1)))] = some [zA (enc (orb v (k + 1 + 1)))] := zHM n h1 hn (orb v (k + 1)) (hok.mono (by omega)); obtain ⟨u, g1, g2, g3⟩ := ih (k + 1) (by omega)
    refine ⟨u, ?_, g2, ?_⟩
    · apply zAm; simp (disch := omega) only [kl, decide_eq_true hlt, decide_eq_true hi', decide_eq_true, cond_true, Bool.and_true, Int.toNat_natCast, zJs hi, hv, eV, hs, decide_eq_false e1', Option.bind_some, getTV_here, Bool.not_false, hcy, w, g1]
    · rw [g3]
      constructor
      · rintro ⟨j, h3, h4, h5⟩; exact ⟨j, by omega, h4, h5⟩
      · rintro ⟨j, h3, h4, h5⟩
        by_cases hj : j = k
        · subst hj; exact absurd h5 e1
        · exact ⟨j, by omega, h4, h5⟩
theorem zVI {n : Nat} (h1 : 1 ≤ n) (hn : n ≤ 8) {ys : List VN} (hO : Orbs (n := n) ys) : ∀ (d j : Nat) (out : List VN), j + d = ys.length → out.length ≤ j →
  R jC [zB ys, zB out, tI (j : Int)] = some [tI 0, zB (out ++ (ys.drop j).filter (bkB n))] := by
 have eV : ∀ x : VN, (x.1, x.2.1, x.2.2) = x := fun x => rfl; have hlen := hO.len; intro d
 induction d with
 | zero =>
  intro j out hj _; apply zD7; have : ¬ ((j : Int) < (ys.length : Int)) := by omega
  rw [List.drop_of_length_le (by omega), List.filter_nil, List.append_nil]; simp only [jG, decide_eq_false this, cond_false]
 | succ d ih =>
  intro j out hj ho; have hjy : j < ys.length := by omega
  have hlt : ((j : Int) < (ys.length : Int)) := by omega
  obtain ⟨v, hv, hok, _⟩ := hO.cyc _ (List.getElem_mem hjy); have hcy : R zAJ [zA (enc v)] = some [zA (enc (orb v (0 + 1)))] := zHM n h1 hn v (hok.mono (by omega)); obtain ⟨u, g1, g2, g3⟩ := zUi h1 hn hO hjy hv out ys.length 0 (by omega); simp only [Int.natCast_zero] at g1; have hul := g2.len; have hs := zJG (enc u) (enc v) (by rw [(zJt _).2]; omega); have hmem : enc v ∈ ys := by rw [← hv]; exact List.getElem_mem hjy
  have hb : u = v ↔ Bk v := by
   rw [g3]
   constructor
   · rintro ⟨j, _, _, h⟩; exact ⟨j, h⟩
   · intro h; obtain ⟨k, h3, h4⟩ := zTA hn (hO.mem hn hmem) h; exact ⟨k, by omega, by omega, h4⟩
  have w : wi64 ((j : Int) + 1) = ((j + 1 : Nat) : Int) := by rw [zF] <;> omega
  have ap : apOk out [enc v] = true := zJx (by omega); rw [List.drop_eq_getElem_cons hjy, hv]; apply zD7
  by_cases e : u = v
  · have e' : enc u = enc v := by rw [e]
    have hbk : bkB n (enc v) = true := zV1 hn (hb.1 e); have := ih (j + 1) (out ++ [enc v]) (by omega) (by simp; omega); rw [List.filter_cons_of_pos (by rw [hbk]), List.append_cons]; simp (disch := omega) only [jG, decide_eq_true hlt, decide_eq_true, cond_true, Bool.and_true, Int.toNat_natCast, zJs hjy, hv, eV, hcy, g1, Option.bind_some, getTV_here, getTV_next, hs, decide_eq_true e', ap, w, this]
  · have e' : ¬ enc u = enc v := fun h => e (zBh hn h); have hbk : bkB n (enc v) = false := zV2 hn (fun h => e (hb.2 h)); have := ih (j + 1) out (by omega) (by omega); rw [List.filter_cons_of_neg (by rw [hbk]; simp)]; simp (disch := omega) only [jG, decide_eq_true hlt, decide_eq_true, cond_true, cond_false, Bool.and_true, Int.toNat_natCast, zJs hjy, hv, eV, hcy, g1, Option.bind_some, getTV_here, getTV_next, hs, decide_eq_false e', w, this]
end Go.Ev.YtmdkgikjnaijeaaGreat
