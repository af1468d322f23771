/- Conjugation in a Garside group: convexity, and what cycling reaches. -/
import Derived.Test.YtgfleapbganjiaaGreatWa
set_option linter.unusedVariables false
namespace Go.Gar
structure Cj (G : Type) [Grp G] where
 D : Int → G
 inf : G → Int
 hd : G → G
 cnt : G → Nat
 len : G → Nat
 N : Nat
 D_add : ∀ a b, D (a + b) = D a * D b
 D_zero : D 0 = 1
 inf_one : inf 1 = 0
 inf_mul : ∀ a b, inf a + inf b ≤ inf (a * b)
 inf_D : ∀ k, inf (D k) = k
 anti : ∀ a, 0 ≤ inf a → 0 ≤ inf a⁻¹ → a = 1
 hd_pos : ∀ a, 0 ≤ inf a → 0 ≤ inf (hd a)
 hd_le : ∀ a, 0 ≤ inf a → 0 ≤ inf ((hd a)⁻¹ * a)
 hd_D : ∀ a, 0 ≤ inf a → 0 ≤ inf ((hd a)⁻¹ * D 1)
 hd_max : ∀ a b, 0 ≤ inf a → 0 ≤ inf b → 0 ≤ inf ((hd b)⁻¹ * a) → 0 ≤ inf ((hd b)⁻¹ * hd a)
 hd_D1 : hd (D 1) = D 1
 hd_mul : ∀ a b, 0 ≤ inf a → 0 ≤ inf b → 0 ≤ inf ((hd (a * b))⁻¹ * (a * hd b))
 cnt_lt : ∀ a b, 0 ≤ inf a → 0 ≤ inf b → 0 ≤ inf ((hd a)⁻¹ * hd b) → hd a ≠ hd b → cnt (hd a) < cnt (hd b)
 cnt_le : ∀ a, 0 ≤ inf a → cnt (hd a) ≤ N
 hd_one : ∀ a, 0 ≤ inf a → hd a = 1 → a = 1
 len_lt : ∀ a, 0 ≤ inf a → hd a ≠ 1 → len ((hd a)⁻¹ * a) < len a
namespace Cj
variable {G : Type} [Grp G] (Γ : Cj G)
theorem D_neg (k : Int) : (Γ.D k)⁻¹ = Γ.D (-k) := by
 have h : Γ.D (-k) * Γ.D k = 1 := by rw [← Γ.D_add, show -k + k = 0 by omega, Γ.D_zero]
 have : Γ.D (-k) * Γ.D k * (Γ.D k)⁻¹ = (Γ.D k)⁻¹ := by rw [h, Grp.one_mul]
 rw [← this, Grp.assoc, Grp.mul_inv, Grp.mul_one]
theorem inf_Dl (k : Int) (a : G) : Γ.inf (Γ.D k * a) = k + Γ.inf a := by
 have h1 := Γ.inf_mul (Γ.D k) a
 have h2 := Γ.inf_mul (Γ.D (-k)) (Γ.D k * a)
 rw [← Grp.assoc, ← Γ.D_add, show -k + k = 0 by omega, Γ.D_zero, Grp.one_mul, Γ.inf_D] at h2
 rw [Γ.inf_D] at h1
 omega
theorem inf_Dr (k : Int) (a : G) : Γ.inf (a * Γ.D k) = Γ.inf a + k := by
 have h1 := Γ.inf_mul a (Γ.D k)
 have h2 := Γ.inf_mul (a * Γ.D k) (Γ.D (-k))
 rw [Grp.assoc, ← Γ.D_add, show k + -k = 0 by omega, Γ.D_zero, Grp.mul_one, Γ.inf_D] at h2
 rw [Γ.inf_D] at h1
 omega
def le (a b : G) : Prop := 0 ≤ Γ.inf (a⁻¹ * b)
theorem le_trans {a b c : G} (h : Γ.le a b) (g : Γ.le b c) : Γ.le a c := by
 unfold le at *
 have := Γ.inf_mul (a⁻¹ * b) (b⁻¹ * c)
 rw [Grp.assoc, mul_inv_l] at this
 omega
theorem le_anti {a b : G} (h : Γ.le a b) (g : Γ.le b a) : a = b := by
 unfold le at *
 have := Γ.anti (a⁻¹ * b) h (by rw [mul_inv_rev, inv_inv]; exact g)
 have e : a * (a⁻¹ * b) = a * 1 := by rw [this]
 rw [mul_inv_l, Grp.mul_one] at e
 exact e.symm
def cj (x g : G) : G := g⁻¹ * (x * g)
theorem cj_inf {x g : G} {p : Int} : p ≤ Γ.inf (cj x g) ↔ Γ.le g (x * g * Γ.D (-p)) := by
 unfold le cj
 rw [← Grp.assoc, ← Grp.assoc, Γ.inf_Dr]
 rw [Grp.assoc]
 constructor <;> intro h <;> omega
theorem cj_cj (x g h : G) : cj (cj x g) h = cj x (g * h) := by
 simp only [cj, mul_inv_rev, Grp.assoc]
theorem split (x g : G) (p : Int) : x * g * Γ.D (-p) = (x * Γ.D (-p)) * (Γ.D p * (g * Γ.D (-p))) := by
 rw [Grp.assoc x (Γ.D (-p)), ← Grp.assoc (Γ.D (-p)), ← Γ.D_add, show -p + p = 0 by omega, Γ.D_zero, Grp.one_mul, Grp.assoc]
theorem head_conj {x f : G} {p : Int} (hf : 0 ≤ Γ.inf f) (hx : p ≤ Γ.inf x) {t : G} (ht0 : 0 ≤ Γ.inf t) (ht : Γ.le (Γ.hd t) (x * f * Γ.D (-p))) (turn : ∀ a : G, 0 ≤ Γ.inf a → Γ.hd (Γ.D p * (a * Γ.D (-p))) = Γ.D p * (Γ.hd a * Γ.D (-p))) :
  Γ.le (Γ.hd t) (x * Γ.hd f * Γ.D (-p)) := by
 have h1 : 0 ≤ Γ.inf (x * Γ.D (-p)) := by rw [Γ.inf_Dr]; omega
 have h2 : 0 ≤ Γ.inf (Γ.D p * (f * Γ.D (-p))) := by rw [Γ.inf_Dl, Γ.inf_Dr]; omega
 rw [split] at ht
 have h3 : 0 ≤ Γ.inf (x * Γ.D (-p) * (Γ.D p * (f * Γ.D (-p)))) := by
  have := Γ.inf_mul (x * Γ.D (-p)) (Γ.D p * (f * Γ.D (-p)))
  omega
 have h4 : Γ.le (Γ.hd t) (Γ.hd (x * Γ.D (-p) * (Γ.D p * (f * Γ.D (-p))))) := Γ.hd_max _ _ h3 ht0 ht
 have h5 := Γ.hd_mul _ _ h1 h2
 rw [turn f hf] at h5
 rw [split]
 exact Γ.le_trans h4 h5
variable (turn : ∀ (p : Int) (a : G), 0 ≤ Γ.inf a → Γ.hd (Γ.D p * (a * Γ.D (-p))) = Γ.D p * (Γ.hd a * Γ.D (-p)))
include turn
theorem convex {x y f : G} {p : Int} (hf : 0 ≤ Γ.inf f) (h : x * f = f * y) (hx : p ≤ Γ.inf x) (hy : p ≤ Γ.inf y) : p ≤ Γ.inf (cj x (Γ.hd f)) := by
 rw [cj_inf]
 refine Γ.head_conj hf hx hf ?_ (turn p)
 refine Γ.le_trans (b := f) (Γ.hd_le f hf) ?_
 unfold le
 rw [h, ← Grp.assoc, inv_mul_l, Γ.inf_Dr]
 omega
omit turn
def gg (p : Int) (z : G) : G := Γ.D p * (Γ.hd (Γ.D (-p) * z) * Γ.D (-(p + 1)))
def F (p : Int) (z : G) : G := cj z (Γ.gg p z)
theorem Zpos {p : Int} {z : G} (hz : p ≤ Γ.inf z) : 0 ≤ Γ.inf (Γ.D (-p) * z) := by rw [Γ.inf_Dl]; omega
theorem F_inf {p : Int} {z : G} (hz : p ≤ Γ.inf z) : p ≤ Γ.inf (Γ.F p z) := by
 have h0 := Γ.Zpos hz
 have h1 := Γ.hd_le _ h0
 have h2 := Γ.hd_pos _ h0
 unfold F cj gg
 generalize Γ.hd (Γ.D (-p) * z) = h at h1 h2
 have e : (Γ.D p * (h * Γ.D (-(p + 1))))⁻¹ * (z * (Γ.D p * (h * Γ.D (-(p + 1))))) = Γ.D (p + 1) * ((h⁻¹ * (Γ.D (-p) * z)) * (Γ.D p * (h * Γ.D (-(p + 1))))) := by
  simp only [mul_inv_rev, D_neg, Grp.assoc, Int.neg_neg]
 rw [e, Γ.inf_Dl]
 have h3 := Γ.inf_mul (h⁻¹ * (Γ.D (-p) * z)) (Γ.D p * (h * Γ.D (-(p + 1))))
 rw [Γ.inf_Dl, Γ.inf_Dr] at h3
 omega
theorem fg_pos {p : Int} {y f z : G} (hf : 0 ≤ Γ.inf f) (hy : p + 1 ≤ Γ.inf y) (hz : p ≤ Γ.inf z) (h : y * f = f * z) : 0 ≤ Γ.inf (f * Γ.gg p z) := by
 have h0 := Γ.Zpos hz
 have hV : 0 ≤ Γ.inf (Γ.D (-p) * (f * Γ.D p)) := by rw [Γ.inf_Dl, Γ.inf_Dr]; omega
 have hVX : Γ.D (-p) * (f * Γ.D p) * (Γ.D (-p) * z) = Γ.D (-p) * (y * f) := by
  rw [h, Grp.assoc, Grp.assoc f, ← Grp.assoc (Γ.D p), ← Γ.D_add, show p + -p = 0 by omega, Γ.D_zero, Grp.one_mul]
 have h1 : 1 ≤ Γ.inf (Γ.D (-p) * (f * Γ.D p) * (Γ.D (-p) * z)) := by
  rw [hVX, Γ.inf_Dl]
  have := Γ.inf_mul y f
  omega
 have h2 : Γ.le (Γ.D 1) (Γ.D (-p) * (f * Γ.D p) * (Γ.D (-p) * z)) := by
  unfold le
  rw [D_neg, Γ.inf_Dl]
  omega
 have h3 := Γ.hd_max _ (Γ.D 1) (show 0 ≤ Γ.inf (Γ.D (-p) * (f * Γ.D p) * (Γ.D (-p) * z)) by omega) (by rw [Γ.inf_D]; omega) (by rw [Γ.hd_D1]; exact h2)
 rw [Γ.hd_D1] at h3
 have h4 := Γ.le_trans h3 (Γ.hd_mul _ _ hV h0)
 unfold le at h4
 rw [D_neg, Γ.inf_Dl] at h4
 have e : f * Γ.gg p z = Γ.D p * (Γ.D (-p) * (f * Γ.D p) * Γ.hd (Γ.D (-p) * z) * Γ.D (-(p + 1))) := by
  unfold gg
  simp only [Grp.assoc]
  rw [← Grp.assoc (Γ.D p) (Γ.D (-p)), ← Γ.D_add, show p + -p = 0 by omega, Γ.D_zero, Grp.one_mul]
 rw [e, Γ.inf_Dl, Γ.inf_Dr]
 omega
theorem fg_le {p : Int} {f z : G} (hz : p ≤ Γ.inf z) : Γ.le (f * Γ.gg p z) f ∧ Γ.le (f * Γ.gg p z) (f * z * Γ.D (-(p + 1))) := by
 have h0 := Γ.Zpos hz
 have h1 := Γ.hd_le _ h0
 have h2 := Γ.hd_D _ h0
 constructor
 · unfold le gg
   generalize Γ.hd (Γ.D (-p) * z) = h at h1 h2
   have e : (f * (Γ.D p * (h * Γ.D (-(p + 1)))))⁻¹ * f = Γ.D (p + 1) * (h⁻¹ * Γ.D 1 * Γ.D (-(p + 1))) := by
    simp only [mul_inv_rev, D_neg, Grp.assoc, Int.neg_neg, Grp.inv_mul, Grp.mul_one]
    rw [← Γ.D_add 1, show 1 + -(p + 1) = -p by omega]
   rw [e, Γ.inf_Dl, Γ.inf_Dr]
   omega
 · unfold le gg
   generalize Γ.hd (Γ.D (-p) * z) = h at h1 h2
   have e : (f * (Γ.D p * (h * Γ.D (-(p + 1)))))⁻¹ * (f * z * Γ.D (-(p + 1))) = Γ.D (p + 1) * (h⁻¹ * (Γ.D (-p) * z) * Γ.D (-(p + 1))) := by
    simp only [mul_inv_rev, D_neg, Grp.assoc, Int.neg_neg, inv_mul_l]
   rw [e, Γ.inf_Dl, Γ.inf_Dr]
   omega
def Bk (p : Int) (x : G) : Nat → G
 | 0 => 1
 | k + 1 => Bk p x k * Γ.gg p (cj x (Bk p x k))
theorem Bk_inf {p : Int} {x : G} (hx : p ≤ Γ.inf x) : ∀ k, p ≤ Γ.inf (cj x (Γ.Bk p x k))
 | 0 => by simpa [Bk, cj, inv_one, Grp.one_mul, Grp.mul_one] using hx
 | k + 1 => by
  have := Γ.F_inf (Bk_inf hx k)
  unfold F at this
  rw [cj_cj] at this
  exact this
theorem rel_Bk {x y f : G} (h : y * f = f * x) (g : G) : y * (f * g) = f * g * cj x g := by
 unfold cj
 rw [← Grp.assoc, h, Grp.assoc, Grp.assoc, mul_inv_l]
theorem fB_pos {p : Int} {x y f : G} (hf : 0 ≤ Γ.inf f) (hy : p + 1 ≤ Γ.inf y) (hx : p ≤ Γ.inf x) (h : y * f = f * x) : ∀ k, 0 ≤ Γ.inf (f * Γ.Bk p x k)
 | 0 => by simpa [Bk, Grp.mul_one] using hf
 | k + 1 => by
  have := Γ.fg_pos (fB_pos hf hy hx h k) hy (Γ.Bk_inf hx k) (rel_Bk h _)
  simp only [Bk]
  rw [← Grp.assoc]
  exact this
theorem fB_le {p : Int} {x f : G} (hx : p ≤ Γ.inf x) (k : Nat) : Γ.le (f * Γ.Bk p x (k + 1)) (f * Γ.Bk p x k) := by
 have := (Γ.fg_le (f := f * Γ.Bk p x k) (Γ.Bk_inf hx k)).1
 simp only [Bk]
 rw [← Grp.assoc]
 exact this
theorem hd_mono {a b : G} (ha : 0 ≤ Γ.inf a) (hb : 0 ≤ Γ.inf b) (h : Γ.le a b) : Γ.le (Γ.hd a) (Γ.hd b) := Γ.hd_max b a hb ha (Γ.le_trans (b := a) (Γ.hd_le a ha) h)
theorem chain (u : Nat → G) (hp : ∀ k, 0 ≤ Γ.inf (u k)) (hd : ∀ k, Γ.le (u (k + 1)) (u k)) : ∀ m, (∃ k, k < m ∧ Γ.hd (u k) = Γ.hd (u (k + 1))) ∨ Γ.cnt (Γ.hd (u m)) + m ≤ Γ.cnt (Γ.hd (u 0))
 | 0 => .inr (Nat.le_refl _)
 | m + 1 => by
  rcases chain u hp hd m with ⟨k, h1, h2⟩ | h
  · exact .inl ⟨k, by omega, h2⟩
  · by_cases e : Γ.hd (u m) = Γ.hd (u (m + 1))
    · exact .inl ⟨m, by omega, e⟩
    · have := Γ.cnt_lt _ _ (hp (m + 1)) (hp m) (Γ.hd_mono (hp (m + 1)) (hp m) (hd m)) (fun h => e h.symm)
      exact .inr (by omega)
theorem le_down (u : Nat → G) (hd : ∀ k, Γ.le (u (k + 1)) (u k)) (k : Nat) : ∀ d, Γ.le (u (k + d)) (u k)
 | 0 => by unfold le; rw [Nat.add_zero, Grp.inv_mul, Γ.inf_one]; exact Int.le_refl _
 | d + 1 => Γ.le_trans (hd (k + d)) (le_down u hd k d)
theorem hd_1 : Γ.hd 1 = 1 := by
 have h1 := Γ.hd_le 1 (by rw [Γ.inf_one]; exact Int.le_refl _)
 have h2 := Γ.hd_pos 1 (by rw [Γ.inf_one]; exact Int.le_refl _)
 rw [Grp.mul_one] at h1
 exact Γ.anti _ h2 h1
include turn
theorem cycles {p : Int} : ∀ (r : Nat) (x y f : G), 0 ≤ Γ.inf f → p + 1 ≤ Γ.inf y → p ≤ Γ.inf x → y * f = f * x → Γ.len (f * Γ.Bk p x Γ.N) < r → p + 1 ≤ Γ.inf (cj x (Γ.Bk p x Γ.N)) := by
 intro r
 induction r with
 | zero => intro x y f _ _ _ _ h; omega
 | succ r ih =>
  intro x y f hf hy hx h hr
  have hp : ∀ k, 0 ≤ Γ.inf (f * Γ.Bk p x k) := Γ.fB_pos hf hy hx h
  have hdn : ∀ k, Γ.le (f * Γ.Bk p x (k + 1)) (f * Γ.Bk p x k) := Γ.fB_le hx
  have fin : f * Γ.Bk p x Γ.N = 1 → p + 1 ≤ Γ.inf (cj x (Γ.Bk p x Γ.N)) := by
   intro e
   have := rel_Bk h (Γ.Bk p x Γ.N)
   rw [e, Grp.mul_one, Grp.one_mul] at this
   rw [← this]
   exact hy
  rcases Γ.chain (fun k => f * Γ.Bk p x k) hp hdn Γ.N with ⟨k, hk, e⟩ | hc
  · have hmono : ∀ j, Γ.le (f * Γ.Bk p x (k + j)) (f * Γ.Bk p x k) := Γ.le_down (fun k => f * Γ.Bk p x k) hdn k
    obtain ⟨j, hj⟩ : ∃ j, Γ.N = k + j := ⟨Γ.N - k, by omega⟩
    by_cases h1 : Γ.hd (f * Γ.Bk p x k) = 1
    · have e1 := Γ.hd_one _ (hp k) h1
      have := hmono j
      rw [← hj, e1] at this
      unfold le at this
      rw [Grp.mul_one] at this
      exact fin (Γ.anti _ (hp Γ.N) this)
    ·
     have a1 : Γ.le (Γ.hd (f * Γ.Bk p x k)) (f * Γ.Bk p x (k + 1)) := by rw [e]; exact Γ.hd_le _ (hp (k + 1))
     have a2 : Γ.le (f * Γ.Bk p x (k + 1)) (f * Γ.Bk p x k * cj x (Γ.Bk p x k) * Γ.D (-(p + 1))) := by
      have := (Γ.fg_le (f := f * Γ.Bk p x k) (Γ.Bk_inf hx k)).2
      simp only [Bk]
      rw [← Grp.assoc f]
      exact this
     have a3 := Γ.le_trans a1 a2
     rw [← rel_Bk h] at a3
     have a4 := (Γ.cj_inf (x := y) (g := Γ.hd (f * Γ.Bk p x k)) (p := p + 1)).2 (Γ.head_conj (hp k) hy (hp k) a3 (turn (p + 1)))
     have a5 : Γ.le (Γ.hd (f * Γ.Bk p x k)) f := by
      have := Γ.le_down (fun k => f * Γ.Bk p x k) hdn 0 k
      simp only [Nat.zero_add, Bk, Grp.mul_one] at this
      exact Γ.le_trans (b := f * Γ.Bk p x k) (Γ.hd_le _ (hp k)) this
     generalize hθ : Γ.hd (f * Γ.Bk p x k) = θ at a3 a4 a5 h1
     have rel : cj y θ * (θ⁻¹ * f) = θ⁻¹ * f * x := by
      unfold cj
      rw [Grp.assoc, Grp.assoc, mul_inv_l, h, Grp.assoc]
     have hq := Γ.fB_pos (f := θ⁻¹ * f) a5 a4 hx rel Γ.N
     rw [Grp.assoc] at hq
     have hθN : θ = Γ.hd (f * Γ.Bk p x Γ.N) := by
      refine Γ.le_anti ?_ ?_
      · have := Γ.hd_max _ _ (hp Γ.N) (hp k) (by rw [hθ]; exact hq)
        rw [hθ] at this
        exact this
      · have := Γ.hd_mono (hp (k + j)) (hp k) (hmono j)
        rw [← hj, hθ] at this
        exact this
     refine ih x (cj y θ) (θ⁻¹ * f) a5 a4 hx rel ?_
     rw [Grp.assoc, hθN]
     have := Γ.len_lt _ (hp Γ.N) (by rw [← hθN]; exact h1)
     omega
  · have c0 := Γ.cnt_le _ (hp 0)
    have : Γ.hd (f * Γ.Bk p x Γ.N) = 1 := by
     apply Classical.byContradiction
     intro hne
     have one : 0 ≤ Γ.inf (1 : G) := by rw [Γ.inf_one]; exact Int.le_refl _
     have := Γ.cnt_lt 1 _ one (hp Γ.N) (by rw [Γ.hd_1, inv_one, Grp.one_mul]; exact Γ.hd_pos _ (hp Γ.N)) (by rw [Γ.hd_1]; exact fun e => hne e.symm)
     omega
    exact fin (Γ.hd_one _ (hp Γ.N) this)
theorem path {p q : Int} {Q : G → Prop} {y : G} (hy : p ≤ Γ.inf y) (hy' : q ≤ Γ.inf y⁻¹) (step : ∀ z a : G, 0 ≤ Γ.inf a → Q z → p ≤ Γ.inf (cj z (Γ.hd a)) → q ≤ Γ.inf (cj z (Γ.hd a))⁻¹ → Q (cj z (Γ.hd a))) :
  ∀ (r : Nat) (x f : G), Γ.len f < r → 0 ≤ Γ.inf f → x * f = f * y → p ≤ Γ.inf x → q ≤ Γ.inf x⁻¹ → Q x → Q y := by
 intro r
 induction r with
 | zero => intro x f h; omega
 | succ r ih =>
  intro x f hr hf h hx hx' hQ
  by_cases h1 : Γ.hd f = 1
  · have e := Γ.hd_one f hf h1
    rw [e, Grp.mul_one, Grp.one_mul] at h
    rw [← h]
    exact hQ
  · have b1 := Γ.convex turn hf h hx hy
    have hinv : x⁻¹ * f = f * y⁻¹ := by
     have : x⁻¹ * (x * f) * y⁻¹ = x⁻¹ * (f * y) * y⁻¹ := by rw [h]
     rw [inv_mul_l, Grp.assoc, Grp.assoc, Grp.mul_inv, Grp.mul_one] at this
     exact this.symm
    have b2 := Γ.convex turn hf hinv hx' hy'
    have e2 : (cj x (Γ.hd f))⁻¹ = cj x⁻¹ (Γ.hd f) := by simp only [cj, mul_inv_rev, inv_inv, Grp.assoc]
    refine ih (cj x (Γ.hd f)) ((Γ.hd f)⁻¹ * f) ?_ (Γ.hd_le f hf) ?_ b1 (by rw [e2]; exact b2) (step x f hf hQ b1 (by rw [e2]; exact b2))
    · have := Γ.len_lt f hf h1
      omega
    · unfold cj
      rw [Grp.assoc, Grp.assoc, mul_inv_l, h, Grp.assoc]
end Cj
end Go.Gar
