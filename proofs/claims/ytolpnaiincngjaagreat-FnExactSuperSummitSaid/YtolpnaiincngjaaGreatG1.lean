/- Simple elements with a lattice of beginnings, and normal forms of their products: the plain theory. -/
set_option linter.unusedVariables false
set_option linter.unusedSimpArgs false
namespace Go.Gar
class Grp (G : Type) extends Mul G, One G, Inv G where
  assoc : ∀ a b c : G, a * b * c = a * (b * c)
  one_mul : ∀ a : G, 1 * a = a
  mul_one : ∀ a : G, a * 1 = a
  inv_mul : ∀ a : G, a⁻¹ * a = 1
  mul_inv : ∀ a : G, a * a⁻¹ = 1
section
variable {G : Type} [Grp G]
theorem inv_mul_l (a b : G) : a⁻¹ * (a * b) = b := by rw [← Grp.assoc, Grp.inv_mul, Grp.one_mul]
theorem mul_inv_l (a b : G) : a * (a⁻¹ * b) = b := by rw [← Grp.assoc, Grp.mul_inv, Grp.one_mul]
theorem cancel_l {a b c : G} (h : a * b = a * c) : b = c := by rw [← inv_mul_l a b, h, inv_mul_l]
theorem inv_one : (1 : G)⁻¹ = 1 := by rw [← Grp.mul_one (1 : G)⁻¹, Grp.inv_mul]
theorem inv_inv (a : G) : a⁻¹⁻¹ = a := by
  apply cancel_l (a := a⁻¹)
  rw [Grp.mul_inv, Grp.inv_mul]
theorem mul_inv_rev (a b : G) : (a * b)⁻¹ = b⁻¹ * a⁻¹ := by
  apply cancel_l (a := a * b)
  rw [Grp.mul_inv, Grp.assoc, mul_inv_l, Grp.mul_inv]
theorem inv_mul_r (a b : G) : a * b⁻¹ * b = a := by rw [Grp.assoc, Grp.inv_mul, Grp.mul_one]
end
structure Lat (G : Type) [Grp G] where
  S : G → Prop
  le : G → G → Prop
  D : G
  meet : G → G → G
  S_one : S 1
  S_D : S D
  S_K : ∀ {x}, S x → S (x⁻¹ * D)
  S_K' : ∀ {x}, S x → S (D * x⁻¹)
  refl : ∀ {x}, S x → le x x
  trans : ∀ {x y z}, S x → S y → S z → le x y → le y z → le x z
  anti : ∀ {x y}, S x → S y → le x y → le y x → x = y
  one_le : ∀ {x}, S x → le 1 x
  le_D : ∀ {x}, S x → le x D
  S_meet : ∀ {x y}, S x → S y → S (meet x y)
  meet_l : ∀ {x y}, S x → S y → le (meet x y) x
  meet_r : ∀ {x y}, S x → S y → le (meet x y) y
  le_meet : ∀ {x y z}, S x → S y → S z → le z x → le z y → le z (meet x y)
  p0 : ∀ {x y}, S x → S y → le x y → S (x⁻¹ * y) ∧ le (x⁻¹ * y) (x⁻¹ * D)
  p1 : ∀ {x y}, S x → S y → le y (x⁻¹ * D) → S (x * y) ∧ le x (x * y)
  p2 : ∀ {v x y}, S v → S x → S y → le x (v⁻¹ * D) → le y (v⁻¹ * D) → (le (v * x) (v * y) ↔ le x y)
namespace Lat
variable {G : Type} [Grp G] (Γ : Lat G)
/-- What is left to the greatest element. -/
def K (x : G) : G := x⁻¹ * Γ.D
variable {Γ}
theorem SK {x : G} (h : Γ.S x) : Γ.S (Γ.K x) := Γ.S_K h
theorem P0 {x y : G} (hx : Γ.S x) (hy : Γ.S y) (h : Γ.le x y) : Γ.S (x⁻¹ * y) ∧ Γ.le (x⁻¹ * y) (Γ.K x) := Γ.p0 hx hy h
theorem P1 {x y : G} (hx : Γ.S x) (hy : Γ.S y) (h : Γ.le y (Γ.K x)) : Γ.S (x * y) ∧ Γ.le x (x * y) := Γ.p1 hx hy h
theorem P2 {v x y : G} (hv : Γ.S v) (hx : Γ.S x) (hy : Γ.S y) (h1 : Γ.le x (Γ.K v)) (h2 : Γ.le y (Γ.K v)) : Γ.le (v * x) (v * y) ↔ Γ.le x y := Γ.p2 hv hx hy h1 h2
theorem K_mul (x y : G) : Γ.K (x * y) = y⁻¹ * Γ.K x := by simp only [K, mul_inv_rev, Grp.assoc]
theorem K_inj {x y : G} (h : Γ.K x = Γ.K y) : x = y := by
  have : x⁻¹ = y⁻¹ := by rw [← Grp.mul_one x⁻¹, ← Grp.mul_inv Γ.D, ← Grp.assoc, ← Grp.mul_one y⁻¹, ← Grp.mul_inv Γ.D, ← Grp.assoc]; unfold K at h; rw [h]
  rw [← inv_inv x, this, inv_inv]
theorem le_one {x : G} (hx : Γ.S x) (h : Γ.le x 1) : x = 1 := Γ.anti hx Γ.S_one h (Γ.one_le hx)
theorem meet_one_r {x : G} (hx : Γ.S x) : Γ.meet x 1 = 1 := le_one (Γ.S_meet hx Γ.S_one) (Γ.meet_r hx Γ.S_one)
theorem meet_D_l {x : G} (hx : Γ.S x) : Γ.meet Γ.D x = x :=
  Γ.anti (Γ.S_meet Γ.S_D hx) hx (Γ.meet_r Γ.S_D hx) (Γ.le_meet Γ.S_D hx hx (Γ.le_D hx) (Γ.refl hx))
theorem meet_le {x y z : G} (hx : Γ.S x) (hy : Γ.S y) (hz : Γ.S z) (h1 : Γ.le z x) (h2 : Γ.le z y) (h : Γ.meet x y = 1) : z = 1 :=
  le_one hz (h ▸ Γ.le_meet hx hy hz h1 h2)
theorem meet_mul {v x y : G} (hv : Γ.S v) (hx : Γ.S x) (hy : Γ.S y) (h1 : Γ.le x (Γ.K v)) (h2 : Γ.le y (Γ.K v)) : Γ.meet (v * x) (v * y) = v * Γ.meet x y := by
  obtain ⟨a1, a2⟩ := P1 hv hx h1
  obtain ⟨b1, b2⟩ := P1 hv hy h2
  have hm := Γ.S_meet a1 b1
  have hq := Γ.S_meet hx hy
  have hK := SK hv
  have hqK : Γ.le (Γ.meet x y) (Γ.K v) := Γ.trans hq hx hK (Γ.meet_l hx hy) h1
  have hv1 : Γ.le v (Γ.meet (v * x) (v * y)) := Γ.le_meet a1 b1 hv a2 b2
  obtain ⟨c1, c2⟩ := P0 hv hm hv1
  obtain ⟨d1, d2⟩ := P1 hv hq hqK
  have e : v * (v⁻¹ * Γ.meet (v * x) (v * y)) = Γ.meet (v * x) (v * y) := mul_inv_l _ _
  apply Γ.anti hm d1
  · rw [← e]
    rw [P2 hv c1 hq c2 hqK]
    apply Γ.le_meet hx hy c1
    · rw [← P2 hv c1 hx c2 h1, e]; exact Γ.meet_l a1 b1
    · rw [← P2 hv c1 hy c2 h2, e]; exact Γ.meet_r a1 b1
  · apply Γ.le_meet a1 b1 d1
    · rw [P2 hv hq hx hqK h1]; exact Γ.meet_l hx hy
    · rw [P2 hv hq hy hqK h2]; exact Γ.meet_r hx hy
/-- One cut: c = what t takes of a. -/
structure Cut (t a c : G) : Prop where
  S_c : Γ.S c
  c_K : Γ.le c (Γ.K t)
  c_a : Γ.le c a
  S_tc : Γ.S (t * c)
  S_r : Γ.S (c⁻¹ * a)
  r_K : Γ.le (c⁻¹ * a) (Γ.K c)
  K_tc : Γ.le (Γ.K (t * c)) (Γ.K c)
  one : Γ.meet (Γ.K (t * c)) (c⁻¹ * a) = 1
theorem cut {t a : G} (ht : Γ.S t) (ha : Γ.S a) : Γ.Cut t a (Γ.meet (Γ.K t) a) := by
  have hK := SK ht
  have hc := Γ.S_meet hK ha
  have h1 := Γ.meet_l hK ha
  have h2 := Γ.meet_r hK ha
  obtain ⟨a1, a2⟩ := P0 hc ha h2
  obtain ⟨b1, b2⟩ := P0 hc hK h1
  have e : Γ.K (t * Γ.meet (Γ.K t) a) = (Γ.meet (Γ.K t) a)⁻¹ * Γ.K t := K_mul _ _
  refine ⟨hc, h1, h2, (P1 ht hc h1).1, a1, a2, by rw [e]; exact b2, ?_⟩
  rw [e]
  have := meet_mul hc b1 a1 b2 a2
  unfold K at *
  rw [mul_inv_l, mul_inv_l] at this
  apply cancel_l (a := Γ.meet (t⁻¹ * Γ.D) a)
  rw [Grp.mul_one]
  exact this.symm
theorem dom1 {t a b : G} (ht : Γ.S t) (ha : Γ.S a) (hb : Γ.S b) (hw : Γ.meet (Γ.K a) b = 1) :
    Γ.meet (Γ.K (t * Γ.meet (Γ.K t) a)) (((Γ.meet (Γ.K t) a)⁻¹ * a) * Γ.meet (Γ.K ((Γ.meet (Γ.K t) a)⁻¹ * a)) b) = 1 := by
  have C := cut ht ha
  generalize Γ.meet (Γ.K t) a = c at *
  have C' := cut C.S_r hb
  have hKa' := SK C.S_r
  obtain ⟨s1, s2⟩ := P1 C.S_r C'.S_c C'.c_K
  have cb : Γ.le (Γ.meet (Γ.K (c⁻¹ * a)) b) b := C'.c_a
  have cK : Γ.le (Γ.meet (Γ.K (c⁻¹ * a)) b) (Γ.K (c⁻¹ * a)) := C'.c_K
  have Sc' := C'.S_c
  generalize Γ.meet (Γ.K (c⁻¹ * a)) b = c' at *
  have hKc := SK C.S_c
  have hKtc := SK C.S_tc
  -- w: what a' c' and K c have in common
  have hw' := Γ.S_meet s1 hKc
  have haw : Γ.le (c⁻¹ * a) (Γ.meet (c⁻¹ * a * c') (Γ.K c)) := Γ.le_meet s1 hKc C.S_r s2 C.r_K
  obtain ⟨q1, q2⟩ := P0 C.S_r hw' haw
  have e : (c⁻¹ * a) * ((c⁻¹ * a)⁻¹ * Γ.meet (c⁻¹ * a * c') (Γ.K c)) = Γ.meet (c⁻¹ * a * c') (Γ.K c) := mul_inv_l _ _
  generalize hww : (c⁻¹ * a)⁻¹ * Γ.meet (c⁻¹ * a * c') (Γ.K c) = w' at *
  have l1 : Γ.le w' c' := by
    rw [← P2 C.S_r q1 Sc' q2 cK, e]
    exact Γ.meet_l s1 hKc
  have l2 : Γ.le w' (Γ.K a) := by
    have e2 : (c⁻¹ * a) * Γ.K a = Γ.K c := by
      unfold K
      rw [Grp.assoc, mul_inv_l]
    have hKa : Γ.le (Γ.K a) (Γ.K (c⁻¹ * a)) := by
      have := (P0 C.S_r hKc C.r_K).2
      have e3 : (c⁻¹ * a)⁻¹ * Γ.K c = Γ.K a := by rw [← e2, inv_mul_l]
      rw [e3] at this
      exact this
    rw [← P2 C.S_r q1 (SK ha) q2 hKa]
    rw [e2, e]
    exact Γ.meet_r s1 hKc
  have l3 : w' = 1 := meet_le (SK ha) hb q1 l2 (Γ.trans q1 Sc' hb l1 cb) hw
  have hm := Γ.S_meet hKtc s1
  apply meet_le hKtc C.S_r hm (Γ.meet_l hKtc s1) ?_ C.one
  have : Γ.le (Γ.meet (Γ.K (t * c)) (c⁻¹ * a * c')) (Γ.meet (c⁻¹ * a * c') (Γ.K c)) :=
    Γ.le_meet s1 hKc hm (Γ.meet_r hKtc s1) (Γ.trans hm hKtc hKc (Γ.meet_l hKtc s1) C.K_tc)
  rw [← e, l3, Grp.mul_one] at this
  exact this
theorem suffix_meet {d e c x y b : G} (hd : Γ.S d) (hx : Γ.S x) (hb : Γ.S b) (h1 : Γ.le d b) (h2 : Γ.le x b) (h3 : Γ.meet d x = 1) :
    Γ.meet (Γ.K (d⁻¹ * b)) (Γ.K (x⁻¹ * b)) = Γ.K b := by
  obtain ⟨a1, a2⟩ := P0 hd hb h1
  obtain ⟨b1, b2⟩ := P0 hx hb h2
  have hKb := SK hb
  have hKe := SK a1
  have hKc := SK b1
  have hs := Γ.S_meet hKe hKc
  -- K b is a beginning of both
  have key : ∀ {z : G}, Γ.S z → Γ.le z b → Γ.le (Γ.K b) (Γ.K (z⁻¹ * b)) := by
    intro z hz hzb
    obtain ⟨z1, z2⟩ := P0 hz hb hzb
    have := (P0 z1 (SK hz) z2).2
    have e : (z⁻¹ * b)⁻¹ * Γ.K z = Γ.K b := by
      unfold K
      rw [mul_inv_rev, inv_inv, Grp.assoc, mul_inv_l]
    rw [e] at this
    exact this
  have l1 := Γ.le_meet hKe hKc hKb (key hd h1) (key hx h2)
  generalize hse : Γ.meet (Γ.K (d⁻¹ * b)) (Γ.K (x⁻¹ * b)) = s at *
  have l2 : Γ.le s (Γ.K (d⁻¹ * b)) := hse ▸ Γ.meet_l hKe hKc
  have l3 : Γ.le s (Γ.K (x⁻¹ * b)) := hse ▸ Γ.meet_r hKe hKc
  -- j: that whose rest is s
  have hj := Γ.S_K' hs
  have eK : Γ.K (Γ.D * s⁻¹) = s := by
    unfold K
    rw [mul_inv_rev, inv_inv, inv_mul_r]
  generalize hje : Γ.D * s⁻¹ = j at *
  have beta0 := (P1 hj hKb (by rw [eK]; exact l1))
  have hy0 := Γ.S_K' beta0.1
  have ey : Γ.D * (j * Γ.K b)⁻¹ = b * j⁻¹ := by
    unfold K
    rw [mul_inv_rev, mul_inv_rev, inv_inv, ← Grp.assoc, mul_inv_l]
  have hy : Γ.S (b * j⁻¹) := by
    have := hy0
    rw [ey] at this
    exact this
  have eKy : Γ.K (b * j⁻¹) = j * Γ.K b := by
    unfold K
    rw [mul_inv_rev, inv_inv, Grp.assoc]
  have main : ∀ {z : G}, Γ.S z → Γ.le z b → Γ.le s (Γ.K (z⁻¹ * b)) → Γ.le (b * j⁻¹) z := by
    intro z hz hzb hsz
    obtain ⟨z1, z2⟩ := P0 hz hb hzb
    obtain ⟨t1, t2⟩ := P1 z1 hs hsz
    have hx1 := Γ.S_K' t1
    have ex : Γ.D * ((z⁻¹ * b) * s)⁻¹ = j * (z⁻¹ * b)⁻¹ := by
      rw [mul_inv_rev, ← Grp.assoc, hje]
    rw [ex] at hx1
    have eKx : Γ.K (j * (z⁻¹ * b)⁻¹) = (z⁻¹ * b) * s := by
      rw [← eK]
      unfold K
      rw [mul_inv_rev, inv_inv, Grp.assoc]
    obtain ⟨u1, u2⟩ := P1 hx1 z1 (by rw [eKx]; exact t2)
    rw [inv_mul_r] at u1 u2
    have hyj : Γ.le (j * (z⁻¹ * b)⁻¹) (Γ.K (b * j⁻¹)) := by
      rw [eKy]
      exact Γ.trans hx1 hj beta0.1 u2 beta0.2
    have := (P1 hy hx1 hyj).2
    have e : b * j⁻¹ * (j * (z⁻¹ * b)⁻¹) = z := by
      rw [Grp.assoc, inv_mul_l, mul_inv_rev, inv_inv, mul_inv_l]
    rw [e] at this
    exact this
  have hy1 : b * j⁻¹ = 1 := meet_le hd hx hy (main hd h1 l2) (main hx h2 l3) h3
  have : j = b := by
    rw [← Grp.one_mul j, ← hy1, inv_mul_r]
  rw [← eK, this]
theorem dom2 {a1 a2 b : G} (h1 : Γ.S a1) (h2 : Γ.S a2) (hb : Γ.S b) (hw : Γ.meet (Γ.K a1) a2 = 1) :
    Γ.meet (Γ.K ((Γ.meet (Γ.K a1) (a2 * Γ.meet (Γ.K a2) b))⁻¹ * (a2 * Γ.meet (Γ.K a2) b))) ((Γ.meet (Γ.K a2) b)⁻¹ * b) = 1 := by
  have C := cut h2 hb
  generalize Γ.meet (Γ.K a2) b = c at *
  obtain ⟨s1, s2⟩ := P1 h2 C.S_c C.c_K
  have hK1 := SK h1
  have hd := Γ.S_meet hK1 s1
  have hd1 : Γ.le (Γ.meet (Γ.K a1) (a2 * c)) (Γ.K a1) := Γ.meet_l hK1 s1
  have hd2 : Γ.le (Γ.meet (Γ.K a1) (a2 * c)) (a2 * c) := Γ.meet_r hK1 s1
  generalize Γ.meet (Γ.K a1) (a2 * c) = d at *
  have hm := Γ.S_meet hd h2
  have hda : Γ.meet d a2 = 1 := meet_le hK1 h2 hm (Γ.trans hm hd hK1 (Γ.meet_l hd h2) hd1) (Γ.meet_r hd h2) hw
  have key := suffix_meet (e := d) (c := d) (y := d) hd h2 s1 hd2 s2 hda
  rw [inv_mul_l] at key
  obtain ⟨e1, e2⟩ := P0 hd s1 hd2
  have hKe := SK e1
  have hKc := SK C.S_c
  have ht := Γ.S_meet hKe C.S_r
  apply meet_le (SK s1) C.S_r ht ?_ (Γ.meet_r hKe C.S_r) C.one
  show Γ.le _ (Γ.K (a2 * c))
  rw [← key]
  exact Γ.le_meet hKe hKc ht (Γ.meet_l hKe C.S_r) (Γ.trans ht C.S_r hKc (Γ.meet_r hKe C.S_r) C.r_K)
end Lat
end Go.Gar
