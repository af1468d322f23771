/- Texts merged: G1 G2 G3 G4 Mb1 Mb2 Mb3 Ma1 Ma2. -/
import Derived.Test.YtmdkgikjnaijeaaGreatB
import Derived.Test.YtmdkgikjnaijeaaGreatV4
set_option linter.unusedVariables false
set_option linter.unusedSimpArgs false
namespace Go.Gar
class Grp (G : Type) extends Mul G, One G, Inv G where
 assoc : ∀ a b c : G, a * b * c = a * (b * c)
 one_mul : ∀ a : G, 1 * a = a
 mul_one : ∀ a : G, a * 1 = a
 inv_mul : ∀ a : G, a⁻¹ * a = 1
 mul_inv : ∀ a : G, a * a⁻¹ = 1
section
variable {G : Type} [Grp G]
theorem kF (a b : G) : a⁻¹ * (a * b) = b := by rw [← Grp.assoc, Grp.inv_mul, Grp.one_mul]
theorem zb (a b : G) : a * (a⁻¹ * b) = b := by rw [← Grp.assoc, Grp.mul_inv, Grp.one_mul]
theorem zGp {a b c : G} (h : a * b = a * c) : b = c := by rw [← kF a b, h, kF]
theorem jJ : (1 : G)⁻¹ = 1 := by rw [← Grp.mul_one (1 : G)⁻¹, Grp.inv_mul]
theorem kS (a : G) : a⁻¹⁻¹ = a := by
 apply zGp (a := a⁻¹); rw [Grp.mul_inv, Grp.inv_mul]
theorem zL (a b : G) : (a * b)⁻¹ = b⁻¹ * a⁻¹ := by
 apply zGp (a := a * b); rw [Grp.mul_inv, Grp.assoc, zb, Grp.mul_inv]
theorem zGd (a b : G) : a * b⁻¹ * b = a := by rw [Grp.assoc, Grp.inv_mul, Grp.mul_one]
end
structure Lat (G : Type) [Grp G] where
 S : G → Prop
 le : G → G → Prop
 D : G
 meet : G → G → G
 S_one : S 1
 S_D : S D
 S_K : ∀ {x}, S x → S (x⁻¹ * D)
 S_K' : ∀ {x}, S x → S (D * x⁻¹)
 refl : ∀ {x}, S x → le x x
 trans : ∀ {x y z}, S x → S y → S z → le x y → le y z → le x z
 anti : ∀ {x y}, S x → S y → le x y → le y x → x = y
 one_le : ∀ {x}, S x → le 1 x
 le_D : ∀ {x}, S x → le x D
 S_meet : ∀ {x y}, S x → S y → S (meet x y)
 meet_l : ∀ {x y}, S x → S y → le (meet x y) x
 meet_r : ∀ {x y}, S x → S y → le (meet x y) y
 le_meet : ∀ {x y z}, S x → S y → S z → le z x → le z y → le z (meet x y)
 p0 : ∀ {x y}, S x → S y → le x y → S (x⁻¹ * y) ∧ le (x⁻¹ * y) (x⁻¹ * D)
 p1 : ∀ {x y}, S x → S y → le y (x⁻¹ * D) → S (x * y) ∧ le x (x * y)
 p2 : ∀ {v x y}, S v → S x → S y → le x (v⁻¹ * D) → le y (v⁻¹ * D) → (le (v * x) (v * y) ↔ le x y)
namespace Lat
variable {G : Type} [Grp G] (Γ : Lat G)
def K (x : G) : G := x⁻¹ * Γ.D
variable {Γ}
theorem SK {x : G} (h : Γ.S x) : Γ.S (Γ.K x) := Γ.S_K h
theorem P0 {x y : G} (hx : Γ.S x) (hy : Γ.S y) (h : Γ.le x y) : Γ.S (x⁻¹ * y) ∧ Γ.le (x⁻¹ * y) (Γ.K x) := Γ.p0 hx hy h
theorem P1 {x y : G} (hx : Γ.S x) (hy : Γ.S y) (h : Γ.le y (Γ.K x)) : Γ.S (x * y) ∧ Γ.le x (x * y) := Γ.p1 hx hy h
theorem P2 {v x y : G} (hv : Γ.S v) (hx : Γ.S x) (hy : Γ.S y) (h1 : Γ.le x (Γ.K v)) (h2 : Γ.le y (Γ.K v)) : Γ.le (v * x) (v * y) ↔ Γ.le x y := Γ.p2 hv hx hy h1 h2
theorem zUl (x y : G) : Γ.K (x * y) = y⁻¹ * Γ.K x := by simp only [K, zL, Grp.assoc]
theorem zV6 {x y : G} (h : Γ.K x = Γ.K y) : x = y := by
 have : x⁻¹ = y⁻¹ := by rw [← Grp.mul_one x⁻¹, ← Grp.mul_inv Γ.D, ← Grp.assoc, ← Grp.mul_one y⁻¹, ← Grp.mul_inv Γ.D, ← Grp.assoc]; unfold K at h; rw [h]
 rw [← kS x, this, kS]
theorem le_one {x : G} (hx : Γ.S x) (h : Γ.le x 1) : x = 1 := Γ.anti hx Γ.S_one h (Γ.one_le hx)
theorem meet_one_r {x : G} (hx : Γ.S x) : Γ.meet x 1 = 1 := le_one (Γ.S_meet hx Γ.S_one) (Γ.meet_r hx Γ.S_one)
theorem zPC {x : G} (hx : Γ.S x) : Γ.meet Γ.D x = x :=
 Γ.anti (Γ.S_meet Γ.S_D hx) hx (Γ.meet_r Γ.S_D hx) (Γ.le_meet Γ.S_D hx hx (Γ.le_D hx) (Γ.refl hx))
theorem meet_le {x y z : G} (hx : Γ.S x) (hy : Γ.S y) (hz : Γ.S z) (h1 : Γ.le z x) (h2 : Γ.le z y) (h : Γ.meet x y = 1) : z = 1 :=
 le_one hz (h ▸ Γ.le_meet hx hy hz h1 h2)
theorem zPB {v x y : G} (hv : Γ.S v) (hx : Γ.S x) (hy : Γ.S y) (h1 : Γ.le x (Γ.K v)) (h2 : Γ.le y (Γ.K v)) : Γ.meet (v * x) (v * y) = v * Γ.meet x y := by
 obtain ⟨a1, a2⟩ := P1 hv hx h1; obtain ⟨b1, b2⟩ := P1 hv hy h2; have hm := Γ.S_meet a1 b1; have hq := Γ.S_meet hx hy; have hK := SK hv; have hqK : Γ.le (Γ.meet x y) (Γ.K v) := Γ.trans hq hx hK (Γ.meet_l hx hy) h1; have hv1 : Γ.le v (Γ.meet (v * x) (v * y)) := Γ.le_meet a1 b1 hv a2 b2; obtain ⟨c1, c2⟩ := P0 hv hm hv1; obtain ⟨d1, d2⟩ := P1 hv hq hqK; have e : v * (v⁻¹ * Γ.meet (v * x) (v * y)) = Γ.meet (v * x) (v * y) := zb _ _
 apply Γ.anti hm d1
 · rw [← e]; rw [P2 hv c1 hq c2 hqK]
   apply Γ.le_meet hx hy c1
   · rw [← P2 hv c1 hx c2 h1, e]; exact Γ.meet_l a1 b1
   · rw [← P2 hv c1 hy c2 h2, e]; exact Γ.meet_r a1 b1
 · apply Γ.le_meet a1 b1 d1
   · rw [P2 hv hq hx hqK h1]; exact Γ.meet_l hx hy
   · rw [P2 hv hq hy hqK h2]; exact Γ.meet_r hx hy
structure Cut (t a c : G) : Prop where
 S_c : Γ.S c
 c_K : Γ.le c (Γ.K t)
 c_a : Γ.le c a
 S_tc : Γ.S (t * c)
 S_r : Γ.S (c⁻¹ * a)
 r_K : Γ.le (c⁻¹ * a) (Γ.K c)
 K_tc : Γ.le (Γ.K (t * c)) (Γ.K c)
 one : Γ.meet (Γ.K (t * c)) (c⁻¹ * a) = 1
theorem cut {t a : G} (ht : Γ.S t) (ha : Γ.S a) : Γ.Cut t a (Γ.meet (Γ.K t) a) := by
 have hK := SK ht; have hc := Γ.S_meet hK ha; have h1 := Γ.meet_l hK ha; have h2 := Γ.meet_r hK ha; obtain ⟨a1, a2⟩ := P0 hc ha h2; obtain ⟨b1, b2⟩ := P0 hc hK h1; have e : Γ.K (t * Γ.meet (Γ.K t) a) = (Γ.meet (Γ.K t) a)⁻¹ * Γ.K t := zUl _ _; refine ⟨hc, h1, h2, (P1 ht hc h1).1, a1, a2, by rw [e]; exact b2, ?_⟩; rw [e]; have := zPB hc b1 a1 b2 a2; unfold K at *; rw [zb, zb] at this; apply zGp (a := Γ.meet (t⁻¹ * Γ.D) a); rw [Grp.mul_one]; exact this.symm
theorem dom1 {t a b : G} (ht : Γ.S t) (ha : Γ.S a) (hb : Γ.S b) (hw : Γ.meet (Γ.K a) b = 1) :
  Γ.meet (Γ.K (t * Γ.meet (Γ.K t) a)) (((Γ.meet (Γ.K t) a)⁻¹ * a) * Γ.meet (Γ.K ((Γ.meet (Γ.K t) a)⁻¹ * a)) b) = 1 := by
 have C := cut ht ha; generalize Γ.meet (Γ.K t) a = c at *; have C' := cut C.S_r hb; have hKa' := SK C.S_r; obtain ⟨s1, s2⟩ := P1 C.S_r C'.S_c C'.c_K; have cb : Γ.le (Γ.meet (Γ.K (c⁻¹ * a)) b) b := C'.c_a; have cK : Γ.le (Γ.meet (Γ.K (c⁻¹ * a)) b) (Γ.K (c⁻¹ * a)) := C'.c_K; have Sc' := C'.S_c; generalize Γ.meet (Γ.K (c⁻¹ * a)) b = c' at *; have hKc := SK C.S_c; have hKtc := SK C.S_tc; have hw' := Γ.S_meet s1 hKc; have haw : Γ.le (c⁻¹ * a) (Γ.meet (c⁻¹ * a * c') (Γ.K c)) := Γ.le_meet s1 hKc C.S_r s2 C.r_K; obtain ⟨q1, q2⟩ := P0 C.S_r hw' haw; have e : (c⁻¹ * a) * ((c⁻¹ * a)⁻¹ * Γ.meet (c⁻¹ * a * c') (Γ.K c)) = Γ.meet (c⁻¹ * a * c') (Γ.K c) := zb _ _; generalize hww : (c⁻¹ * a)⁻¹ * Γ.meet (c⁻¹ * a * c') (Γ.K c) = w' at *; have l1 : Γ.le w' c' := by
  rw [← P2 C.S_r q1 Sc' q2 cK, e]; exact Γ.meet_l s1 hKc
 have l2 : Γ.le w' (Γ.K a) := by
  have e2 : (c⁻¹ * a) * Γ.K a = Γ.K c := by
   unfold K; rw [Grp.assoc, zb]
  have hKa : Γ.le (Γ.K a) (Γ.K (c⁻¹ * a)) := by
   have := (P0 C.S_r hKc C.r_K).2; have e3 : (c⁻¹ * a)⁻¹ * Γ.K c = Γ.K a := by rw [← e2, kF]
   rw [e3] at this; exact this
  rw [← P2 C.S_r q1 (SK ha) q2 hKa]; rw [e2, e]; exact Γ.meet_r s1 hKc
 have l3 : w' = 1 := meet_le (SK ha) hb q1 l2 (Γ.trans q1 Sc' hb l1 cb) hw; have hm := Γ.S_meet hKtc s1; apply meet_le hKtc C.S_r hm (Γ.meet_l hKtc s1) ?_ C.one
 have : Γ.le (Γ.meet (Γ.K (t * c)) (c⁻¹ * a * c')) (Γ.meet (c⁻¹ * a * c') (Γ.K c)) :=
  Γ.le_meet s1 hKc hm (Γ.meet_r hKtc s1) (Γ.trans hm hKtc hKc (Γ.meet_l hKtc s1) C.K_tc)
 rw [← e, l3, Grp.mul_one] at this; exact this
theorem zNg {d e c x y b : G} (hd : Γ.S d) (hx : Γ.S x) (hb : Γ.S b) (h1 : Γ.le d b) (h2 : Γ.le x b) (h3 : Γ.meet d x = 1) :
  Γ.meet (Γ.K (d⁻¹ * b)) (Γ.K (x⁻¹ * b)) = Γ.K b := by
 obtain ⟨a1, a2⟩ := P0 hd hb h1; obtain ⟨b1, b2⟩ := P0 hx hb h2; have hKb := SK hb; have hKe := SK a1; have hKc := SK b1; have hs := Γ.S_meet hKe hKc; have key : ∀ {z : G}, Γ.S z → Γ.le z b → Γ.le (Γ.K b) (Γ.K (z⁻¹ * b)) := by
  intro z hz hzb; obtain ⟨z1, z2⟩ := P0 hz hb hzb; have := (P0 z1 (SK hz) z2).2; have e : (z⁻¹ * b)⁻¹ * Γ.K z = Γ.K b := by
   unfold K; rw [zL, kS, Grp.assoc, zb]
  rw [e] at this; exact this
 have l1 := Γ.le_meet hKe hKc hKb (key hd h1) (key hx h2); generalize hse : Γ.meet (Γ.K (d⁻¹ * b)) (Γ.K (x⁻¹ * b)) = s at *; have l2 : Γ.le s (Γ.K (d⁻¹ * b)) := hse ▸ Γ.meet_l hKe hKc; have l3 : Γ.le s (Γ.K (x⁻¹ * b)) := hse ▸ Γ.meet_r hKe hKc; have hj := Γ.S_K' hs; have eK : Γ.K (Γ.D * s⁻¹) = s := by
  unfold K; rw [zL, kS, zGd]
 generalize hje : Γ.D * s⁻¹ = j at *; have beta0 := (P1 hj hKb (by rw [eK]; exact l1)); have hy0 := Γ.S_K' beta0.1; have ey : Γ.D * (j * Γ.K b)⁻¹ = b * j⁻¹ := by
  unfold K; rw [zL, zL, kS, ← Grp.assoc, zb]
 have hy : Γ.S (b * j⁻¹) := by
  have := hy0; rw [ey] at this; exact this
 have eKy : Γ.K (b * j⁻¹) = j * Γ.K b := by
  unfold K; rw [zL, kS, Grp.assoc]
 have main : ∀ {z : G}, Γ.S z → Γ.le z b → Γ.le s (Γ.K (z⁻¹ * b)) → Γ.le (b * j⁻¹) z := by
  intro z hz hzb hsz; obtain ⟨z1, z2⟩ := P0 hz hb hzb; obtain ⟨t1, t2⟩ := P1 z1 hs hsz; have hx1 := Γ.S_K' t1; have ex : Γ.D * ((z⁻¹ * b) * s)⁻¹ = j * (z⁻¹ * b)⁻¹ := by
   rw [zL, ← Grp.assoc, hje]
  rw [ex] at hx1; have eKx : Γ.K (j * (z⁻¹ * b)⁻¹) = (z⁻¹ * b) * s := by
   rw [← eK]; unfold K; rw [zL, kS, Grp.assoc]
  obtain ⟨u1, u2⟩ := P1 hx1 z1 (by rw [eKx]; exact t2); rw [zGd] at u1 u2; have hyj : Γ.le (j * (z⁻¹ * b)⁻¹) (Γ.K (b * j⁻¹)) := by
   rw [eKy]; exact Γ.trans hx1 hj beta0.1 u2 beta0.2
  have := (P1 hy hx1 hyj).2; have e : b * j⁻¹ * (j * (z⁻¹ * b)⁻¹) = z := by
   rw [Grp.assoc, kF, zL, kS, zb]
  rw [e] at this; exact this
 have hy1 : b * j⁻¹ = 1 := meet_le hd hx hy (main hd h1 l2) (main hx h2 l3) h3; have : j = b := by
  rw [← Grp.one_mul j, ← hy1, zGd]
 rw [← eK, this]
theorem dom2 {a1 a2 b : G} (h1 : Γ.S a1) (h2 : Γ.S a2) (hb : Γ.S b) (hw : Γ.meet (Γ.K a1) a2 = 1) :
  Γ.meet (Γ.K ((Γ.meet (Γ.K a1) (a2 * Γ.meet (Γ.K a2) b))⁻¹ * (a2 * Γ.meet (Γ.K a2) b))) ((Γ.meet (Γ.K a2) b)⁻¹ * b) = 1 := by
 have C := cut h2 hb; generalize Γ.meet (Γ.K a2) b = c at *; obtain ⟨s1, s2⟩ := P1 h2 C.S_c C.c_K; have hK1 := SK h1; have hd := Γ.S_meet hK1 s1; have hd1 : Γ.le (Γ.meet (Γ.K a1) (a2 * c)) (Γ.K a1) := Γ.meet_l hK1 s1; have hd2 : Γ.le (Γ.meet (Γ.K a1) (a2 * c)) (a2 * c) := Γ.meet_r hK1 s1; generalize Γ.meet (Γ.K a1) (a2 * c) = d at *; have hm := Γ.S_meet hd h2; have hda : Γ.meet d a2 = 1 := meet_le hK1 h2 hm (Γ.trans hm hd hK1 (Γ.meet_l hd h2) hd1) (Γ.meet_r hd h2) hw; have key := zNg (e := d) (c := d) (y := d) hd h2 s1 hd2 s2 hda; rw [kF] at key; obtain ⟨e1, e2⟩ := P0 hd s1 hd2; have hKe := SK e1; have hKc := SK C.S_c; have ht := Γ.S_meet hKe C.S_r; apply meet_le (SK s1) C.S_r ht ?_ (Γ.meet_r hKe C.S_r) C.one; show Γ.le _ (Γ.K (a2 * c)); rw [← key]; exact Γ.le_meet hKe hKc ht (Γ.meet_l hKe C.S_r) (Γ.trans ht C.S_r hKc (Γ.meet_r hKe C.S_r) C.r_K)
end Lat
end Go.Gar
namespace Go.Gar.Lat
variable {G : Type} [Grp G] (Γ : Lat G)
def AllS (l : List G) : Prop := ∀ x ∈ l, Γ.S x
def Wd : List G → Prop
 | [] => True
 | a :: l => (∀ b, l.head? = some b → Γ.meet (Γ.K a) b = 1) ∧ Wd l
def L : G → List G → List G
 | t, [] => [t]
 | t, a :: A => (t * Γ.meet (Γ.K t) a) :: L ((Γ.meet (Γ.K t) a)⁻¹ * a) A
def nf (l : List G) : List G := l.foldr Γ.L []
variable {Γ}
theorem AllS.tail {a : G} {l : List G} (h : Γ.AllS (a :: l)) : Γ.AllS l := fun x hx => h x (List.mem_cons_of_mem _ hx)
theorem AllS.head {a : G} {l : List G} (h : Γ.AllS (a :: l)) : Γ.S a := h a List.mem_cons_self
theorem AllS.cons {a : G} {l : List G} (h : Γ.S a) (hl : Γ.AllS l) : Γ.AllS (a :: l) := fun x hx => by
 rcases List.mem_cons.1 hx with rfl | hx
 · exact h
 · exact hl x hx
theorem AllS.nil : Γ.AllS [] := fun x hx => by simp at hx
theorem AllS.app {l m : List G} (h : Γ.AllS l) (hm : Γ.AllS m) : Γ.AllS (l ++ m) := fun x hx => (List.mem_append.1 hx).elim (h x) (hm x)
theorem L_S : ∀ {A : List G} {t : G}, Γ.S t → Γ.AllS A → Γ.AllS (Γ.L t A)
 | [], t, ht, _ => AllS.cons ht AllS.nil
 | a :: A, t, ht, hA => by
  have C := cut ht hA.head; exact AllS.cons C.S_tc (L_S C.S_r hA.tail)
theorem zVN : ∀ {A : List G} {t : G}, (Γ.L t A).length = A.length + 1
 | [], t => rfl
 | a :: A, t => by simp only [L, List.length_cons, zVN]
theorem L_Wd : ∀ {A : List G} {t : G}, Γ.S t → Γ.AllS A → Γ.Wd A → Γ.Wd (Γ.L t A)
 | [], t, ht, _, _ => ⟨fun b h => by simp at h, trivial⟩
 | [a], t, ht, hA, _ => by
  have C := cut ht hA.head; refine ⟨fun b h => ?_, ⟨fun b h => by simp at h, trivial⟩⟩; simp only [L, List.head?_cons, Option.some.injEq] at h; subst h; exact C.one
 | a :: b :: B, t, ht, hA, hW => by
  have C := cut ht hA.head; refine ⟨fun z h => ?_, L_Wd C.S_r hA.tail hW.2⟩; simp only [L, List.head?_cons, Option.some.injEq] at h; subst h; exact dom1 ht hA.head hA.tail.head (hW.1 b rfl)
theorem nf_S : ∀ {l : List G}, Γ.AllS l → Γ.AllS (Γ.nf l)
 | [], _ => AllS.nil
 | a :: l, h => L_S h.head (nf_S h.tail)
theorem nf_len : ∀ {l : List G}, (Γ.nf l).length = l.length
 | [] => rfl
 | a :: l => by
  show (Γ.L a (Γ.nf l)).length = _; rw [zVN, nf_len, List.length_cons]
theorem nf_Wd : ∀ {l : List G}, Γ.AllS l → Γ.Wd (Γ.nf l)
 | [], _ => trivial
 | a :: l, h => L_Wd h.head (nf_S h.tail) (nf_Wd h.tail)
theorem zTE : ∀ {A : List G} {a : G}, Γ.Wd (a :: A) → Γ.L a A = a :: A
 | [], a, _ => rfl
 | b :: B, a, h => by
  have h1 := h.1 b rfl; simp only [L, h1, Grp.mul_one, jJ, Grp.one_mul]; rw [zTE h.2]
theorem nf_fix : ∀ {l : List G}, Γ.Wd l → Γ.nf l = l
 | [], _ => rfl
 | a :: l, h => by
  show Γ.L a (Γ.nf l) = _; rw [nf_fix h.2, zTE h]
theorem zSF : ∀ {A : List G} {t : G}, Γ.S t → Γ.AllS A → Γ.L t (A ++ [1]) = Γ.L t A ++ [1]
 | [], t, ht, _ => by
  simp only [List.nil_append, L, meet_one_r (SK ht), Grp.mul_one, jJ, List.cons_append]
 | a :: A, t, ht, hA => by
  have C := cut ht hA.head; simp only [List.cons_append, L]; rw [zSF C.S_r hA.tail]
theorem L_one : ∀ {A : List G}, Γ.AllS A → Γ.L 1 A = A ++ [1]
 | [], _ => rfl
 | a :: A, h => by
  have e : Γ.K 1 = Γ.D := by unfold K; rw [jJ, Grp.one_mul]
  simp only [L, e, zPC h.head, Grp.one_mul, Grp.inv_mul]; rw [L_one h.tail]
  rfl
theorem L_mul : ∀ {A : List G} {u v : G}, Γ.S u → Γ.S v → Γ.le v (Γ.K u) → Γ.AllS A → Γ.L u (Γ.L v A) = Γ.L (u * v) A ++ [1]
 | [], u, v, hu, hv, h, _ => by
  have e : Γ.meet (Γ.K u) v = v := Γ.anti (Γ.S_meet (SK hu) hv) hv (Γ.meet_r (SK hu) hv) (Γ.le_meet (SK hu) hv hv h (Γ.refl hv)); simp only [L, e, Grp.inv_mul, List.cons_append, List.nil_append]
 | a :: A, u, v, hu, hv, h, hA => by
  have ha := hA.head; obtain ⟨s1, s2⟩ := P1 hu hv h; have C := cut hv ha; have Cf := cut s1 ha; have hKuv : Γ.le (Γ.K (u * v)) (Γ.K v) := by
   rw [zUl]; exact (P0 hv (SK hu) h).2
  have eK : v * Γ.K (u * v) = Γ.K u := by rw [zUl, zb]
  have ed : Γ.meet (Γ.K u) (v * Γ.meet (Γ.K v) a) = v * Γ.meet (Γ.K (u * v)) (Γ.meet (Γ.K v) a) := by
   rw [← zPB hv (SK s1) C.S_c hKuv C.c_K, eK]
  have ee : Γ.meet (Γ.K (u * v)) (Γ.meet (Γ.K v) a) = Γ.meet (Γ.K (u * v)) a := by
   have hm := Γ.S_meet (SK s1) C.S_c
   apply Γ.anti hm Cf.S_c
   · exact Γ.le_meet (SK s1) ha hm (Γ.meet_l (SK s1) C.S_c) (Γ.trans hm C.S_c ha (Γ.meet_r (SK s1) C.S_c) C.c_a)
   · exact Γ.le_meet (SK s1) C.S_c Cf.S_c Cf.c_K (Γ.le_meet (SK hv) ha Cf.S_c (Γ.trans Cf.S_c (SK s1) (SK hv) Cf.c_K hKuv) Cf.c_a)
  have hfc : Γ.le (Γ.meet (Γ.K (u * v)) a) (Γ.meet (Γ.K v) a) := Γ.le_meet (SK hv) ha Cf.S_c (Γ.trans Cf.S_c (SK s1) (SK hv) Cf.c_K hKuv) Cf.c_a; simp only [L]; rw [ed, ee]; generalize Γ.meet (Γ.K (u * v)) a = f at *; generalize Γ.meet (Γ.K v) a = c at *; have e1 : (v * f)⁻¹ * (v * c) = f⁻¹ * c := by rw [zL, Grp.assoc, kF]
  obtain ⟨q1, q2⟩ := P0 Cf.S_c C.S_c hfc; have hr : Γ.le (c⁻¹ * a) (Γ.K (f⁻¹ * c)) := by
   have e2 : (f⁻¹ * c) * (c⁻¹ * a) = f⁻¹ * a := by rw [Grp.assoc, zb]
   have hg : Γ.le (f⁻¹ * c) (f⁻¹ * a) := by
    rw [← P2 Cf.S_c q1 Cf.S_r q2 Cf.r_K, zb, zb]; exact C.c_a
   have := (P0 q1 Cf.S_r hg).2; rw [← e2, kF] at this; exact this
  rw [e1, L_mul q1 C.S_r hr hA.tail, Grp.assoc, zb, Grp.assoc]
  rfl
theorem move {x y c : G} {A : List G} (hx : Γ.S x) (hy : Γ.S y) (hc : Γ.S c) (h1 : Γ.le c (Γ.K x)) (h2 : Γ.le c y) (hA : Γ.AllS A) : Γ.L x (Γ.L y A) = Γ.L (x * c) (Γ.L (c⁻¹ * y) A) := by
 obtain ⟨q1, q2⟩ := P0 hc hy h2; have e1 := L_mul hc q1 q2 hA; rw [zb] at e1; have e2 := L_mul hx hc h1 (L_S q1 hA); rw [e1, zSF hx (L_S hy hA)] at e2; exact (List.append_cancel_right e2)
theorem zN5 : ∀ {X Z : List G}, Γ.AllS X → Γ.AllS Z → Γ.AllS (X.foldr Γ.L Z)
 | [], Z, _, hZ => hZ
 | x :: X, Z, hX, hZ => L_S hX.head (zN5 hX.tail hZ)
theorem zRe : ∀ {A : List G} {t : G} {Z : List G}, Γ.S t → Γ.AllS A → Γ.AllS Z → (Γ.L t A).foldr Γ.L Z = Γ.L t (A.foldr Γ.L Z)
 | [], t, Z, _, _, _ => rfl
 | a :: A, t, Z, ht, hA, hZ => by
  have C := cut ht hA.head; simp only [L, List.foldr_cons]; rw [zRe C.S_r hA.tail hZ]; exact (move ht hA.head C.S_c C.c_K C.c_a (zN5 hA.tail hZ)).symm
theorem zPP : ∀ {X Z : List G}, Γ.AllS X → Γ.AllS Z → (Γ.nf X).foldr Γ.L Z = X.foldr Γ.L Z
 | [], Z, _, _ => rfl
 | x :: X, Z, hX, hZ => by
  show (Γ.L x (Γ.nf X)).foldr Γ.L Z = _; rw [zRe hX.head (nf_S hX.tail) hZ, zPP hX.tail hZ]
  rfl
theorem nf_append {X Y : List G} : Γ.nf (X ++ Y) = X.foldr Γ.L (Γ.nf Y) := List.foldr_append ..
theorem nf_app_l {X Y : List G} (hX : Γ.AllS X) (hY : Γ.AllS Y) : Γ.nf (Γ.nf X ++ Y) = Γ.nf (X ++ Y) := by
 rw [nf_append, nf_append, zPP hX (nf_S hY)]
theorem nf_app_r {X Y : List G} (hY : Γ.AllS Y) : Γ.nf (X ++ Γ.nf Y) = Γ.nf (X ++ Y) := by
 rw [nf_append, nf_append, nf_fix (nf_Wd hY)]
theorem nf_move {p q : List G} {x y c : G} (hx : Γ.S x) (hy : Γ.S y) (hc : Γ.S c) (h1 : Γ.le c (Γ.K x)) (h2 : Γ.le c y) (hq : Γ.AllS q) :
  Γ.nf (p ++ x :: y :: q) = Γ.nf (p ++ (x * c) :: (c⁻¹ * y) :: q) := by
 rw [nf_append, nf_append]; congr 1; exact move hx hy hc h1 h2 (nf_S hq)
variable (Γ)
def step1 (a : G) : List G → List G
 | [] => [a]
 | b :: l => (a * Γ.meet (Γ.K a) b) :: ((Γ.meet (Γ.K a) b)⁻¹ * b) :: l
def pass : List G → List G
 | [] => []
 | a :: l => Γ.step1 a (pass l)
variable {Γ}
theorem zTt {a : G} {l : List G} (ha : Γ.S a) (hl : Γ.AllS l) : Γ.AllS (Γ.step1 a l) := by
 cases l with
 | nil => exact AllS.cons ha AllS.nil
 | cons b l =>
  have C := cut ha hl.head; exact AllS.cons C.S_tc (AllS.cons C.S_r hl.tail)
theorem zMO : ∀ {l : List G}, Γ.AllS l → Γ.AllS (Γ.pass l)
 | [], _ => AllS.nil
 | a :: l, h => zTt h.head (zMO h.tail)
theorem pass_len : ∀ {l : List G}, (Γ.pass l).length = l.length
 | [] => rfl
 | a :: l => by
  have := pass_len (l := l); simp only [pass]
  cases h : Γ.pass l with
  | nil => rw [h] at this; simp at this; simp [step1, ← this]
  | cons b m => rw [h] at this; simp [step1, ← this]
theorem zSg {a : G} {l : List G} (ha : Γ.S a) (hl : Γ.AllS l) : Γ.nf (Γ.step1 a l) = Γ.nf (a :: l) := by
 cases l with
 | nil => rfl
 | cons b l =>
  have C := cut ha hl.head; exact (nf_move (p := []) ha hl.head C.S_c C.c_K C.c_a hl.tail).symm
theorem nf_cons {a : G} {l : List G} : Γ.nf (a :: l) = Γ.L a (Γ.nf l) := rfl
theorem nf_pass : ∀ {l : List G}, Γ.AllS l → Γ.nf (Γ.pass l) = Γ.nf l
 | [], _ => rfl
 | a :: l, h => by
  rw [pass, zSg h.head (zMO h.tail), nf_cons, nf_pass h.tail, nf_cons]
theorem zIj : ∀ {l : List G}, Γ.AllS l → (Γ.pass l).head? = (Γ.nf l).head?
 | [], _ => rfl
 | a :: l, h => by
  have ih := zIj h.tail; rw [pass, nf_cons]
  cases h1 : Γ.pass l with
  | nil =>
   rw [h1] at ih
   cases h2 : Γ.nf l with
   | nil => rfl
   | cons b m => rw [h2] at ih; simp at ih
  | cons b m =>
   rw [h1] at ih
   cases h2 : Γ.nf l with
   | nil => rw [h2] at ih; simp at ih
   | cons b' m' =>
    rw [h2] at ih; simp only [List.head?_cons, Option.some.injEq] at ih; subst ih
    rfl
def Fst (h : G) (r : List G) : Prop := Γ.S h ∧ Γ.AllS r ∧ ∀ b, (Γ.nf r).head? = some b → Γ.meet (Γ.K h) b = 1
theorem Fst.nf {h : G} {r : List G} (H : Γ.Fst h r) : Γ.nf (h :: r) = h :: Γ.nf r := by
 rw [nf_cons]; exact zTE ⟨H.2.2, nf_Wd H.2.1⟩
theorem Fst.pass {h : G} {r : List G} (H : Γ.Fst h r) : Γ.pass (h :: r) = h :: Γ.pass r ∧ Γ.Fst h (Γ.pass r) := by
 refine ⟨?_, H.1, zMO H.2.1, by rw [nf_pass H.2.1]; exact H.2.2⟩; have e := zIj H.2.1; rw [Lat.pass]
 cases h1 : Γ.pass r with
 | nil => rfl
 | cons b m =>
  rw [h1] at e; have := H.2.2 b (by rw [← e]; rfl); simp only [step1, this, Grp.mul_one, jJ, Grp.one_mul]
theorem zSc {a : G} {l : List G} (h : Γ.AllS (a :: l)) : ∃ x r, Γ.pass (a :: l) = x :: r ∧ r.length = l.length ∧ Γ.Fst x r := by
 have hS := zMO h; have hl := pass_len (Γ := Γ) (l := a :: l); have hn := nf_pass h; have hh := zIj h
 cases h1 : Γ.pass (a :: l) with
 | nil => rw [h1] at hl; simp at hl
 | cons x r =>
  rw [h1] at hS hl hn hh; refine ⟨x, r, rfl, by simpa using hl, hS.head, hS.tail, fun b hb => ?_⟩; rw [← hn, nf_cons] at hh
  cases h2 : Γ.nf r with
  | nil => rw [h2] at hb; simp at hb
  | cons b' m =>
   rw [h2] at hb hh; simp only [List.head?_cons, Option.some.injEq] at hb; subst hb; simp only [L, List.head?_cons, Option.some.injEq] at hh; apply zGp (a := x); rw [Grp.mul_one, ← hh]
variable (Γ)
def iter : Nat → List G → List G
 | 0, l => l
 | n + 1, l => Γ.pass (iter n l)
variable {Γ}
theorem iter_succ (n : Nat) (l : List G) : Γ.iter (n + 1) l = Γ.pass (Γ.iter n l) := rfl
theorem iter_pass (n : Nat) (l : List G) : Γ.iter n (Γ.pass l) = Γ.iter (n + 1) l := by
 induction n with
 | zero => rfl
 | succ n ih => rw [iter_succ, ih, iter_succ (n + 1)]
theorem zPH {h : G} : ∀ (n : Nat) {r : List G}, Γ.Fst h r → Γ.iter n (h :: r) = h :: Γ.iter n r
 | 0, r, _ => rfl
 | n + 1, r, H => by
  rw [← iter_pass, H.pass.1, zPH n H.pass.2, iter_pass]
theorem iter_nf : ∀ (n : Nat) {l : List G}, l.length ≤ n → Γ.AllS l → Γ.iter n l = Γ.nf l
 | 0, l, h, _ => by
  have : l = [] := List.length_eq_zero_iff.1 (by omega); subst this
  rfl
 | n + 1, [], _, _ => by
  rw [iter_succ, iter_nf n (by simp) AllS.nil]
  rfl
 | n + 1, a :: l, h, hS => by
  obtain ⟨x, r, h1, h2, H⟩ := zSc hS; rw [← iter_pass, h1, zPH n H, iter_nf n (by simp only [List.length_cons] at h; omega) H.2.1, ← H.nf, ← h1, nf_pass hS]
theorem pass_fix {l : List G} (h : Γ.Wd l) : Γ.pass l = l := by
 induction l with
 | nil => rfl
 | cons a l ih =>
  rw [pass, ih h.2]
  cases l with
  | nil => rfl
  | cons b m => simp only [step1, h.1 b rfl, Grp.mul_one, jJ, Grp.one_mul]
theorem pass_put : ∀ {A : List G} {s : G}, Γ.AllS A → Γ.S s → Γ.Wd A → Γ.Wd (Γ.pass (A ++ [s]))
 | [], s, _, _, _ => ⟨fun b h => by simp at h, trivial⟩
 | [a], s, hA, hs, _ => by
  have C := cut hA.head hs; refine ⟨fun b h => ?_, ⟨fun b h => by simp at h, trivial⟩⟩; simp only [List.head?_cons, Option.some.injEq] at h; subst h; exact C.one
 | a1 :: a2 :: A, s, hA, hs, hW => by
  have ih := pass_put hA.tail hs hW.2; have hS := zMO (hA.tail.tail.app (AllS.cons hs AllS.nil)); have hl := pass_len (Γ := Γ) (l := A ++ [s]); have e : Γ.pass (a2 :: A ++ [s]) = Γ.step1 a2 (Γ.pass (A ++ [s])) := rfl; rw [show a1 :: a2 :: A ++ [s] = a1 :: (a2 :: A ++ [s]) from rfl, pass, e]; rw [e] at ih
  cases h1 : Γ.pass (A ++ [s]) with
  | nil => rw [h1] at hl; simp at hl
  | cons b m =>
   rw [h1] at ih hS; have C := cut hA.tail.head hS.head; have C1 := cut hA.head C.S_tc
   refine ⟨fun z h => ?_, fun z h => ?_, ih.2⟩
   · simp only [List.head?_cons, Option.some.injEq] at h; subst h; exact C1.one
   · simp only [List.head?_cons, Option.some.injEq] at h; subst h; exact dom2 hA.head hA.tail.head hS.head (hW.1 a2 rfl)
theorem pass_nf {A : List G} {s : G} (hA : Γ.AllS A) (hs : Γ.S s) (hW : Γ.Wd A) : Γ.pass (A ++ [s]) = Γ.nf (A ++ [s]) := by
 rw [← nf_pass (hA.app (AllS.cons hs AllS.nil)), nf_fix (pass_put hA hs hW)]
end Go.Gar.Lat
namespace Go.Gar.Lat
variable {G : Type} [Grp G] [DecidableEq G] (Γ : Lat G)
def fr : List G → Nat × List G
 | [] => (0, [])
 | a :: l => if a = Γ.D then ((fr l).1 + 1, (fr l).2) else (0, a :: l)
def bk : List G → List G
 | [] => []
 | a :: l => match bk l with
  | [] => if a = 1 then [] else [a]
  | b :: m => a :: b :: m
def norm (l : List G) : Nat × List G := ((Γ.fr (Γ.nf l)).1, bk (Γ.fr (Γ.nf l)).2)
structure Proper (A : List G) : Prop where
 S : Γ.AllS A
 W : Γ.Wd A
 no : ∀ x ∈ A, x ≠ Γ.D ∧ x ≠ 1
abbrev Ds (i : Nat) : List G := List.replicate i Γ.D
abbrev ones (j : Nat) : List G := List.replicate j 1
variable {Γ}
omit [DecidableEq G] in
theorem Proper.nil : Γ.Proper [] := ⟨AllS.nil, trivial, fun x h => by simp at h⟩
omit [DecidableEq G] in
theorem Ds_S (i : Nat) : Γ.AllS (Γ.Ds i) := fun x h => by rw [List.eq_of_mem_replicate h]; exact Γ.S_D
omit [DecidableEq G] in
theorem zTR (j : Nat) : Γ.AllS (ones j) := fun x h => by rw [List.eq_of_mem_replicate h]; exact Γ.S_one
omit [DecidableEq G] in
theorem K_D : Γ.K Γ.D = 1 := Grp.inv_mul _
omit [DecidableEq G] in
theorem zV5 : Γ.K 1 = Γ.D := by unfold K; rw [jJ, Grp.one_mul]
omit [DecidableEq G] in
theorem zQD {x : G} (hx : Γ.S x) : Γ.meet 1 x = 1 := le_one (Γ.S_meet Γ.S_one hx) (Γ.meet_l Γ.S_one hx)
omit [DecidableEq G] in
theorem meet_D_r {x : G} (hx : Γ.S x) : Γ.meet x Γ.D = x :=
 Γ.anti (Γ.S_meet hx Γ.S_D) hx (Γ.meet_l hx Γ.S_D) (Γ.le_meet hx Γ.S_D hx (Γ.refl hx) (Γ.le_D hx))
omit [DecidableEq G] in
theorem Wd_D {l : List G} (h : Γ.Wd l) (hS : Γ.AllS l) : Γ.Wd (Γ.D :: l) :=
 ⟨fun b hb => by rw [K_D]; exact zQD (hS b (List.mem_of_mem_head? hb)), h⟩
omit [DecidableEq G] in
theorem nf_Ds (i : Nat) {Y : List G} (hY : Γ.AllS Y) : Γ.nf (Γ.Ds i ++ Y) = Γ.Ds i ++ Γ.nf Y := by
 induction i with
 | zero => rfl
 | succ i ih =>
  simp only [Ds, List.replicate_succ, List.cons_append] at ih ⊢; rw [nf_cons, ih]; apply zTE; have hS : Γ.AllS (List.replicate i Γ.D ++ Γ.nf Y) := (Ds_S i).app (nf_S hY); exact Wd_D (by rw [← ih]; exact nf_Wd ((Ds_S i).app hY)) hS
omit [DecidableEq G] in
theorem zKH : ∀ {X Z : List G}, Γ.AllS X → Γ.AllS Z → X.foldr Γ.L (Z ++ [1]) = X.foldr Γ.L Z ++ [1]
 | [], Z, _, _ => rfl
 | x :: X, Z, hX, hZ => by
  simp only [List.foldr_cons]; rw [zKH hX.tail hZ, zSF hX.head (zN5 hX.tail hZ)]
omit [DecidableEq G] in
theorem zKI : ∀ (j : Nat) {X Z : List G}, Γ.AllS X → Γ.AllS Z → X.foldr Γ.L (Z ++ ones j) = X.foldr Γ.L Z ++ ones j
 | 0, X, Z, _, _ => by simp [ones]
 | j + 1, X, Z, hX, hZ => by
  have e : (ones (j + 1) : List G) = [1] ++ ones j := by simp [ones, List.replicate_succ]
  rw [e, ← List.append_assoc, zKI j hX (hZ.app (AllS.cons Γ.S_one AllS.nil)), zKH hX hZ, List.append_assoc]
omit [DecidableEq G] in
theorem zTf : ∀ (j : Nat) {A : List G}, Γ.AllS A → (ones j).foldr Γ.L A = A ++ ones j
 | 0, A, _ => by simp [ones]
 | j + 1, A, hA => by
  have h : (ones j).foldr Γ.L A = A ++ ones j := zTf j hA; simp only [ones, List.replicate_succ, List.foldr_cons] at h ⊢; rw [h, L_one (hA.app (zTR j)), List.append_assoc, ← List.replicate_succ', List.replicate_succ]
omit [DecidableEq G] in
theorem nf_ones {X Y : List G} (j : Nat) (hX : Γ.AllS X) (hY : Γ.AllS Y) : Γ.nf (X ++ ones j ++ Y) = Γ.nf (X ++ Y) ++ ones j := by
 rw [nf_append, List.foldr_append, zTf j (nf_S hY), zKI j hX (nf_S hY), nf_append]
omit [DecidableEq G] in
theorem zPi (hD : Γ.D ≠ 1) : ∀ {l : List G}, Γ.AllS l → Γ.Wd l → ∃ i A j, l = Γ.Ds i ++ A ++ ones j ∧ Γ.Proper A
 | [], _, _ => ⟨0, [], 0, rfl, Proper.nil⟩
 | a :: l, hS, hW => by
  obtain ⟨i, A, j, e, hP⟩ := zPi hD hS.tail hW.2
  by_cases h1 : a = Γ.D
  · subst h1; exact ⟨i + 1, A, j, by rw [e]; simp [Ds, List.replicate_succ], hP⟩
  · have hi : i = 0 := by
     cases i with
     | zero => rfl
     | succ i =>
      exfalso; have := hW.1 Γ.D (by rw [e]; simp [Ds, List.replicate_succ]); rw [meet_D_r (SK hS.head)] at this; exact h1 (zV6 (by rw [this, K_D]))
    subst hi; simp only [Ds, List.replicate_zero, List.nil_append] at e
    by_cases h2 : a = 1
    · subst h2; have hA : A = [] := by
       cases A with
       | nil => rfl
       | cons b A =>
        exfalso; have := hW.1 b (by rw [e]; simp); rw [zV5, zPC (hP.S b List.mem_cons_self)] at this; exact (hP.no b List.mem_cons_self).2 this
      subst hA; exact ⟨0, [], j + 1, by rw [e]; simp [Ds, ones, List.replicate_succ], Proper.nil⟩
    · refine ⟨0, a :: A, j, by rw [e]; simp [Ds], AllS.cons hS.head hP.S, ⟨fun b hb => hW.1 b ?_, hP.W⟩, fun x hx => ?_⟩
      · rw [e, List.head?_append, hb]
        rfl
      · rcases List.mem_cons.1 hx with rfl | hx
        · exact ⟨h1, h2⟩
        · exact hP.no x hx
theorem zUk (j : Nat) : bk (ones j : List G) = [] := by
 induction j with
 | zero => rfl
 | succ j ih =>
  simp only [ones, List.replicate_succ] at ih ⊢; unfold bk; rw [ih]; simp
theorem zTe : ∀ {A : List G} (j : Nat), (∀ x ∈ A, x ≠ 1) → bk (A ++ ones j) = A
 | [], j, _ => zUk j
 | a :: A, j, h => by
  have ih := zTe (A := A) j (fun x hx => h x (List.mem_cons_of_mem _ hx)); show bk (a :: (A ++ ones j)) = _; unfold bk; rw [ih]
  cases A with
  | nil => simp [h a List.mem_cons_self]
  | cons b A => rfl
theorem zTV : ∀ (i : Nat) {r : List G}, (∀ b, r.head? = some b → b ≠ Γ.D) → Γ.fr (Γ.Ds i ++ r) = (i, r)
 | 0, [], _ => rfl
 | 0, b :: r, h => by simp [Ds, fr, h b rfl]
 | i + 1, r, h => by
  have := zTV i h; simp only [Ds, List.replicate_succ, List.cons_append] at this ⊢; simp [fr, this]
theorem ends (hD : Γ.D ≠ 1) {i j : Nat} {A : List G} (hP : Γ.Proper A) : ((Γ.fr (Γ.Ds i ++ A ++ ones j)).1, bk (Γ.fr (Γ.Ds i ++ A ++ ones j)).2) = (i, A) := by
 rw [List.append_assoc, zTV i (r := A ++ ones j) ?_, zTe j (fun x hx => (hP.no x hx).2)]; intro b hb
 cases A with
 | nil =>
  cases j with
  | zero => simp [ones] at hb
  | succ j =>
   simp only [List.nil_append, ones, List.replicate_succ, List.head?_cons, Option.some.injEq] at hb; subst hb; exact fun h => hD h.symm
 | cons a A =>
  simp only [List.cons_append, List.head?_cons, Option.some.injEq] at hb; subst hb; exact (hP.no _ List.mem_cons_self).1
theorem norm_of (hD : Γ.D ≠ 1) {l A : List G} {i j : Nat} (h : Γ.nf l = Γ.Ds i ++ A ++ ones j) (hP : Γ.Proper A) : Γ.norm l = (i, A) := by
 unfold norm; rw [h]; exact ends hD hP
theorem norm_spec (hD : Γ.D ≠ 1) {l : List G} (h : Γ.AllS l) : ∃ j, Γ.nf l = Γ.Ds (Γ.norm l).1 ++ (Γ.norm l).2 ++ ones j ∧ Γ.Proper (Γ.norm l).2 ∧ (Γ.norm l).1 + (Γ.norm l).2.length + j = l.length := by
 obtain ⟨i, A, j, e, hP⟩ := zPi hD (nf_S h) (nf_Wd h); have e2 := norm_of hD e hP; refine ⟨j, by rw [e2, e], by rw [e2]; exact hP, ?_⟩; have := nf_len (Γ := Γ) (l := l); rw [e] at this; rw [e2, ← this]; simp only [List.length_append, List.length_replicate]
theorem norm_proper (hD : Γ.D ≠ 1) {A : List G} (hP : Γ.Proper A) : Γ.norm A = (0, A) :=
 norm_of hD (i := 0) (j := 0) (by rw [nf_fix hP.W]; simp [Ds, ones]) hP
theorem norm_app (hD : Γ.D ≠ 1) {X Y : List G} (hX : Γ.AllS X) (hY : Γ.AllS Y) : Γ.norm (X ++ Y) = ((Γ.norm X).1 + (Γ.norm ((Γ.norm X).2 ++ Y)).1, (Γ.norm ((Γ.norm X).2 ++ Y)).2) := by
 obtain ⟨j, e, hP, _⟩ := norm_spec hD hX; obtain ⟨k, e2, hP2, _⟩ := norm_spec hD (hP.S.app hY); apply norm_of hD (j := k + j) ?_ hP2; rw [← nf_app_l hX hY, e, List.append_assoc, List.append_assoc, nf_Ds _ (hP.S.app ((zTR j).app hY)), ← List.append_assoc (Γ.norm X).2, nf_ones j hP.S hY, e2]; have e3 : (Γ.Ds ((Γ.norm X).1 + (Γ.norm ((Γ.norm X).2 ++ Y)).1)) = Γ.Ds (Γ.norm X).1 ++ Γ.Ds (Γ.norm ((Γ.norm X).2 ++ Y)).1 := by simp [Ds, List.replicate_append_replicate]
 have e4 : (ones (k + j) : List G) = ones k ++ ones j := by simp [ones, List.replicate_append_replicate]
 rw [e3, e4]; simp only [List.append_assoc]
structure Auto (T : G → G) : Prop where
 mul : ∀ x y, T (x * y) = T x * T y
 inv : ∀ x, T x⁻¹ = (T x)⁻¹
 S : ∀ x, Γ.S x → Γ.S (T x)
 meet : ∀ x y, Γ.S x → Γ.S y → T (Γ.meet x y) = Γ.meet (T x) (T y)
 D : T Γ.D = Γ.D
 inj : ∀ x y, T x = T y → x = y
omit [DecidableEq G] in
theorem Auto.one {T : G → G} (H : Γ.Auto T) : T 1 = 1 := by
 apply zGp (a := T 1); rw [← H.mul, Grp.one_mul, Grp.mul_one]
omit [DecidableEq G] in
theorem Auto.L {T : G → G} (H : Γ.Auto T) : ∀ {A : List G} {t : G}, Γ.S t → Γ.AllS A → (Γ.L t A).map T = Γ.L (T t) (A.map T)
 | [], t, _, _ => rfl
 | a :: A, t, ht, hA => by
  have C := cut ht hA.head; have e : T (Γ.meet (Γ.K t) a) = Γ.meet (Γ.K (T t)) (T a) := by
   rw [H.meet _ _ (SK ht) hA.head]; unfold K; rw [H.mul, H.inv, H.D]
  simp only [Lat.L, List.map_cons]; rw [H.L C.S_r hA.tail, H.mul, H.mul, H.inv, e]
omit [DecidableEq G] in
theorem Auto.AllS {T : G → G} (H : Γ.Auto T) {l : List G} (h : Γ.AllS l) : Γ.AllS (l.map T) := by
 intro x hx; obtain ⟨y, hy, rfl⟩ := List.mem_map.1 hx; exact H.S y (h y hy)
omit [DecidableEq G] in
theorem Auto.nf {T : G → G} (H : Γ.Auto T) : ∀ {l : List G}, Γ.AllS l → (Γ.nf l).map T = Γ.nf (l.map T)
 | [], _ => rfl
 | a :: l, h => by
  rw [nf_cons, H.L h.head (nf_S h.tail), H.nf h.tail]
  rfl
omit [DecidableEq G] in
theorem Auto.Wd {T : G → G} (H : Γ.Auto T) : ∀ {l : List G}, Γ.AllS l → Γ.Wd l → Γ.Wd (l.map T)
 | [], _, _ => trivial
 | a :: l, hS, h => by
  refine ⟨fun b hb => ?_, H.Wd hS.tail h.2⟩
  cases l with
  | nil => simp at hb
  | cons c m =>
   simp only [List.map_cons, List.head?_cons, Option.some.injEq] at hb; subst hb; have := congrArg T (h.1 c rfl); rw [H.meet _ _ (SK hS.head) hS.tail.head, H.one] at this; unfold K at this; rw [H.mul, H.inv, H.D] at this; exact this
omit [DecidableEq G] in
theorem Auto.Proper {T : G → G} (H : Γ.Auto T) {A : List G} (hP : Γ.Proper A) : Γ.Proper (A.map T) := by
 refine ⟨H.AllS hP.S, H.Wd hP.S hP.W, fun x hx => ?_⟩; obtain ⟨y, hy, rfl⟩ := List.mem_map.1 hx; exact ⟨fun h => (hP.no y hy).1 (H.inj _ _ (by rw [h, H.D])), fun h => (hP.no y hy).2 (H.inj _ _ (by rw [h, H.one]))⟩
theorem Auto.norm {T : G → G} (H : Γ.Auto T) (hD : Γ.D ≠ 1) {l : List G} (h : Γ.AllS l) : Γ.norm (l.map T) = ((Γ.norm l).1, (Γ.norm l).2.map T) := by
 obtain ⟨j, e, hP, _⟩ := norm_spec hD h; apply norm_of hD (j := j) ?_ (H.Proper hP); rw [← H.nf h, e]; simp [H.D, H.one]
end Go.Gar.Lat
namespace Go.Gar
structure Pm (n : Nat) where
 f : Nat → Nat
 g : Nat → Nat
 gf : ∀ x, g (f x) = x
 fg : ∀ x, f (g x) = x
 out : ∀ x, n ≤ x → f x = x
namespace Pm
variable {n : Nat}
theorem ext {a b : Pm n} (h : ∀ x, a.f x = b.f x) : a = b := by
 have hf : a.f = b.f := funext h; have hg : a.g = b.g := funext fun x => by
  have := b.gf (a.g x); rw [← hf, a.fg] at this; exact this.symm
 cases a
 cases b
 simp only at hf hg; subst hf; subst hg
 rfl
theorem inj (a : Pm n) {x y : Nat} (h : a.f x = a.f y) : x = y := by rw [← a.gf x, h, a.gf]
theorem inj_g (a : Pm n) {x y : Nat} (h : a.g x = a.g y) : x = y := by rw [← a.fg x, h, a.fg]
theorem out_g (a : Pm n) (x : Nat) (h : n ≤ x) : a.g x = x := by
 have := a.gf x; rw [a.out x h] at this; exact this
theorem lt (a : Pm n) {x : Nat} (h : x < n) : a.f x < n := by
 apply Nat.lt_of_not_le; intro h1; have := a.inj (a.out _ h1); omega
theorem lt_g (a : Pm n) {x : Nat} (h : x < n) : a.g x < n := by
 apply Nat.lt_of_not_le; intro h1; have := a.inj_g (a.out_g _ h1); omega
instance : Grp (Pm n) where
 mul a b := ⟨fun x => b.f (a.f x), fun x => a.g (b.g x), fun x => by simp only [b.gf, a.gf], fun x => by simp only [a.fg, b.fg], fun x h => by simp only [a.out x h, b.out x h]⟩
 one := ⟨fun x => x, fun x => x, fun _ => rfl, fun _ => rfl, fun _ _ => rfl⟩
 inv a := ⟨a.g, a.f, a.fg, a.gf, a.out_g⟩
 assoc _ _ _ := rfl
 one_mul _ := rfl
 mul_one _ := rfl
 inv_mul a := ext fun x => a.fg x
 mul_inv a := ext fun x => a.gf x
@[simp] theorem mul_f (a b : Pm n) (x : Nat) : (a * b).f x = b.f (a.f x) := rfl
@[simp] theorem mul_g (a b : Pm n) (x : Nat) : (a * b).g x = a.g (b.g x) := rfl
@[simp] theorem one_f (x : Nat) : (1 : Pm n).f x = x := rfl
@[simp] theorem one_g (x : Nat) : (1 : Pm n).g x = x := rfl
@[simp] theorem inv_f (a : Pm n) (x : Nat) : (a⁻¹).f x = a.g x := rfl
@[simp] theorem inv_g (a : Pm n) (x : Nat) : (a⁻¹).g x = a.f x := rfl
def hf (n x : Nat) : Nat := if x < n then n - 1 - x else x
theorem hf_hf (n x : Nat) : hf n (hf n x) = x := by
 unfold hf
 split
 · split <;> omega
 · rfl
def half (n : Nat) : Pm n := ⟨hf n, hf n, hf_hf n, hf_hf n, fun x h => by unfold hf; split <;> omega⟩
@[simp] theorem half_f (x : Nat) : (half n).f x = hf n x := rfl
theorem half_half : half n * half n = 1 := ext fun x => hf_hf n x
theorem half_inv : (half n)⁻¹ = half n := ext fun x => rfl
def sf (p x : Nat) : Nat := if x = p then p + 1 else if x = p + 1 then p else x
theorem zUw (p x : Nat) : sf p (sf p x) = x := by
 unfold sf
 split
 · simp; omega
 · split
   · simp; omega
   · rfl
def swap (n p : Nat) (h : p + 1 < n) : Pm n := ⟨sf p, sf p, zUw p, zUw p, fun x hx => by unfold sf; split <;> (try split) <;> omega⟩
def le (a b : Pm n) : Prop := ∀ i j, i < j → a.f j < a.f i → b.f j < b.f i
theorem below {a : Pm n} {i j : Nat} (h : i < j) (h1 : a.f j < a.f i) : j < n := by
 apply Nat.lt_of_not_le; intro h2; rw [a.out j h2] at h1
 rcases Nat.lt_or_ge i n with h3 | h3
 · have := a.lt h3; omega
 · rw [a.out i h3] at h1; omega
theorem hf_anti {i j : Nat} (h : i < j) (hj : j < n) : hf n j < hf n i := by
 unfold hf; rw [if_pos hj, if_pos (by omega)]; omega
theorem hf_rev {i j : Nat} (h : hf n i < hf n j) : j < i ∨ (n ≤ j) := by
 unfold hf at h; split at h <;> split at h <;> omega
theorem zUC {φ ψ : Nat → Nat} (h1 : ∀ x, φ (ψ x) = x) (hφ : ∀ x y, x < y → φ x < φ y) (hψ : ∀ x y, x < y → ψ x < ψ y) (x : Nat) : φ x = x := by
 have up : ∀ {f : Nat → Nat}, (∀ x y, x < y → f x < f y) → ∀ x, x ≤ f x := by
  intro f hf x
  induction x with
  | zero => omega
  | succ x ih => have := hf x (x + 1) (by omega); omega
 have a1 := up hφ x; have a2 := up hψ x
 rcases Nat.lt_or_ge x (ψ x) with h | h
 · have := hφ _ _ h; rw [h1] at this; omega
 · have : ψ x = x := by omega
   have h2 := h1 x; rw [this] at h2; exact h2
theorem zRU {a b : Pm n} (h1 : le a b) (h2 : le b a) (x y : Nat) (hxy : x < y) : b.f (a.g x) < b.f (a.g y) := by
 rcases Nat.lt_trichotomy (a.g x) (a.g y) with h | h | h
 · apply Nat.lt_of_not_le; intro h3; have h4 : b.f (a.g y) < b.f (a.g x) := by
    rcases Nat.lt_or_ge (b.f (a.g y)) (b.f (a.g x)) with h5 | h5
    · exact h5
    · have := b.inj (show b.f (a.g x) = b.f (a.g y) by omega); omega
   have := h2 _ _ h h4; rw [a.fg, a.fg] at this; omega
 · have := a.inj_g h; omega
 · exact h1 _ _ h (by rw [a.fg, a.fg]; exact hxy)
theorem le_anti {a b : Pm n} (h1 : le a b) (h2 : le b a) : a = b := by
 have key := zUC (φ := fun x => b.f (a.g x)) (ψ := fun x => a.f (b.g x)) (fun x => by simp only [a.gf, b.fg]) (zRU h1 h2) (zRU h2 h1); apply ext; intro x; have := key (a.f x); simp only [a.gf] at this; exact this.symm
theorem le_half (a : Pm n) : le a (half n) := fun i j h h1 => hf_anti h (below h h1)
theorem zUG {a : Pm n} {i j : Nat} (h : i ≠ j) : a.f i < a.f j ∨ a.f j < a.f i := by
 have : a.f i ≠ a.f j := fun e => h (a.inj e); omega
theorem p0 {x y : Pm n} (h : le x y) : le (x⁻¹ * y) (x⁻¹ * half n) := by
 intro i j hij h1; simp only [mul_f, inv_f, half_f] at h1 ⊢
 rcases Nat.lt_trichotomy (x.g i) (x.g j) with h2 | h2 | h2
 · exact hf_anti h2 (below h2 h1)
 · have := x.inj_g h2; omega
 · have := h _ _ h2 (by rw [x.fg, x.fg]; exact hij); omega
theorem p1 {x y : Pm n} (h : le y (x⁻¹ * half n)) : le x (x * y) := by
 intro i j hij h1; simp only [mul_f]
 rcases zUG (a := y) (i := x.f j) (j := x.f i) (fun e => by omega) with h2 | h2
 · exact h2
 · have := h _ _ h1 h2; simp only [mul_f, inv_f, half_f, x.gf] at this; have h3 := below hij h1; have := hf_anti hij h3; omega
theorem p2 {v x y : Pm n} (h1 : le x (v⁻¹ * half n)) (h2 : le y (v⁻¹ * half n)) : le (v * x) (v * y) ↔ le x y := by
 constructor
 · intro h i j hij hx; have h3 := h1 i j hij hx; simp only [mul_f, inv_f, half_f] at h3; have hj := below hij hx; have h4 : v.g i < v.g j := by
    rcases hf_rev h3 with h5 | h5
    · exact h5
    · have := v.lt_g (show i < n by omega); omega
   have := h (v.g i) (v.g j) h4 (by simp only [mul_f, v.fg]; exact hx); simpa only [mul_f, v.fg] using this
 · intro h i j hij hx; simp only [mul_f] at hx ⊢
   rcases zUG (a := v) (i := i) (j := j) (by omega) with h3 | h3
   · exact h _ _ h3 hx
   · exact p1 h2 i j hij h3
structure Greedy (a b c : Pm n) : Prop where
 la : le c a
 lb : le c b
 stop : ∀ p, p + 1 < n → c.g p < c.g (p + 1) → ¬ (a.f (c.g (p + 1)) < a.f (c.g p) ∧ b.f (c.g (p + 1)) < b.f (c.g p))
theorem zQz {P : Nat → Prop} : ∀ (d lo : Nat), P lo → ¬ P (lo + d) → ∃ r, lo ≤ r ∧ r < lo + d ∧ P r ∧ ¬ P (r + 1)
 | 0, lo, h1, h2 => (h2 h1).elim
 | d + 1, lo, h1, h2 => by
  by_cases h : P (lo + 1)
  · obtain ⟨r, r1, r2, r3, r4⟩ := zQz d (lo + 1) h (by rwa [show lo + 1 + d = lo + (d + 1) by omega]); exact ⟨r, by omega, by omega, r3, r4⟩
  · exact ⟨lo, Nat.le_refl _, by omega, h1, h⟩
theorem Greedy.max {a b c z : Pm n} (h : Greedy a b c) (hza : le z a) (hzb : le z b) : le z c := by
 suffices ∀ (d x y : Nat), c.f y - c.f x = d → x < y → z.f y < z.f x → c.f y < c.f x by
  intro i j hij hz; exact this _ i j rfl hij hz
 intro d
 induction d using Nat.strongRecOn with
 | ind d ih =>
  intro x y hd hxy hz
  rcases zUG (a := c) (i := y) (j := x) (by omega) with h0 | h0
  · exact h0
  · exfalso; have hyn := below hxy hz; have hcy := c.lt hyn; have ax := hza _ _ hxy hz; have bx := hzb _ _ hxy hz; have mid : ∀ r, c.f x < r → r < c.f y → ¬ (x < c.g r ∧ c.g r < y) := by
     intro r hr1 hr2 ⟨hr3, hr4⟩
     rcases Nat.lt_or_ge (z.f (c.g r)) (z.f x) with h1 | h1
     · have := ih (r - c.f x) (by omega) x (c.g r) (by rw [c.fg]) hr3 h1; rw [c.fg] at this; omega
     · have := ih (c.f y - r) (by omega) (c.g r) y (by rw [c.fg]) hr4 (by omega); rw [c.fg] at this; omega
    obtain ⟨r, r1, r2, r3, r4⟩ := zQz (P := fun r => c.g r ≤ x) (c.f y - c.f x) (c.f x) (by simp only [c.gf]; omega) (by
     rw [show c.f x + (c.f y - c.f x) = c.f y by omega]; simp only [c.gf]; omega)
    have hr : r + 1 ≤ c.f y := by omega
    have hu : a.f x ≤ a.f (c.g r) ∧ b.f x ≤ b.f (c.g r) := by
     rcases Nat.lt_or_ge (c.g r) x with h1 | h1
     · have h2 : c.f x < c.f (c.g r) := by
        rw [c.fg]
        rcases Nat.lt_or_ge (c.f x) r with h3 | h3
        · exact h3
        · have : r = c.f x := by omega
          rw [this, c.gf] at h1; omega
       have := h.la _ _ h1 h2; have := h.lb _ _ h1 h2; omega
     · have : c.g r = x := by omega
       rw [this]; omega
    have hv : y ≤ c.g (r + 1) ∧ a.f (c.g (r + 1)) ≤ a.f y ∧ b.f (c.g (r + 1)) ≤ b.f y := by
     rcases Nat.lt_or_ge (r + 1) (c.f y) with h1 | h1
     · have h2 := mid (r + 1) (by omega) h1; have h3 : y ≤ c.g (r + 1) := by omega
       rcases Nat.lt_or_ge y (c.g (r + 1)) with h4 | h4
       · have h5 : c.f (c.g (r + 1)) < c.f y := by rw [c.fg]; exact h1
         have := h.la _ _ h4 h5; have := h.lb _ _ h4 h5; omega
       · have : c.g (r + 1) = y := by omega
         rw [this]; omega
     · have : r + 1 = c.f y := by omega
       rw [this, c.gf]; omega
    exact h.stop r (by omega) (by omega) ⟨by omega, by omega⟩
theorem Greedy.unique {a b c d : Pm n} (h : Greedy a b c) (h' : Greedy a b d) : c = d := le_anti (h'.max h.la h.lb) (h.max h'.la h'.lb)
def put1 (c : Pm n) (p : Nat) (h : p + 1 < n) : Pm n := c * swap n p h
theorem zTN (c : Pm n) (p : Nat) (h : p + 1 < n) (x : Nat) : (put1 c p h).f x = sf p (c.f x) := rfl
theorem zKx {c : Pm n} {p : Nat} {h : p + 1 < n} (hc : c.g p < c.g (p + 1)) {i j : Nat} (hij : i < j) :
  (put1 c p h).f j < (put1 c p h).f i ↔ c.f j < c.f i ∨ (i = c.g p ∧ j = c.g (p + 1)) := by
 rw [zTN, zTN]; have e1 : ∀ x, c.f x = p ↔ x = c.g p := fun x => ⟨fun h => by rw [← h, c.gf], fun h => by rw [h, c.fg]⟩
 have e2 : ∀ x, c.f x = p + 1 ↔ x = c.g (p + 1) := fun x => ⟨fun h => by rw [← h, c.gf], fun h => by rw [h, c.fg]⟩
 unfold sf; have a1 := e1 i; have a2 := e1 j; have b1 := e2 i; have b2 := e2 j
 by_cases c1 : c.f i = p
 · have := a1.1 c1
   by_cases c2 : c.f j = p + 1
   · have := b2.1 c2; simp [c1, c2, ← this]; omega
   · by_cases c3 : c.f j = p
     · have := a2.1 c3; omega
     · have h4 : ¬ j = c.g (p + 1) := fun h => c2 (b2.2 h); simp [c1, c2, c3, h4]; omega
 · have h5 : ¬ i = c.g p := fun h => c1 (a1.2 h)
   by_cases c2 : c.f i = p + 1
   · have h6 := b1.1 c2
     by_cases c3 : c.f j = p
     · have := a2.1 c3; omega
     · have h7 : ¬ c.f j = p + 1 := fun h => by have := b2.1 h; omega
       simp [c2, c3, h7, h5]; omega
   · by_cases c3 : c.f j = p
     · simp [c1, c2, c3, h5]; omega
     · by_cases c4 : c.f j = p + 1
       · simp [c1, c2, c4, h5]; omega
       · simp [c1, c2, c3, c4, h5]
theorem put1_le {a c : Pm n} {p : Nat} {h : p + 1 < n} (hc : c.g p < c.g (p + 1)) (hca : le c a) (ha : a.f (c.g (p + 1)) < a.f (c.g p)) : le (put1 c p h) a := by
 intro i j hij h1
 rcases (zKx hc hij).1 h1 with h2 | ⟨rfl, rfl⟩
 · exact hca _ _ hij h2
 · exact ha
def cnt (c : Pm n) : Nat := ((List.range n).flatMap fun i => (List.range n).map fun j => (i, j)).countP fun q => decide (q.1 < q.2) && decide (c.f q.2 < c.f q.1)
theorem cnt_le (c : Pm n) : cnt c ≤ n * n := by
 have := List.countP_le_length (p := fun q : Nat × Nat => decide (q.1 < q.2) && decide (c.f q.2 < c.f q.1)) (l := (List.range n).flatMap fun i => (List.range n).map fun j => (i, j)); have e : ((List.range n).flatMap fun i => (List.range n).map fun j => (i, j)).length = n * n := by
  simp [List.length_flatMap, List.map_const', List.sum_replicate_nat]
 unfold cnt; omega
theorem countP_lt {α : Type} {p q : α → Bool} : ∀ {l : List α} {x : α}, (∀ y ∈ l, p y = true → q y = true) → x ∈ l → p x = false → q x = true → l.countP p < l.countP q
 | [], x, _, hx, _, _ => by simp at hx
 | a :: l, x, h, hx, h1, h2 => by
  have hle : l.countP p ≤ l.countP q := List.countP_mono_left (fun y hy => h y (List.mem_cons_of_mem _ hy))
  rcases List.mem_cons.1 hx with rfl | hx
  · simp [List.countP_cons, h1, h2]; omega
  · have := countP_lt (fun y hy => h y (List.mem_cons_of_mem _ hy)) hx h1 h2; have h3 := h a List.mem_cons_self; simp only [List.countP_cons]
    cases h4 : p a <;> cases h5 : q a <;> simp_all <;> omega
theorem cnt_put1 {c : Pm n} {p : Nat} {h : p + 1 < n} (hc : c.g p < c.g (p + 1)) : cnt c < cnt (put1 c p h) := by
 have hn : c.g (p + 1) < n := c.lt_g h
 apply countP_lt (x := (c.g p, c.g (p + 1)))
 · intro q hq h1; simp only [Bool.and_eq_true, decide_eq_true_eq] at h1 ⊢; exact ⟨h1.1, (zKx hc h1.1).2 (.inl h1.2)⟩
 · simp only [List.mem_flatMap, List.mem_range, List.mem_map]; exact ⟨c.g p, by omega, c.g (p + 1), hn, rfl⟩
 · simp only [c.fg]; simp
 · simp only [Bool.and_eq_true, decide_eq_true_eq]; exact ⟨hc, (zKx hc hc).2 (.inr ⟨rfl, rfl⟩)⟩
theorem zN3 (a b : Pm n) : ∀ (k : Nat) (c : Pm n), n * n ≤ cnt c + k → le c a → le c b → ∃ d, Greedy a b d := by
 intro k
 induction k with
 | zero =>
  intro c hc ha hb; refine ⟨c, ha, hb, fun p hp h1 h2 => ?_⟩; have := cnt_put1 (h := hp) h1; have := cnt_le (put1 c p hp); omega
 | succ k ih =>
  intro c hc ha hb
  by_cases h : ∃ p, p + 1 < n ∧ c.g p < c.g (p + 1) ∧ a.f (c.g (p + 1)) < a.f (c.g p) ∧ b.f (c.g (p + 1)) < b.f (c.g p)
  · obtain ⟨p, hp, h1, h2, h3⟩ := h; have := cnt_put1 (h := hp) h1; exact ih (put1 c p hp) (by omega) (put1_le h1 ha h2) (put1_le h1 hb h3)
  · exact ⟨c, ha, hb, fun p hp h1 h2 => h ⟨p, hp, h1, h2.1, h2.2⟩⟩
theorem one_le (a : Pm n) : le 1 a := fun i j h h1 => by simp only [one_f] at h1; omega
theorem zMe (a b : Pm n) : ∃ d, Greedy a b d := zN3 a b (n * n) 1 (by omega) (one_le a) (one_le b)
noncomputable def meet (a b : Pm n) : Pm n := (zMe a b).choose
theorem meet_greedy (a b : Pm n) : Greedy a b (meet a b) := (zMe a b).choose_spec
theorem Greedy.eq {a b c : Pm n} (h : Greedy a b c) : c = meet a b := h.unique (meet_greedy a b)
noncomputable def lat (n : Nat) : Lat (Pm n) where
 S _ := True
 le := le
 D := half n
 meet := meet
 S_one := trivial
 S_D := trivial
 S_K _ := trivial
 S_K' _ := trivial
 refl _ := fun _ _ _ h => h
 trans _ _ _ h1 h2 := fun i j h h3 => h2 i j h (h1 i j h h3)
 anti _ _ := le_anti
 one_le _ := one_le _
 le_D _ := le_half _
 S_meet _ _ := trivial
 meet_l _ _ := (meet_greedy _ _).la
 meet_r _ _ := (meet_greedy _ _).lb
 le_meet _ _ _ h1 h2 := (meet_greedy _ _).max h1 h2
 p0 _ _ h := ⟨trivial, p0 h⟩
 p1 _ _ h := ⟨trivial, p1 h⟩
 p2 _ _ _ := p2
end Pm
end Go.Gar
namespace Go.Ev.YtmdkgikjnaijeaaGreat
open Go.Ev
theorem zOX (x l h : Int) : R zEu [tI x, tI l, tI h] = some [tB (decide (l ≤ x) && decide (x ≤ h))] := by
 apply zSO; by_cases e : l ≤ x <;> simp [zLl, e]
theorem zLM (x l h : Int) : R zET [tI x, tI l, tI h] = some [tB (decide (l ≤ x) && decide (x ≤ h))] := by
 apply zQq; by_cases e : l ≤ x <;> simp [zJR, e]
theorem zM3 (x : Int) : R zEx [tI x] = some [tB (decide (1 ≤ x) && decide (x ≤ 8))] := by
 apply zPv; simp [zHY, zLM]
def marks (k : Int) : Nat → List Int
 | 0 => []
 | n + 1 => k :: marks (k + 1) n
end Go.Ev.YtmdkgikjnaijeaaGreat
namespace Go.Ev.YtmdkgikjnaijeaaGreat
open Go.Ev
theorem zRd {l : List Int} {i : Nat} (h : i < l.length) : List.getD l i 0 = l[i] := by
 simp [List.getD_eq_getElem?_getD, List.getElem?_eq_getElem h]
end Go.Ev.YtmdkgikjnaijeaaGreat
namespace Go.Ev.YtmdkgikjnaijeaaGreat
open Go.Ev
end Go.Ev.YtmdkgikjnaijeaaGreat
namespace Go.Ev
open Go.Gar
def A8 (n : Nat) (f : Nat → Nat) : List Int := (List.range 8).map fun x => if x < n then (f x : Int) else 0
theorem zH3 (n : Nat) (f : Nat → Nat) : (A8 n f).length = 8 := by simp [A8]
theorem A8_get? (n : Nat) (f : Nat → Nat) {x : Nat} (h : x < 8) : (A8 n f)[x]? = some (if x < n then (f x : Int) else 0) := by
 simp [A8, h]
theorem zSI {n : Nat} {f : Nat → Nat} {x : Nat} (hx : x < n) (hn : n ≤ 8) : List.getD (A8 n f) x 0 = (f x : Int) := by
 rw [List.getD_eq_getElem?_getD, A8_get? n f (by omega), if_pos hx]
 rfl
theorem zVP {n : Nat} {f : Nat → Nat} {x : Nat} (hx : n ≤ x) : List.getD (A8 n f) x 0 = 0 := by
 rw [List.getD_eq_getElem?_getD]
 by_cases h : x < 8
 · rw [A8_get? n f h, if_neg (by omega)]
   rfl
 · rw [List.getElem?_eq_none (by rw [zH3]; omega)]
   rfl
theorem zSk {l m : List Int} (h1 : l.length = 8) (h2 : m.length = 8) (h : ∀ x, x < 8 → l[x]? = m[x]?) : l = m := by
 apply List.ext_getElem?; intro x
 by_cases hx : x < 8
 · exact h x hx
 · rw [List.getElem?_eq_none (by omega), List.getElem?_eq_none (by omega)]
theorem zl {n : Nat} {f g : Nat → Nat} (h : ∀ x, x < n → f x = g x) : A8 n f = A8 n g := by
 apply zSk (zH3 n f) (zH3 n g); intro x hx; rw [A8_get? n f hx, A8_get? n g hx]
 by_cases h1 : x < n
 · rw [if_pos h1, if_pos h1, h x h1]
 · rw [if_neg h1, if_neg h1]
theorem zVQ {n : Nat} {f g : Nat → Nat} (hn : n ≤ 8) (h : A8 n f = A8 n g) : ∀ x, x < n → f x = g x := by
 intro x hx; have h1 := zSI (f := f) hx hn; rw [h, zSI hx hn] at h1; omega
theorem zC1 {n : Nat} {f : Nat → Nat} {k v : Nat} (hk : k < n) (hn : n ≤ 8) : List.set (A8 n f) k (v : Int) = A8 n (fun x => if x = k then v else f x) := by
 apply zSk (by rw [List.length_set, zH3]) (zH3 _ _); intro x hx; have e1 := A8_get? n f hx; have e2 := A8_get? n (fun x => if x = k then v else f x) hx; rw [List.getElem?_set, e1, e2, zH3]
 by_cases h1 : k = x
 · subst h1; simp [hk, hx]
 · have h2 : ¬ x = k := fun h => h1 h.symm; simp [h1, h2]
theorem zEq (n : Nat) : List.replicate 8 (0 : Int) = A8 n (fun _ => 0) := by
 apply zSk (by simp) (zH3 _ _); intro x hx; rw [A8_get? n _ hx, List.getElem?_replicate, if_pos hx]; split <;> rfl
def sA {n : Nat} (s : Pm n) : List Int := A8 n s.f
theorem zRE {n : Nat} (s : Pm n) : (sA s).length = 8 := zH3 _ _
theorem jA {n : Nat} {s : Pm n} {x : Nat} (hx : x < n) (hn : n ≤ 8) : List.getD (sA s) x 0 = (s.f x : Int) := zSI hx hn
theorem zOz {n : Nat} (hn : n ≤ 8) {s t : Pm n} (h : sA s = sA t) : s = t := by
 apply Pm.ext; intro x
 by_cases hx : x < n
 · exact zVQ hn h x hx
 · rw [s.out x (by omega), t.out x (by omega)]
theorem zVi {n : Nat} (hn : n ≤ 8) (s t : Pm n) : sA s = sA t ↔ s = t := ⟨zOz hn, fun h => by rw [h]⟩
theorem zGc {d : Nat} (h : d < 2 ^ 64) : (BitVec.ofInt 64 (d : Int)).toNat = d := by
 rw [BitVec.toNat_ofInt]; omega
theorem zKi {x : Int} (h1 : 0 ≤ x) (h2 : x < 18446744073709551616) : IntKind.wrap .u64 x = x := by
 simp only [IntKind.wrap, IntKind.bits, IntKind.signed, Bool.false_and, Bool.false_eq_true, if_false]; omega
theorem zTy {k : Nat} (h : k < 64) : shl .u64 1 (k : Int) = ((2 ^ k : Nat) : Int) := by
 have h1 : 2 ^ k < 2 ^ 64 := Nat.pow_lt_pow_right (by omega) h; unfold shl; rw [show min ((k : Int)).toNat (IntKind.bits .u64) = k by simp [IntKind.bits]; omega, Int.one_mul]; rw [show ((2 : Int) ^ k) = ((2 ^ k : Nat) : Int) from (Int.natCast_pow 2 k).symm]; exact zKi (Int.natCast_nonneg _) (Int.ofNat_lt.2 h1)
theorem zQl {d e : Nat} (hd : d < 2 ^ 64) (he : e < 2 ^ 64) : bitsOr .u64 (d : Int) (e : Int) = ((d ||| e : Nat) : Int) := by
 have h := Nat.or_lt_two_pow hd he; unfold bitsOr; rw [BitVec.toNat_or]; show IntKind.wrap .u64 (((BitVec.ofInt 64 (d : Int)).toNat ||| (BitVec.ofInt 64 (e : Int)).toNat : Nat) : Int) = _; rw [zGc hd, zGc he]; exact zKi (by omega) (by omega)
theorem zJQ {d e : Nat} (hd : d < 2 ^ 64) (he : e < 2 ^ 64) : bitsAnd .u64 (d : Int) (e : Int) = ((d &&& e : Nat) : Int) := by
 have h := Nat.and_lt_two_pow (n := 64) d he; unfold bitsAnd; rw [BitVec.toNat_and]; show IntKind.wrap .u64 (((BitVec.ofInt 64 (d : Int)).toNat &&& (BitVec.ofInt 64 (e : Int)).toNat : Nat) : Int) = _; rw [zGc hd, zGc he]; exact zKi (by omega) (by omega)
theorem zTx {d k : Nat} (h : k < 64) : shr .u64 (d : Int) (k : Int) = ((d >>> k : Nat) : Int) := by
 unfold shr; rw [show min ((k : Int)).toNat (IntKind.bits .u64) = k by simp [IntKind.bits]; omega]; rw [show ((2 : Int) ^ k) = ((2 ^ k : Nat) : Int) from (Int.natCast_pow 2 k).symm, Int.fdiv_eq_ediv_of_nonneg _ (Int.natCast_nonneg _), Nat.shiftRight_eq_div_pow]
 rfl
theorem zVL {d k : Nat} (hd : d < 2 ^ 64) (h : k < 64) : (bitsAnd .u64 (shr .u64 (d : Int) (k : Int)) 1 == 1) = d.testBit k := by
 rw [zTx h]; have h1 : d >>> k < 2 ^ 64 := by
  rw [Nat.shiftRight_eq_div_pow]; exact Nat.lt_of_le_of_lt (Nat.div_le_self _ _) hd
 rw [show (1 : Int) = ((1 : Nat) : Int) from rfl, zJQ h1 (by omega), zDz, Nat.testBit]; rw [Bool.eq_iff_iff, Nat.and_comm]; have : (d >>> k) &&& 1 < 2 := Nat.and_lt_two_pow (n := 1) _ (by omega); rw [Nat.and_comm]; have e : 1 &&& (d >>> k) = (d >>> k) &&& 1 := Nat.and_comm _ _; simp only [decide_eq_true_eq, bne_iff_ne]; omega
end Go.Ev
namespace Go.Ev
open Go.Gar
theorem zU2 {n : Nat} {f : Nat → Nat} (hlt : ∀ x, x < n → f x < n) (hinj : ∀ x y, x < n → y < n → f x = f y → x = y) : ∃ s : Pm n, ∀ x, x < n → s.f x = f x := by
 have hs : ∀ y, y < n → ∃ x, x < n ∧ f x = y := by
  intro y hy; apply Classical.byContradiction; intro hne; have h1 : ((List.range n).map f).Nodup := by
   rw [List.nodup_iff_pairwise_ne, List.pairwise_map]; refine List.Pairwise.imp_of_mem ?_ (List.nodup_iff_pairwise_ne.1 (List.nodup_range (n := n))); intro a b ha hb hab he; exact hab (hinj a b (List.mem_range.1 ha) (List.mem_range.1 hb) he)
  have h2 : (y :: (List.range n).map f).Nodup := by
   rw [List.nodup_cons]; refine ⟨fun h => ?_, h1⟩; obtain ⟨x, hx, he⟩ := List.mem_map.1 h; exact hne ⟨x, List.mem_range.1 hx, he⟩
  have h3 : y :: (List.range n).map f ⊆ List.range n := by
   intro z hz
   rcases List.mem_cons.1 hz with rfl | hz
   · exact List.mem_range.2 hy
   · obtain ⟨x, hx, rfl⟩ := List.mem_map.1 hz; exact List.mem_range.2 (hlt x (List.mem_range.1 hx))
  have := List.Nodup.length_le_of_subset h2 h3; simp only [List.length_cons, List.length_map, List.length_range] at this; omega
 refine ⟨⟨fun x => if x < n then f x else x, fun y => if h : y < n then (hs y h).choose else y, fun x => ?_, fun y => ?_, fun x hx => if_neg (by omega)⟩, fun x hx => if_pos hx⟩
 · by_cases hx : x < n
   · simp only [if_pos hx, dif_pos (hlt x hx)]; have := (hs (f x) (hlt x hx)).choose_spec; exact hinj _ _ this.1 hx this.2
   · simp only [if_neg hx, dif_neg hx]
 · by_cases hy : y < n
   · simp only [dif_pos hy]; have := (hs y hy).choose_spec; simp only [if_pos this.1, this.2]
   · simp only [dif_neg hy, if_neg hy]
def B8 (a : List Int) : Prop := a.length = 8 ∧ ∀ y ∈ a, 0 ≤ y ∧ y ≤ 255
theorem B8.at {a : List Int} (h : B8 a) {i : Nat} (hi : i < 8) : List.getD a i 0 = a[i]'(by rw [h.1]; exact hi) ∧ 0 ≤ List.getD a i 0 ∧ List.getD a i 0 ≤ 255 := by
 have e : List.getD a i 0 = a[i]'(by rw [h.1]; exact hi) := by simp [List.getD_eq_getElem?_getD, List.getElem?_eq_getElem (show i < a.length by rw [h.1]; exact hi)]
 refine ⟨e, ?_⟩; rw [e]; exact h.2 _ (List.getElem_mem _)
theorem zVj {n : Nat} (hn : n ≤ 8) (s : Pm n) : B8 (sA s) := by
 refine ⟨zRE s, fun y hy => ?_⟩; simp only [sA, A8, List.mem_map, List.mem_range] at hy; obtain ⟨x, hx, rfl⟩ := hy
 split
 · rename_i h; have := s.lt h; omega
 · omega
def chk (n : Nat) (a : List Int) : Nat → List Bool → Bool
 | 0, _ => true
 | k + 1, met =>
  if n ≤ 7 - k then (List.getD a (7 - k) 0 == 0) && chk n a k met
  else decide (List.getD a (7 - k) 0 < (n : Int)) && !(List.getD met (List.getD a (7 - k) 0).toNat false) && chk n a k (met.set (List.getD a (7 - k) 0).toNat true)
theorem zOH {n : Nat} (hn : n ≤ 8) {a : List Int} (ha : B8 a) : ∀ (k : Nat) (met : List Bool), k ≤ 8 → met.length = 8 →
  (chk n a k met = true ↔ ∀ y, 8 - k ≤ y → y < 8 → (n ≤ y → List.getD a y 0 = 0) ∧ (y < n → List.getD a y 0 < n ∧ List.getD met (List.getD a y 0).toNat false = false ∧ ∀ z, 8 - k ≤ z → z < y → List.getD a z 0 ≠ List.getD a y 0))
 | 0, met, _, _ => by
  simp only [chk, true_iff]; intro y h1 h2; omega
 | k + 1, met, hk, hm => by
  have e : 8 - (k + 1) = 7 - k := by omega
  rw [e]; unfold chk; have hx : 7 - k < 8 := by omega
  by_cases h : n ≤ 7 - k
  · rw [if_pos h, Bool.and_eq_true, zOH hn ha k met (by omega) hm, beq_iff_eq]
    constructor
    · rintro ⟨h1, h2⟩ y hy1 hy2
      by_cases h3 : y = 7 - k
      · subst h3; exact ⟨fun _ => h1, fun h4 => by omega⟩
      · obtain ⟨q1, q2⟩ := h2 y (by omega) hy2; exact ⟨q1, fun h4 => by omega⟩
    · intro h2; refine ⟨(h2 (7 - k) (by omega) hx).1 h, fun y hy1 hy2 => ?_⟩; obtain ⟨q1, q2⟩ := h2 y (by omega) hy2; exact ⟨q1, fun h4 => by omega⟩
  · rw [if_neg h, Bool.and_eq_true, Bool.and_eq_true, zOH hn ha k _ (by omega) (by simp [hm]), decide_eq_true_eq, Bool.not_eq_true']; have hset : ∀ (u v : Int), 0 ≤ u → u < n → 0 ≤ v → (List.getD (met.set u.toNat true) v.toNat false = false ↔ List.getD met v.toNat false = false ∧ u ≠ v) := by
     intro u v hu hu' hv; rw [List.getD_eq_getElem?_getD, List.getD_eq_getElem?_getD, List.getElem?_set]
     by_cases h5 : u.toNat = v.toNat
     · have : u = v := by omega
       rw [if_pos h5, if_pos (by omega)]; simp [this]
     · have : u ≠ v := fun h => h5 (by rw [h])
       rw [if_neg h5]; simp [this]
    have hb := (ha.at hx).2
    constructor
    · rintro ⟨⟨h1, h2⟩, h3⟩ y hy1 hy2
      by_cases h4 : y = 7 - k
      · subst h4; exact ⟨fun h5 => by omega, fun _ => ⟨h1, h2, fun z hz1 hz2 => by omega⟩⟩
      · obtain ⟨q1, q2⟩ := h3 y (by omega) hy2; refine ⟨q1, fun h5 => ?_⟩; obtain ⟨r1, r2, r3⟩ := q2 h5; have r4 := (hset _ _ hb.1 h1 (ha.at hy2).2.1).1 r2; refine ⟨r1, r4.1, fun z hz1 hz2 => ?_⟩
        by_cases h6 : z = 7 - k
        · subst h6; exact r4.2
        · exact r3 z (by omega) hz2
    · intro h3; obtain ⟨q1, q2⟩ := h3 (7 - k) (by omega) hx; obtain ⟨r1, r2, _⟩ := q2 (by omega); refine ⟨⟨r1, r2⟩, fun y hy1 hy2 => ?_⟩; obtain ⟨s1, s2⟩ := h3 y (by omega) hy2; refine ⟨s1, fun h5 => ?_⟩; obtain ⟨t1, t2, t3⟩ := s2 h5; exact ⟨t1, (hset _ _ hb.1 r1 (ha.at hy2).2.1).2 ⟨t2, t3 (7 - k) (by omega) (by omega)⟩, fun z hz1 hz2 => t3 z (by omega) hz2⟩
theorem zTZ {n : Nat} (hn : n ≤ 8) {a : List Int} (ha : B8 a) : chk n a 8 (List.replicate 8 false) = true ↔ ∃ s : Pm n, a = sA s := by
 rw [zOH hn ha 8 _ (by omega) (by simp)]
 constructor
 · intro h; have hlt : ∀ x, x < n → (List.getD a x 0).toNat < n := by
    intro x hx; have h1 := ((h x (by omega) (by omega)).2 hx).1; have := (ha.at (show x < 8 by omega)).2; omega
   have hne : ∀ x y, x < y → y < n → List.getD a x 0 ≠ List.getD a y 0 := fun x y hxy hy => ((h y (by omega) (by omega)).2 hy).2.2 x (by omega) hxy
   obtain ⟨s, hs⟩ := zU2 (f := fun x => (List.getD a x 0).toNat) hlt (by
    intro x y hx hy he; have b1 := (ha.at (show x < 8 by omega)).2; have b2 := (ha.at (show y < 8 by omega)).2; have e : List.getD a x 0 = List.getD a y 0 := by
     have he' : (List.getD a x 0).toNat = (List.getD a y 0).toNat := he; omega
    rcases Nat.lt_trichotomy x y with h1 | h1 | h1
    · exact (hne x y h1 hy e).elim
    · exact h1
    · exact (hne y x h1 hx e.symm).elim)
   refine ⟨s, ?_⟩; apply zSk ha.1 (zRE s); intro x hx; have e := ha.at hx; rw [sA, A8_get? n s.f hx, List.getElem?_eq_getElem (by rw [ha.1]; exact hx), ← e.1]
   by_cases h1 : x < n
   · rw [if_pos h1, hs x h1]; congr 1; have := e.2; omega
   · rw [if_neg h1, (h x (by omega) hx).1 (by omega)]
 · rintro ⟨s, rfl⟩ y _ hy; refine ⟨fun h => zVP h, fun h => ?_⟩; rw [jA h hn]; have := s.lt h
   refine ⟨by omega, ?_, fun z _ hz => ?_⟩
   · rw [Int.toNat_natCast, List.getD_eq_getElem?_getD, List.getElem?_replicate, if_pos (by omega)]
     rfl
   · rw [jA (by omega) hn]; intro he; have := s.inj (show s.f z = s.f y by omega); omega
end Go.Ev
