/- Texts merged: G1 G2 G3 G4 Mb1 Mb2 Mb3 Mb4 Ma1 Ma2 Mk0 Mt1 Mt0 Ms2. -/
import Derived.Test.YtknhngnhjdpedaaGreatB
import Derived.Test.YtknhngnhjdpedaaGreatV4
import Derived.Test.YtknhngnhjdpedaaGreatV1
import Derived.Sort.AssemblyPlain
set_option linter.unusedVariables false
set_option linter.unusedSimpArgs false
namespace Go.Gar
class Grp (G : Type) extends Mul G, One G, Inv G where
 assoc : ∀ a b c : G, a * b * c = a * (b * c)
 one_mul : ∀ a : G, 1 * a = a
 mul_one : ∀ a : G, a * 1 = a
 inv_mul : ∀ a : G, a⁻¹ * a = 1
 mul_inv : ∀ a : G, a * a⁻¹ = 1
section
variable {G : Type} [Grp G]
theorem zCZ (a b : G) : a⁻¹ * (a * b) = b := by rw [← Grp.assoc, Grp.inv_mul, Grp.one_mul]
theorem zZ (a b : G) : a * (a⁻¹ * b) = b := by rw [← Grp.assoc, Grp.mul_inv, Grp.one_mul]
theorem zC5 {a b c : G} (h : a * b = a * c) : b = c := by rw [← zCZ a b, h, zCZ]
theorem zPT : (1 : G)⁻¹ = 1 := by rw [← Grp.mul_one (1 : G)⁻¹, Grp.inv_mul]
theorem zEW (a : G) : a⁻¹⁻¹ = a := by
 apply zC5 (a := a⁻¹); rw [Grp.mul_inv, Grp.inv_mul]
theorem zt (a b : G) : (a * b)⁻¹ = b⁻¹ * a⁻¹ := by
 apply zC5 (a := a * b); rw [Grp.mul_inv, Grp.assoc, zZ, Grp.mul_inv]
end
structure Lat (G : Type) [Grp G] where
 S : G → Prop
 le : G → G → Prop
 D : G
 meet : G → G → G
 S_one : S 1
 S_D : S D
 S_K : ∀ {x}, S x → S (x⁻¹ * D)
 S_K' : ∀ {x}, S x → S (D * x⁻¹)
 refl : ∀ {x}, S x → le x x
 trans : ∀ {x y z}, S x → S y → S z → le x y → le y z → le x z
 anti : ∀ {x y}, S x → S y → le x y → le y x → x = y
 one_le : ∀ {x}, S x → le 1 x
 le_D : ∀ {x}, S x → le x D
 S_meet : ∀ {x y}, S x → S y → S (meet x y)
 meet_l : ∀ {x y}, S x → S y → le (meet x y) x
 meet_r : ∀ {x y}, S x → S y → le (meet x y) y
 le_meet : ∀ {x y z}, S x → S y → S z → le z x → le z y → le z (meet x y)
 p0 : ∀ {x y}, S x → S y → le x y → S (x⁻¹ * y) ∧ le (x⁻¹ * y) (x⁻¹ * D)
 p1 : ∀ {x y}, S x → S y → le y (x⁻¹ * D) → S (x * y) ∧ le x (x * y)
 p2 : ∀ {v x y}, S v → S x → S y → le x (v⁻¹ * D) → le y (v⁻¹ * D) → (le (v * x) (v * y) ↔ le x y)
namespace Lat
variable {G : Type} [Grp G] (Γ : Lat G)
def K (x : G) : G := x⁻¹ * Γ.D
variable {Γ}
theorem SK {x : G} (h : Γ.S x) : Γ.S (Γ.K x) := Γ.S_K h
theorem P0 {x y : G} (hx : Γ.S x) (hy : Γ.S y) (h : Γ.le x y) : Γ.S (x⁻¹ * y) ∧ Γ.le (x⁻¹ * y) (Γ.K x) := Γ.p0 hx hy h
theorem P1 {x y : G} (hx : Γ.S x) (hy : Γ.S y) (h : Γ.le y (Γ.K x)) : Γ.S (x * y) ∧ Γ.le x (x * y) := Γ.p1 hx hy h
theorem P2 {v x y : G} (hv : Γ.S v) (hx : Γ.S x) (hy : Γ.S y) (h1 : Γ.le x (Γ.K v)) (h2 : Γ.le y (Γ.K v)) : Γ.le (v * x) (v * y) ↔ Γ.le x y := Γ.p2 hv hx hy h1 h2
theorem zSd (x y : G) : Γ.K (x * y) = y⁻¹ * Γ.K x := by simp only [K, zt, Grp.assoc]
theorem zS5 {x : G} (hx : Γ.S x) (h : Γ.le x 1) : x = 1 := Γ.anti hx Γ.S_one h (Γ.one_le hx)
theorem zNw {x : G} (hx : Γ.S x) : Γ.meet x 1 = 1 := zS5 (Γ.S_meet hx Γ.S_one) (Γ.meet_r hx Γ.S_one)
theorem zM4 {v x y : G} (hv : Γ.S v) (hx : Γ.S x) (hy : Γ.S y) (h1 : Γ.le x (Γ.K v)) (h2 : Γ.le y (Γ.K v)) : Γ.meet (v * x) (v * y) = v * Γ.meet x y := by
 obtain ⟨a1, a2⟩ := P1 hv hx h1; obtain ⟨b1, b2⟩ := P1 hv hy h2; have hm := Γ.S_meet a1 b1; have hq := Γ.S_meet hx hy; have hK := SK hv; have hqK : Γ.le (Γ.meet x y) (Γ.K v) := Γ.trans hq hx hK (Γ.meet_l hx hy) h1; have hv1 : Γ.le v (Γ.meet (v * x) (v * y)) := Γ.le_meet a1 b1 hv a2 b2; obtain ⟨c1, c2⟩ := P0 hv hm hv1; obtain ⟨d1, d2⟩ := P1 hv hq hqK; have e : v * (v⁻¹ * Γ.meet (v * x) (v * y)) = Γ.meet (v * x) (v * y) := zZ _ _
 apply Γ.anti hm d1
 · rw [← e]; rw [P2 hv c1 hq c2 hqK]
   apply Γ.le_meet hx hy c1
   · rw [← P2 hv c1 hx c2 h1, e]; exact Γ.meet_l a1 b1
   · rw [← P2 hv c1 hy c2 h2, e]; exact Γ.meet_r a1 b1
 · apply Γ.le_meet a1 b1 d1
   · rw [P2 hv hq hx hqK h1]; exact Γ.meet_l hx hy
   · rw [P2 hv hq hy hqK h2]; exact Γ.meet_r hx hy
structure Cut (t a c : G) : Prop where
 S_c : Γ.S c
 c_K : Γ.le c (Γ.K t)
 c_a : Γ.le c a
 S_tc : Γ.S (t * c)
 S_r : Γ.S (c⁻¹ * a)
 r_K : Γ.le (c⁻¹ * a) (Γ.K c)
 K_tc : Γ.le (Γ.K (t * c)) (Γ.K c)
 one : Γ.meet (Γ.K (t * c)) (c⁻¹ * a) = 1
theorem cut {t a : G} (ht : Γ.S t) (ha : Γ.S a) : Γ.Cut t a (Γ.meet (Γ.K t) a) := by
 have hK := SK ht; have hc := Γ.S_meet hK ha; have h1 := Γ.meet_l hK ha; have h2 := Γ.meet_r hK ha; obtain ⟨a1, a2⟩ := P0 hc ha h2; obtain ⟨b1, b2⟩ := P0 hc hK h1; have e : Γ.K (t * Γ.meet (Γ.K t) a) = (Γ.meet (Γ.K t) a)⁻¹ * Γ.K t := zSd _ _; refine ⟨hc, h1, h2, (P1 ht hc h1).1, a1, a2, by rw [e]; exact b2, ?_⟩; rw [e]; have := zM4 hc b1 a1 b2 a2; unfold K at *; rw [zZ, zZ] at this; apply zC5 (a := Γ.meet (t⁻¹ * Γ.D) a); rw [Grp.mul_one]; exact this.symm
end Lat
end Go.Gar
namespace Go.Gar.Lat
variable {G : Type} [Grp G] (Γ : Lat G)
def AllS (l : List G) : Prop := ∀ x ∈ l, Γ.S x
def Wd : List G → Prop
 | [] => True
 | a :: l => (∀ b, l.head? = some b → Γ.meet (Γ.K a) b = 1) ∧ Wd l
def L : G → List G → List G
 | t, [] => [t]
 | t, a :: A => (t * Γ.meet (Γ.K t) a) :: L ((Γ.meet (Γ.K t) a)⁻¹ * a) A
variable {Γ}
theorem AllS.tail {a : G} {l : List G} (h : Γ.AllS (a :: l)) : Γ.AllS l := fun x hx => h x (List.mem_cons_of_mem _ hx)
theorem AllS.head {a : G} {l : List G} (h : Γ.AllS (a :: l)) : Γ.S a := h a List.mem_cons_self
theorem AllS.cons {a : G} {l : List G} (h : Γ.S a) (hl : Γ.AllS l) : Γ.AllS (a :: l) := fun x hx => by
 rcases List.mem_cons.1 hx with rfl | hx
 · exact h
 · exact hl x hx
theorem AllS.nil : Γ.AllS [] := fun x hx => by simp at hx
theorem L_S : ∀ {A : List G} {t : G}, Γ.S t → Γ.AllS A → Γ.AllS (Γ.L t A)
 | [], t, ht, _ => AllS.cons ht AllS.nil
 | a :: A, t, ht, hA => by
  have C := cut ht hA.head; exact AllS.cons C.S_tc (L_S C.S_r hA.tail)
theorem zRd : ∀ {A : List G} {t : G}, Γ.S t → Γ.AllS A → Γ.L t (A ++ [1]) = Γ.L t A ++ [1]
 | [], t, ht, _ => by
  simp only [List.nil_append, L, zNw (SK ht), Grp.mul_one, zPT, List.cons_append]
 | a :: A, t, ht, hA => by
  have C := cut ht hA.head; simp only [List.cons_append, L]; rw [zRd C.S_r hA.tail]
theorem zSc : ∀ {A : List G} {u v : G}, Γ.S u → Γ.S v → Γ.le v (Γ.K u) → Γ.AllS A → Γ.L u (Γ.L v A) = Γ.L (u * v) A ++ [1]
 | [], u, v, hu, hv, h, _ => by
  have e : Γ.meet (Γ.K u) v = v := Γ.anti (Γ.S_meet (SK hu) hv) hv (Γ.meet_r (SK hu) hv) (Γ.le_meet (SK hu) hv hv h (Γ.refl hv)); simp only [L, e, Grp.inv_mul, List.cons_append, List.nil_append]
 | a :: A, u, v, hu, hv, h, hA => by
  have ha := hA.head; obtain ⟨s1, s2⟩ := P1 hu hv h; have C := cut hv ha; have Cf := cut s1 ha; have hKuv : Γ.le (Γ.K (u * v)) (Γ.K v) := by
   rw [zSd]; exact (P0 hv (SK hu) h).2
  have eK : v * Γ.K (u * v) = Γ.K u := by rw [zSd, zZ]
  have ed : Γ.meet (Γ.K u) (v * Γ.meet (Γ.K v) a) = v * Γ.meet (Γ.K (u * v)) (Γ.meet (Γ.K v) a) := by
   rw [← zM4 hv (SK s1) C.S_c hKuv C.c_K, eK]
  have ee : Γ.meet (Γ.K (u * v)) (Γ.meet (Γ.K v) a) = Γ.meet (Γ.K (u * v)) a := by
   have hm := Γ.S_meet (SK s1) C.S_c
   apply Γ.anti hm Cf.S_c
   · exact Γ.le_meet (SK s1) ha hm (Γ.meet_l (SK s1) C.S_c) (Γ.trans hm C.S_c ha (Γ.meet_r (SK s1) C.S_c) C.c_a)
   · exact Γ.le_meet (SK s1) C.S_c Cf.S_c Cf.c_K (Γ.le_meet (SK hv) ha Cf.S_c (Γ.trans Cf.S_c (SK s1) (SK hv) Cf.c_K hKuv) Cf.c_a)
  have hfc : Γ.le (Γ.meet (Γ.K (u * v)) a) (Γ.meet (Γ.K v) a) := Γ.le_meet (SK hv) ha Cf.S_c (Γ.trans Cf.S_c (SK s1) (SK hv) Cf.c_K hKuv) Cf.c_a; simp only [L]; rw [ed, ee]; generalize Γ.meet (Γ.K (u * v)) a = f at *; generalize Γ.meet (Γ.K v) a = c at *; have e1 : (v * f)⁻¹ * (v * c) = f⁻¹ * c := by rw [zt, Grp.assoc, zCZ]
  obtain ⟨q1, q2⟩ := P0 Cf.S_c C.S_c hfc; have hr : Γ.le (c⁻¹ * a) (Γ.K (f⁻¹ * c)) := by
   have e2 : (f⁻¹ * c) * (c⁻¹ * a) = f⁻¹ * a := by rw [Grp.assoc, zZ]
   have hg : Γ.le (f⁻¹ * c) (f⁻¹ * a) := by
    rw [← P2 Cf.S_c q1 Cf.S_r q2 Cf.r_K, zZ, zZ]; exact C.c_a
   have := (P0 q1 Cf.S_r hg).2; rw [← e2, zCZ] at this; exact this
  rw [e1, zSc q1 C.S_r hr hA.tail, Grp.assoc, zZ, Grp.assoc]
  rfl
theorem move {x y c : G} {A : List G} (hx : Γ.S x) (hy : Γ.S y) (hc : Γ.S c) (h1 : Γ.le c (Γ.K x)) (h2 : Γ.le c y) (hA : Γ.AllS A) : Γ.L x (Γ.L y A) = Γ.L (x * c) (Γ.L (c⁻¹ * y) A) := by
 obtain ⟨q1, q2⟩ := P0 hc hy h2; have e1 := zSc hc q1 q2 hA; rw [zZ] at e1; have e2 := zSc hx hc h1 (L_S q1 hA); rw [e1, zRd hx (L_S hy hA)] at e2; exact (List.append_cancel_right e2)
variable (Γ)
def step1 (a : G) : List G → List G
 | [] => [a]
 | b :: l => (a * Γ.meet (Γ.K a) b) :: ((Γ.meet (Γ.K a) b)⁻¹ * b) :: l
def pass : List G → List G
 | [] => []
 | a :: l => Γ.step1 a (pass l)
variable {Γ}
variable (Γ)
variable {Γ}
end Go.Gar.Lat
namespace Go.Gar.Lat
variable {G : Type} [Grp G] [DecidableEq G] (Γ : Lat G)
def fr : List G → Nat × List G
 | [] => (0, [])
 | a :: l => if a = Γ.D then ((fr l).1 + 1, (fr l).2) else (0, a :: l)
def bk : List G → List G
 | [] => []
 | a :: l => match bk l with
  | [] => if a = 1 then [] else [a]
  | b :: m => a :: b :: m
structure Proper (A : List G) : Prop where
 S : Γ.AllS A
 W : Γ.Wd A
 no : ∀ x ∈ A, x ≠ Γ.D ∧ x ≠ 1
abbrev Ds (i : Nat) : List G := List.replicate i Γ.D
abbrev ones (j : Nat) : List G := List.replicate j 1
variable {Γ}
theorem zSX (j : Nat) : bk (ones j : List G) = [] := by
 induction j with
 | zero => rfl
 | succ j ih =>
  simp only [ones, List.replicate_succ] at ih ⊢; unfold bk; rw [ih]; simp
theorem zRX : ∀ {A : List G} (j : Nat), (∀ x ∈ A, x ≠ 1) → bk (A ++ ones j) = A
 | [], j, _ => zSX j
 | a :: A, j, h => by
  have ih := zRX (A := A) j (fun x hx => h x (List.mem_cons_of_mem _ hx)); show bk (a :: (A ++ ones j)) = _; unfold bk; rw [ih]
  cases A with
  | nil => simp [h a List.mem_cons_self]
  | cons b A => rfl
theorem zRR : ∀ (i : Nat) {r : List G}, (∀ b, r.head? = some b → b ≠ Γ.D) → Γ.fr (Γ.Ds i ++ r) = (i, r)
 | 0, [], _ => rfl
 | 0, b :: r, h => by simp [Ds, fr, h b rfl]
 | i + 1, r, h => by
  have := zRR i h; simp only [Ds, List.replicate_succ, List.cons_append] at this ⊢; simp [fr, this]
theorem ends (hD : Γ.D ≠ 1) {i j : Nat} {A : List G} (hP : Γ.Proper A) : ((Γ.fr (Γ.Ds i ++ A ++ ones j)).1, bk (Γ.fr (Γ.Ds i ++ A ++ ones j)).2) = (i, A) := by
 rw [List.append_assoc, zRR i (r := A ++ ones j) ?_, zRX j (fun x hx => (hP.no x hx).2)]; intro b hb
 cases A with
 | nil =>
  cases j with
  | zero => simp [ones] at hb
  | succ j =>
   simp only [List.nil_append, ones, List.replicate_succ, List.head?_cons, Option.some.injEq] at hb; subst hb; exact fun h => hD h.symm
 | cons a A =>
  simp only [List.cons_append, List.head?_cons, Option.some.injEq] at hb; subst hb; exact (hP.no _ List.mem_cons_self).1
end Go.Gar.Lat
namespace Go.Gar
structure Pm (n : Nat) where
 f : Nat → Nat
 g : Nat → Nat
 gf : ∀ x, g (f x) = x
 fg : ∀ x, f (g x) = x
 out : ∀ x, n ≤ x → f x = x
namespace Pm
variable {n : Nat}
theorem ext {a b : Pm n} (h : ∀ x, a.f x = b.f x) : a = b := by
 have hf : a.f = b.f := funext h; have hg : a.g = b.g := funext fun x => by
  have := b.gf (a.g x); rw [← hf, a.fg] at this; exact this.symm
 cases a
 cases b
 simp only at hf hg; subst hf; subst hg
 rfl
theorem inj (a : Pm n) {x y : Nat} (h : a.f x = a.f y) : x = y := by rw [← a.gf x, h, a.gf]
theorem inj_g (a : Pm n) {x y : Nat} (h : a.g x = a.g y) : x = y := by rw [← a.fg x, h, a.fg]
theorem out_g (a : Pm n) (x : Nat) (h : n ≤ x) : a.g x = x := by
 have := a.gf x; rw [a.out x h] at this; exact this
theorem lt (a : Pm n) {x : Nat} (h : x < n) : a.f x < n := by
 apply Nat.lt_of_not_le; intro h1; have := a.inj (a.out _ h1); omega
theorem lt_g (a : Pm n) {x : Nat} (h : x < n) : a.g x < n := by
 apply Nat.lt_of_not_le; intro h1; have := a.inj_g (a.out_g _ h1); omega
instance : Grp (Pm n) where
 mul a b := ⟨fun x => b.f (a.f x), fun x => a.g (b.g x), fun x => by simp only [b.gf, a.gf], fun x => by simp only [a.fg, b.fg], fun x h => by simp only [a.out x h, b.out x h]⟩
 one := ⟨fun x => x, fun x => x, fun _ => rfl, fun _ => rfl, fun _ _ => rfl⟩
 inv a := ⟨a.g, a.f, a.fg, a.gf, a.out_g⟩
 assoc _ _ _ := rfl
 one_mul _ := rfl
 mul_one _ := rfl
 inv_mul a := ext fun x => a.fg x
 mul_inv a := ext fun x => a.gf x
@[simp] theorem mul_f (a b : Pm n) (x : Nat) : (a * b).f x = b.f (a.f x) := rfl
@[simp] theorem mul_g (a b : Pm n) (x : Nat) : (a * b).g x = a.g (b.g x) := rfl
@[simp] theorem one_f (x : Nat) : (1 : Pm n).f x = x := rfl
@[simp] theorem one_g (x : Nat) : (1 : Pm n).g x = x := rfl
@[simp] theorem inv_f (a : Pm n) (x : Nat) : (a⁻¹).f x = a.g x := rfl
@[simp] theorem inv_g (a : Pm n) (x : Nat) : (a⁻¹).g x = a.f x := rfl
def hf (n x : Nat) : Nat := if x < n then n - 1 - x else x
theorem zS9 (n x : Nat) : hf n (hf n x) = x := by
 unfold hf
 split
 · split <;> omega
 · rfl
def half (n : Nat) : Pm n := ⟨hf n, hf n, zS9 n, zS9 n, fun x h => by unfold hf; split <;> omega⟩
@[simp] theorem half_f (x : Nat) : (half n).f x = hf n x := rfl
def sf (p x : Nat) : Nat := if x = p then p + 1 else if x = p + 1 then p else x
theorem sf_sf (p x : Nat) : sf p (sf p x) = x := by
 unfold sf
 split
 · simp; omega
 · split
   · simp; omega
   · rfl
def swap (n p : Nat) (h : p + 1 < n) : Pm n := ⟨sf p, sf p, sf_sf p, sf_sf p, fun x hx => by unfold sf; split <;> (try split) <;> omega⟩
def le (a b : Pm n) : Prop := ∀ i j, i < j → a.f j < a.f i → b.f j < b.f i
theorem below {a : Pm n} {i j : Nat} (h : i < j) (h1 : a.f j < a.f i) : j < n := by
 apply Nat.lt_of_not_le; intro h2; rw [a.out j h2] at h1
 rcases Nat.lt_or_ge i n with h3 | h3
 · have := a.lt h3; omega
 · rw [a.out i h3] at h1; omega
theorem zPX {i j : Nat} (h : i < j) (hj : j < n) : hf n j < hf n i := by
 unfold hf; rw [if_pos hj, if_pos (by omega)]; omega
theorem zS8 {i j : Nat} (h : hf n i < hf n j) : j < i ∨ (n ≤ j) := by
 unfold hf at h; split at h <;> split at h <;> omega
theorem zS0 {a : Pm n} {i j : Nat} (h : i ≠ j) : a.f i < a.f j ∨ a.f j < a.f i := by
 have : a.f i ≠ a.f j := fun e => h (a.inj e); omega
theorem p0 {x y : Pm n} (h : le x y) : le (x⁻¹ * y) (x⁻¹ * half n) := by
 intro i j hij h1; simp only [mul_f, inv_f, half_f] at h1 ⊢
 rcases Nat.lt_trichotomy (x.g i) (x.g j) with h2 | h2 | h2
 · exact zPX h2 (below h2 h1)
 · have := x.inj_g h2; omega
 · have := h _ _ h2 (by rw [x.fg, x.fg]; exact hij); omega
theorem p1 {x y : Pm n} (h : le y (x⁻¹ * half n)) : le x (x * y) := by
 intro i j hij h1; simp only [mul_f]
 rcases zS0 (a := y) (i := x.f j) (j := x.f i) (fun e => by omega) with h2 | h2
 · exact h2
 · have := h _ _ h1 h2; simp only [mul_f, inv_f, half_f, x.gf] at this; have h3 := below hij h1; have := zPX hij h3; omega
theorem p2 {v x y : Pm n} (h1 : le x (v⁻¹ * half n)) (h2 : le y (v⁻¹ * half n)) : le (v * x) (v * y) ↔ le x y := by
 constructor
 · intro h i j hij hx; have h3 := h1 i j hij hx; simp only [mul_f, inv_f, half_f] at h3; have hj := below hij hx; have h4 : v.g i < v.g j := by
    rcases zS8 h3 with h5 | h5
    · exact h5
    · have := v.lt_g (show i < n by omega); omega
   have := h (v.g i) (v.g j) h4 (by simp only [mul_f, v.fg]; exact hx); simpa only [mul_f, v.fg] using this
 · intro h i j hij hx; simp only [mul_f] at hx ⊢
   rcases zS0 (a := v) (i := i) (j := j) (by omega) with h3 | h3
   · exact h _ _ h3 hx
   · exact p1 h2 i j hij h3
structure Greedy (a b c : Pm n) : Prop where
 la : le c a
 lb : le c b
 stop : ∀ p, p + 1 < n → c.g p < c.g (p + 1) → ¬ (a.f (c.g (p + 1)) < a.f (c.g p) ∧ b.f (c.g (p + 1)) < b.f (c.g p))
def put1 (c : Pm n) (p : Nat) (h : p + 1 < n) : Pm n := c * swap n p h
theorem zRJ (c : Pm n) (p : Nat) (h : p + 1 < n) (x : Nat) : (put1 c p h).f x = sf p (c.f x) := rfl
theorem zJf {c : Pm n} {p : Nat} {h : p + 1 < n} (hc : c.g p < c.g (p + 1)) {i j : Nat} (hij : i < j) :
  (put1 c p h).f j < (put1 c p h).f i ↔ c.f j < c.f i ∨ (i = c.g p ∧ j = c.g (p + 1)) := by
 rw [zRJ, zRJ]; have e1 : ∀ x, c.f x = p ↔ x = c.g p := fun x => ⟨fun h => by rw [← h, c.gf], fun h => by rw [h, c.fg]⟩
 have e2 : ∀ x, c.f x = p + 1 ↔ x = c.g (p + 1) := fun x => ⟨fun h => by rw [← h, c.gf], fun h => by rw [h, c.fg]⟩
 unfold sf; have a1 := e1 i; have a2 := e1 j; have b1 := e2 i; have b2 := e2 j
 by_cases c1 : c.f i = p
 · have := a1.1 c1
   by_cases c2 : c.f j = p + 1
   · have := b2.1 c2; simp [c1, c2, ← this]; omega
   · by_cases c3 : c.f j = p
     · have := a2.1 c3; omega
     · have h4 : ¬ j = c.g (p + 1) := fun h => c2 (b2.2 h); simp [c1, c2, c3, h4]; omega
 · have h5 : ¬ i = c.g p := fun h => c1 (a1.2 h)
   by_cases c2 : c.f i = p + 1
   · have h6 := b1.1 c2
     by_cases c3 : c.f j = p
     · have := a2.1 c3; omega
     · have h7 : ¬ c.f j = p + 1 := fun h => by have := b2.1 h; omega
       simp [c2, c3, h7, h5]; omega
   · by_cases c3 : c.f j = p
     · simp [c1, c2, c3, h5]; omega
     · by_cases c4 : c.f j = p + 1
       · simp [c1, c2, c4, h5]; omega
       · simp [c1, c2, c3, c4, h5]
theorem zOz {a c : Pm n} {p : Nat} {h : p + 1 < n} (hc : c.g p < c.g (p + 1)) (hca : le c a) (ha : a.f (c.g (p + 1)) < a.f (c.g p)) : le (put1 c p h) a := by
 intro i j hij h1
 rcases (zJf hc hij).1 h1 with h2 | ⟨rfl, rfl⟩
 · exact hca _ _ hij h2
 · exact ha
def cnt (c : Pm n) : Nat := ((List.range n).flatMap fun i => (List.range n).map fun j => (i, j)).countP fun q => decide (q.1 < q.2) && decide (c.f q.2 < c.f q.1)
theorem zTE (c : Pm n) : cnt c ≤ n * n := by
 have := List.countP_le_length (p := fun q : Nat × Nat => decide (q.1 < q.2) && decide (c.f q.2 < c.f q.1)) (l := (List.range n).flatMap fun i => (List.range n).map fun j => (i, j)); have e : ((List.range n).flatMap fun i => (List.range n).map fun j => (i, j)).length = n * n := by
  simp [List.length_flatMap, List.map_const', List.sum_replicate_nat]
 unfold cnt; omega
theorem countP_lt {α : Type} {p q : α → Bool} : ∀ {l : List α} {x : α}, (∀ y ∈ l, p y = true → q y = true) → x ∈ l → p x = false → q x = true → l.countP p < l.countP q
 | [], x, _, hx, _, _ => by simp at hx
 | a :: l, x, h, hx, h1, h2 => by
  have hle : l.countP p ≤ l.countP q := List.countP_mono_left (fun y hy => h y (List.mem_cons_of_mem _ hy))
  rcases List.mem_cons.1 hx with rfl | hx
  · simp [List.countP_cons, h1, h2]; omega
  · have := countP_lt (fun y hy => h y (List.mem_cons_of_mem _ hy)) hx h1 h2; have h3 := h a List.mem_cons_self; simp only [List.countP_cons]
    cases h4 : p a <;> cases h5 : q a <;> simp_all <;> omega
theorem zNN {c : Pm n} {p : Nat} {h : p + 1 < n} (hc : c.g p < c.g (p + 1)) : cnt c < cnt (put1 c p h) := by
 have hn : c.g (p + 1) < n := c.lt_g h
 apply countP_lt (x := (c.g p, c.g (p + 1)))
 · intro q hq h1; simp only [Bool.and_eq_true, decide_eq_true_eq] at h1 ⊢; exact ⟨h1.1, (zJf hc h1.1).2 (.inl h1.2)⟩
 · simp only [List.mem_flatMap, List.mem_range, List.mem_map]; exact ⟨c.g p, by omega, c.g (p + 1), hn, rfl⟩
 · simp only [c.fg]; simp
 · simp only [Bool.and_eq_true, decide_eq_true_eq]; exact ⟨hc, (zJf hc hc).2 (.inr ⟨rfl, rfl⟩)⟩
theorem zL3 (a b : Pm n) : ∀ (k : Nat) (c : Pm n), n * n ≤ cnt c + k → le c a → le c b → ∃ d, Greedy a b d := by
 intro k
 induction k with
 | zero =>
  intro c hc ha hb; refine ⟨c, ha, hb, fun p hp h1 h2 => ?_⟩; have := zNN (h := hp) h1; have := zTE (put1 c p hp); omega
 | succ k ih =>
  intro c hc ha hb
  by_cases h : ∃ p, p + 1 < n ∧ c.g p < c.g (p + 1) ∧ a.f (c.g (p + 1)) < a.f (c.g p) ∧ b.f (c.g (p + 1)) < b.f (c.g p)
  · obtain ⟨p, hp, h1, h2, h3⟩ := h; have := zNN (h := hp) h1; exact ih (put1 c p hp) (by omega) (zOz h1 ha h2) (zOz h1 hb h3)
  · exact ⟨c, ha, hb, fun p hp h1 h2 => h ⟨p, hp, h1, h2.1, h2.2⟩⟩
theorem one_le (a : Pm n) : le 1 a := fun i j h h1 => by simp only [one_f] at h1; omega
theorem zPY (a b : Pm n) : ∃ d, Greedy a b d := zL3 a b (n * n) 1 (by omega) (one_le a) (one_le b)
noncomputable def meet (a b : Pm n) : Pm n := (zPY a b).choose
end Pm
end Go.Gar
namespace Go.Ev.YtknhngnhjdpedaaGreat
open Go.Ev
theorem zEg (x l h : Int) : R zBB [tI x, tI l, tI h] = some [tB (decide (l ≤ x) && decide (x ≤ h))] := by
 apply zQM; by_cases e : l ≤ x <;> simp [zKC, e]
theorem zC6 (x l h : Int) : R jv [tI x, tI l, tI h] = some [tB (decide (l ≤ x) && decide (x ≤ h))] := by
 apply zOa; by_cases e : l ≤ x <;> simp [zIL, e]
theorem zID (x : Int) : R zBU [tI x] = some [tB (decide (1 ≤ x) && decide (x ≤ 8))] := by
 apply zIq; simp [zDy, zC6]
def marks (k : Int) : Nat → List Int
 | 0 => []
 | n + 1 => k :: marks (k + 1) n
end Go.Ev.YtknhngnhjdpedaaGreat
namespace Go.Ev.YtknhngnhjdpedaaGreat
open Go.Ev
def okL (n x : Int) : Bool := decide (x ≠ 0) && decide (1 - n ≤ x) && decide (x ≤ n - 1)
def isBr (b : Int × List Int) : Bool := decide (1 ≤ b.1) && decide (b.1 ≤ 8) && decide (b.2.length ≤ 200) && b.2.all (okL b.1)
theorem zBi {l : List Int} {i : Nat} (h : i < l.length) : List.getD l i 0 = l[i] := by
 simp [List.getD_eq_getElem?_getD, List.getElem?_eq_getElem h]
theorem zOH (x n : Int) (hn : 1 ≤ n) (hn' : n ≤ 8) : R zEZ [tI x, tI n] = some [tB (okL n x)] := by
 apply zLX; rw [zEl, zB (by omega) (by omega), zB (by omega) (by omega)]; by_cases h : x = 0 <;> simp [zC6, okL, h, ja]
theorem zMZ (n : Int) (l : List Int) (hn : 1 ≤ n) (hn' : n ≤ 8) (hl : l.length < 1000000000) :
  ∀ i, i ≤ l.length → R zB6 [tI n, tLI l, tI (l.length : Int), tI (i : Int)] = some (if (l.drop i).all (okL n) then [tI 0] else [tI 1, tB false]) := by
 refine zb _ ?_ (fun i hi ih => ?_)
 · apply zGY; simp [zCG]
 · apply zGY; rw [List.drop_eq_getElem_cons hi, List.all_cons]; simp (disch := omega) only [zCG, decide_eq_true, cond_true, Bool.and_true, Int.toNat_natCast, zB, zBi hi, zOH _ n hn hn', Option.bind_some, getTV_here]; rw [show (i : Int) + 1 = ((i + 1 : Nat) : Int) by omega, ih]
   cases okL n l[i] <;> simp
theorem zPw (b : Int × List Int) (hl : b.2.length < 1000000000) : R zDt [jE b] = some [tB (isBr b)] := by
 apply zNg; simp only [zGK, zID, Option.bind_some, getTV_here]
 by_cases h1 : (1 ≤ b.1 ∧ b.1 ≤ 8)
 · by_cases h2 : b.2.length ≤ 200
   · have h := zMZ b.1 b.2 h1.1 h1.2 hl 0 (Nat.zero_le _); simp only [Int.natCast_zero, List.drop_zero] at h; have h3 : ¬ ((200 : Int) < (b.2.length : Int)) := by omega
     simp only [h1, decide_true, Bool.and_self, Bool.not_true, cond_false, h3, decide_false, h, Option.bind_some]; by_cases h4 : b.2.all (okL b.1) <;> simp [isBr, h1, h2, h4]
   · have h3 : ((200 : Int) < (b.2.length : Int)) := by omega
     have : isBr b = false := by simp [isBr, h2]
     simp [h1, h3, this]
 · have : isBr b = false := by
    simp only [isBr, Bool.and_eq_false_iff, decide_eq_false_iff_not]; omega
   have e1 : (decide (1 ≤ b.1) && decide (b.1 ≤ 8)) = false := by simp; omega
   simp [e1, this]
end Go.Ev.YtknhngnhjdpedaaGreat
namespace Go.Ev.YtknhngnhjdpedaaGreat
open Go.Ev
end Go.Ev.YtknhngnhjdpedaaGreat
namespace Go.Ev.YtknhngnhjdpedaaGreat
open Go.Ev
end Go.Ev.YtknhngnhjdpedaaGreat
namespace Go.Ev
open Go.Gar
def A8 (n : Nat) (f : Nat → Nat) : List Int := (List.range 8).map fun x => if x < n then (f x : Int) else 0
theorem zA3 (n : Nat) (f : Nat → Nat) : (A8 n f).length = 8 := by simp [A8]
theorem A8_get? (n : Nat) (f : Nat → Nat) {x : Nat} (h : x < 8) : (A8 n f)[x]? = some (if x < n then (f x : Int) else 0) := by
 simp [A8, h]
theorem jQ {n : Nat} {f : Nat → Nat} {x : Nat} (hx : x < n) (hn : n ≤ 8) : List.getD (A8 n f) x 0 = (f x : Int) := by
 rw [List.getD_eq_getElem?_getD, A8_get? n f (by omega), if_pos hx]
 rfl
theorem zTZ {n : Nat} {f : Nat → Nat} {x : Nat} (hx : n ≤ x) : List.getD (A8 n f) x 0 = 0 := by
 rw [List.getD_eq_getElem?_getD]
 by_cases h : x < 8
 · rw [A8_get? n f h, if_neg (by omega)]
   rfl
 · rw [List.getElem?_eq_none (by rw [zA3]; omega)]
   rfl
theorem zQV {l m : List Int} (h1 : l.length = 8) (h2 : m.length = 8) (h : ∀ x, x < 8 → l[x]? = m[x]?) : l = m := by
 apply List.ext_getElem?; intro x
 by_cases hx : x < 8
 · exact h x hx
 · rw [List.getElem?_eq_none (by omega), List.getElem?_eq_none (by omega)]
theorem zF {n : Nat} {f g : Nat → Nat} (h : ∀ x, x < n → f x = g x) : A8 n f = A8 n g := by
 apply zQV (zA3 n f) (zA3 n g); intro x hx; rw [A8_get? n f hx, A8_get? n g hx]
 by_cases h1 : x < n
 · rw [if_pos h1, if_pos h1, h x h1]
 · rw [if_neg h1, if_neg h1]
theorem zNU {n : Nat} {f g : Nat → Nat} (hn : n ≤ 8) (h : A8 n f = A8 n g) : ∀ x, x < n → f x = g x := by
 intro x hx; have h1 := jQ (f := f) hx hn; rw [h, jQ hx hn] at h1; omega
theorem zAy {n : Nat} {f : Nat → Nat} {k v : Nat} (hk : k < n) (hn : n ≤ 8) : List.set (A8 n f) k (v : Int) = A8 n (fun x => if x = k then v else f x) := by
 apply zQV (by rw [List.length_set, zA3]) (zA3 _ _); intro x hx; have e1 := A8_get? n f hx; have e2 := A8_get? n (fun x => if x = k then v else f x) hx; rw [List.getElem?_set, e1, e2, zA3]
 by_cases h1 : k = x
 · subst h1; simp [hk, hx]
 · have h2 : ¬ x = k := fun h => h1 h.symm; simp [h1, h2]
theorem zAI (n : Nat) : List.replicate 8 (0 : Int) = A8 n (fun _ => 0) := by
 apply zQV (by simp) (zA3 _ _); intro x hx; rw [A8_get? n _ hx, List.getElem?_replicate, if_pos hx]; split <;> rfl
def sA {n : Nat} (s : Pm n) : List Int := A8 n s.f
theorem zRE {n : Nat} (s : Pm n) : (sA s).length = 8 := zA3 _ _
theorem zGb {n : Nat} {s : Pm n} {x : Nat} (hx : x < n) (hn : n ≤ 8) : List.getD (sA s) x 0 = (s.f x : Int) := jQ hx hn
theorem zQI {x : Int} (h1 : 0 ≤ x) (h2 : x < 18446744073709551616) : IntKind.wrap .u64 x = x := by
 simp only [IntKind.wrap, IntKind.bits, IntKind.signed, Bool.false_and, Bool.false_eq_true, if_false]; omega
end Go.Ev
namespace Go.Ev
open Go.Gar
theorem zR1 {n : Nat} {f : Nat → Nat} (hlt : ∀ x, x < n → f x < n) (hinj : ∀ x y, x < n → y < n → f x = f y → x = y) : ∃ s : Pm n, ∀ x, x < n → s.f x = f x := by
 have hs : ∀ y, y < n → ∃ x, x < n ∧ f x = y := by
  intro y hy; apply Classical.byContradiction; intro hne; have h1 : ((List.range n).map f).Nodup := by
   rw [List.nodup_iff_pairwise_ne, List.pairwise_map]; refine List.Pairwise.imp_of_mem ?_ (List.nodup_iff_pairwise_ne.1 (List.nodup_range (n := n))); intro a b ha hb hab he; exact hab (hinj a b (List.mem_range.1 ha) (List.mem_range.1 hb) he)
  have h2 : (y :: (List.range n).map f).Nodup := by
   rw [List.nodup_cons]; refine ⟨fun h => ?_, h1⟩; obtain ⟨x, hx, he⟩ := List.mem_map.1 h; exact hne ⟨x, List.mem_range.1 hx, he⟩
  have h3 : y :: (List.range n).map f ⊆ List.range n := by
   intro z hz
   rcases List.mem_cons.1 hz with rfl | hz
   · exact List.mem_range.2 hy
   · obtain ⟨x, hx, rfl⟩ := List.mem_map.1 hz; exact List.mem_range.2 (hlt x (List.mem_range.1 hx))
  have := List.Nodup.length_le_of_subset h2 h3; simp only [List.length_cons, List.length_map, List.length_range] at this; omega
 refine ⟨⟨fun x => if x < n then f x else x, fun y => if h : y < n then (hs y h).choose else y, fun x => ?_, fun y => ?_, fun x hx => if_neg (by omega)⟩, fun x hx => if_pos hx⟩
 · by_cases hx : x < n
   · simp only [if_pos hx, dif_pos (hlt x hx)]; have := (hs (f x) (hlt x hx)).choose_spec; exact hinj _ _ this.1 hx this.2
   · simp only [if_neg hx, dif_neg hx]
 · by_cases hy : y < n
   · simp only [dif_pos hy]; have := (hs y hy).choose_spec; simp only [if_pos this.1, this.2]
   · simp only [dif_neg hy, if_neg hy]
def B8 (a : List Int) : Prop := a.length = 8 ∧ ∀ y ∈ a, 0 ≤ y ∧ y ≤ 255
theorem B8.at {a : List Int} (h : B8 a) {i : Nat} (hi : i < 8) : List.getD a i 0 = a[i]'(by rw [h.1]; exact hi) ∧ 0 ≤ List.getD a i 0 ∧ List.getD a i 0 ≤ 255 := by
 have e : List.getD a i 0 = a[i]'(by rw [h.1]; exact hi) := by simp [List.getD_eq_getElem?_getD, List.getElem?_eq_getElem (show i < a.length by rw [h.1]; exact hi)]
 refine ⟨e, ?_⟩; rw [e]; exact h.2 _ (List.getElem_mem _)
theorem zOs {n : Nat} (hn : n ≤ 8) (s : Pm n) : B8 (sA s) := by
 refine ⟨zRE s, fun y hy => ?_⟩; simp only [sA, A8, List.mem_map, List.mem_range] at hy; obtain ⟨x, hx, rfl⟩ := hy
 split
 · rename_i h; have := s.lt h; omega
 · omega
def chk (n : Nat) (a : List Int) : Nat → List Bool → Bool
 | 0, _ => true
 | k + 1, met =>
  if n ≤ 7 - k then (List.getD a (7 - k) 0 == 0) && chk n a k met
  else decide (List.getD a (7 - k) 0 < (n : Int)) && !(List.getD met (List.getD a (7 - k) 0).toNat false) && chk n a k (met.set (List.getD a (7 - k) 0).toNat true)
theorem zMD {n : Nat} (hn : n ≤ 8) {a : List Int} (ha : B8 a) : ∀ (k : Nat) (met : List Bool), k ≤ 8 → met.length = 8 →
  (chk n a k met = true ↔ ∀ y, 8 - k ≤ y → y < 8 → (n ≤ y → List.getD a y 0 = 0) ∧ (y < n → List.getD a y 0 < n ∧ List.getD met (List.getD a y 0).toNat false = false ∧ ∀ z, 8 - k ≤ z → z < y → List.getD a z 0 ≠ List.getD a y 0))
 | 0, met, _, _ => by
  simp only [chk, true_iff]; intro y h1 h2; omega
 | k + 1, met, hk, hm => by
  have e : 8 - (k + 1) = 7 - k := by omega
  rw [e]; unfold chk; have hx : 7 - k < 8 := by omega
  by_cases h : n ≤ 7 - k
  · rw [if_pos h, Bool.and_eq_true, zMD hn ha k met (by omega) hm, beq_iff_eq]
    constructor
    · rintro ⟨h1, h2⟩ y hy1 hy2
      by_cases h3 : y = 7 - k
      · subst h3; exact ⟨fun _ => h1, fun h4 => by omega⟩
      · obtain ⟨q1, q2⟩ := h2 y (by omega) hy2; exact ⟨q1, fun h4 => by omega⟩
    · intro h2; refine ⟨(h2 (7 - k) (by omega) hx).1 h, fun y hy1 hy2 => ?_⟩; obtain ⟨q1, q2⟩ := h2 y (by omega) hy2; exact ⟨q1, fun h4 => by omega⟩
  · rw [if_neg h, Bool.and_eq_true, Bool.and_eq_true, zMD hn ha k _ (by omega) (by simp [hm]), decide_eq_true_eq, Bool.not_eq_true']; have hset : ∀ (u v : Int), 0 ≤ u → u < n → 0 ≤ v → (List.getD (met.set u.toNat true) v.toNat false = false ↔ List.getD met v.toNat false = false ∧ u ≠ v) := by
     intro u v hu hu' hv; rw [List.getD_eq_getElem?_getD, List.getD_eq_getElem?_getD, List.getElem?_set]
     by_cases h5 : u.toNat = v.toNat
     · have : u = v := by omega
       rw [if_pos h5, if_pos (by omega)]; simp [this]
     · have : u ≠ v := fun h => h5 (by rw [h])
       rw [if_neg h5]; simp [this]
    have hb := (ha.at hx).2
    constructor
    · rintro ⟨⟨h1, h2⟩, h3⟩ y hy1 hy2
      by_cases h4 : y = 7 - k
      · subst h4; exact ⟨fun h5 => by omega, fun _ => ⟨h1, h2, fun z hz1 hz2 => by omega⟩⟩
      · obtain ⟨q1, q2⟩ := h3 y (by omega) hy2; refine ⟨q1, fun h5 => ?_⟩; obtain ⟨r1, r2, r3⟩ := q2 h5; have r4 := (hset _ _ hb.1 h1 (ha.at hy2).2.1).1 r2; refine ⟨r1, r4.1, fun z hz1 hz2 => ?_⟩
        by_cases h6 : z = 7 - k
        · subst h6; exact r4.2
        · exact r3 z (by omega) hz2
    · intro h3; obtain ⟨q1, q2⟩ := h3 (7 - k) (by omega) hx; obtain ⟨r1, r2, _⟩ := q2 (by omega); refine ⟨⟨r1, r2⟩, fun y hy1 hy2 => ?_⟩; obtain ⟨s1, s2⟩ := h3 y (by omega) hy2; refine ⟨s1, fun h5 => ?_⟩; obtain ⟨t1, t2, t3⟩ := s2 h5; exact ⟨t1, (hset _ _ hb.1 r1 (ha.at hy2).2.1).2 ⟨t2, t3 (7 - k) (by omega) (by omega)⟩, fun z hz1 hz2 => t3 z (by omega) hz2⟩
theorem zPs {n : Nat} (hn : n ≤ 8) {a : List Int} (ha : B8 a) : chk n a 8 (List.replicate 8 false) = true ↔ ∃ s : Pm n, a = sA s := by
 rw [zMD hn ha 8 _ (by omega) (by simp)]
 constructor
 · intro h; have hlt : ∀ x, x < n → (List.getD a x 0).toNat < n := by
    intro x hx; have h1 := ((h x (by omega) (by omega)).2 hx).1; have := (ha.at (show x < 8 by omega)).2; omega
   have hne : ∀ x y, x < y → y < n → List.getD a x 0 ≠ List.getD a y 0 := fun x y hxy hy => ((h y (by omega) (by omega)).2 hy).2.2 x (by omega) hxy
   obtain ⟨s, hs⟩ := zR1 (f := fun x => (List.getD a x 0).toNat) hlt (by
    intro x y hx hy he; have b1 := (ha.at (show x < 8 by omega)).2; have b2 := (ha.at (show y < 8 by omega)).2; have e : List.getD a x 0 = List.getD a y 0 := by
     have he' : (List.getD a x 0).toNat = (List.getD a y 0).toNat := he; omega
    rcases Nat.lt_trichotomy x y with h1 | h1 | h1
    · exact (hne x y h1 hy e).elim
    · exact h1
    · exact (hne y x h1 hx e.symm).elim)
   refine ⟨s, ?_⟩; apply zQV ha.1 (zRE s); intro x hx; have e := ha.at hx; rw [sA, A8_get? n s.f hx, List.getElem?_eq_getElem (by rw [ha.1]; exact hx), ← e.1]
   by_cases h1 : x < n
   · rw [if_pos h1, hs x h1]; congr 1; have := e.2; omega
   · rw [if_neg h1, (h x (by omega) hx).1 (by omega)]
 · rintro ⟨s, rfl⟩ y _ hy; refine ⟨fun h => zTZ h, fun h => ?_⟩; rw [zGb h hn]; have := s.lt h
   refine ⟨by omega, ?_, fun z _ hz => ?_⟩
   · rw [Int.toNat_natCast, List.getD_eq_getElem?_getD, List.getElem?_replicate, if_pos (by omega)]
     rfl
   · rw [zGb (by omega) hn]; intro he; have := s.inj (show s.f z = s.f y by omega); omega
end Go.Ev
namespace Go.Ev.YtknhngnhjdpedaaGreat
open Go.Ev
def invL (w : List Int) : List Int := w.reverse.map fun x => -x
def Lr (n : Nat) (x : Int) : Prop := x ≠ 0 ∧ 1 - (n : Int) ≤ x ∧ x ≤ (n : Int) - 1
theorem Lr.neg {n : Nat} {x : Int} (h : Lr n x) : Lr n (-x) := by unfold Lr at *; omega
inductive BE (n : Nat) : List Int → List Int → Prop
 | re (w : List Int) : BE n w w
 | sy {a b : List Int} : BE n a b → BE n b a
 | tr {a b c : List Int} : BE n a b → BE n b c → BE n a c
 | fr (u v : List Int) (x : Int) (h : Lr n x) : BE n (u ++ x :: -x :: v) (u ++ v)
 | fa (u v : List Int) (i j : Nat) (h : i + 2 ≤ j) (hj : j + 1 < n) : BE n (u ++ ((i + 1 : Nat) : Int) :: ((j + 1 : Nat) : Int) :: v) (u ++ ((j + 1 : Nat) : Int) :: ((i + 1 : Nat) : Int) :: v)
 | br (u v : List Int) (i : Nat) (h : i + 2 < n) : BE n (u ++ ((i + 1 : Nat) : Int) :: ((i + 2 : Nat) : Int) :: ((i + 1 : Nat) : Int) :: v) (u ++ ((i + 2 : Nat) : Int) :: ((i + 1 : Nat) : Int) :: ((i + 2 : Nat) : Int) :: v)
theorem BE.ctx {n : Nat} {a b : List Int} (h : BE n a b) (p q : List Int) : BE n (p ++ (a ++ q)) (p ++ (b ++ q)) := by
 induction h with
 | re w => exact .re _
 | sy _ ih => exact ih.sy
 | tr _ _ i1 i2 => exact i1.tr i2
 | fr u v x hx =>
  have := BE.fr (p ++ u) (v ++ q) x hx; simp only [List.append_assoc, List.cons_append] at this ⊢; exact this
 | fa u v i j h hj =>
  have := BE.fa (p ++ u) (v ++ q) i j h hj; simp only [List.append_assoc, List.cons_append] at this ⊢; exact this
 | br u v i h =>
  have := BE.br (p ++ u) (v ++ q) i h; simp only [List.append_assoc, List.cons_append] at this ⊢; exact this
theorem BE.left {n : Nat} {a b : List Int} (h : BE n a b) (p : List Int) : BE n (p ++ a) (p ++ b) := by
 have := h.ctx p []; simpa using this
theorem BE.right {n : Nat} {a b : List Int} (h : BE n a b) (q : List Int) : BE n (a ++ q) (b ++ q) := by
 have := h.ctx [] q; simpa using this
theorem BE.frL {n : Nat} {x : Int} (h : Lr n x) (w : List Int) : BE n (x :: -x :: w) w := .fr [] w x h
theorem BE.fold {n : Nat} {α : Type} {f : α → Int → α} {P : α → Prop} (hP : ∀ s x, P s → P (f s x)) (h1 : ∀ s x, P s → Lr n x → f (f s x) (-x) = s)
  (h2 : ∀ s (i j : Nat), P s → i + 2 ≤ j → j + 1 < n → f (f s ((i + 1 : Nat) : Int)) ((j + 1 : Nat) : Int) = f (f s ((j + 1 : Nat) : Int)) ((i + 1 : Nat) : Int))
  (h3 : ∀ s (i : Nat), P s → i + 2 < n → f (f (f s ((i + 1 : Nat) : Int)) ((i + 2 : Nat) : Int)) ((i + 1 : Nat) : Int) = f (f (f s ((i + 2 : Nat) : Int)) ((i + 1 : Nat) : Int)) ((i + 2 : Nat) : Int))
  {a b : List Int} (h : BE n a b) : ∀ s, P s → a.foldl f s = b.foldl f s := by
 have hf : ∀ (u : List Int) s, P s → P (u.foldl f s) := by
  intro u
  induction u with
  | nil => intro s h; exact h
  | cons x u ih => intro s h; exact ih _ (hP s x h)
 induction h with
 | re w => intro s _; rfl
 | sy _ ih => intro s hs; exact (ih s hs).symm
 | tr _ _ i1 i2 => intro s hs; exact (i1 s hs).trans (i2 s hs)
 | fr u v x hx =>
  intro s hs; rw [List.foldl_append, List.foldl_append]; show v.foldl f (f (f (u.foldl f s) x) (-x)) = _; rw [h1 _ x (hf u s hs) hx]
 | fa u v i j hh hj =>
  intro s hs; rw [List.foldl_append, List.foldl_append]; show v.foldl f (f (f (u.foldl f s) _) _) = v.foldl f (f (f (u.foldl f s) _) _); rw [h2 _ i j (hf u s hs) hh hj]
 | br u v i hh =>
  intro s hs; rw [List.foldl_append, List.foldl_append]; show v.foldl f (f (f (f (u.foldl f s) _) _) _) = v.foldl f (f (f (f (u.foldl f s) _) _) _); rw [h3 _ i (hf u s hs) hh]
theorem zPV (x : Int) (w : List Int) : invL (x :: w) = invL w ++ [-x] := by simp [invL]
theorem BE.inv_r {n : Nat} : ∀ (w : List Int), (∀ x ∈ w, Lr n x) → BE n (w ++ invL w) []
 | [], _ => .re _
 | x :: w, h => by
  have hx := h x List.mem_cons_self; have ih := (BE.inv_r w (fun y hy => h y (List.mem_cons_of_mem _ hy))).ctx [x] [-x]; rw [zPV]; have e : x :: w ++ (invL w ++ [-x]) = [x] ++ (w ++ invL w ++ [-x]) := by simp
  rw [e]; exact ih.tr (BE.frL hx [])
theorem zPU (w : List Int) : invL (invL w) = w := by
 simp only [invL, List.map_reverse, List.reverse_reverse, List.map_map]; have : ((fun x : Int => -x) ∘ fun x => -x) = id := by funext x; simp
 rw [this, List.map_id]
theorem zLx {n : Nat} {w : List Int} (h : ∀ x ∈ w, Lr n x) : ∀ x ∈ invL w, Lr n x := fun x hx => by
 simp only [invL, List.mem_map, List.mem_reverse] at hx; obtain ⟨y, hy, rfl⟩ := hx; exact (h y hy).neg
theorem BE.inv_l {n : Nat} (w : List Int) (h : ∀ x ∈ w, Lr n x) : BE n (invL w ++ w) [] := by
 have := BE.inv_r (invL w) (zLx h); rw [zPU] at this; exact this
theorem BE.inv {n : Nat} {a b : List Int} (h : BE n a b) (ha : ∀ x ∈ a, Lr n x) (hb : ∀ x ∈ b, Lr n x) : BE n (invL a) (invL b) := by
 have s1 : BE n (invL a) (invL a ++ (b ++ invL b)) := by
  have := (BE.inv_r b hb).sy.left (invL a); simpa using this
 have s2 : BE n (invL a ++ (b ++ invL b)) (invL a ++ (a ++ invL b)) := h.sy.ctx _ _; have s3 : BE n (invL a ++ (a ++ invL b)) (invL b) := by
  have := (BE.inv_l a ha).right (invL b); simpa using this
 exact s1.tr (s2.tr s3)
end Go.Ev.YtknhngnhjdpedaaGreat
namespace Go.Ev.YtknhngnhjdpedaaGreat
open Go.Ev
theorem zKz {α β : Type} {f : α → List β} {n : Nat} (hf : ∀ a, (f a).length = n) : ∀ (xs : List α) (i j : Nat), j < n → (xs.flatMap f)[i * n + j]? = (xs[i]?).bind fun a => (f a)[j]?
 | [], i, j, _ => by simp
 | a :: xs, 0, j, hj => by
  rw [List.flatMap_cons, List.getElem?_append_left (by rw [hf]; omega)]; simp
 | a :: xs, i + 1, j, hj => by
  rw [List.flatMap_cons, List.getElem?_append_right (by rw [hf]; rw [Nat.add_mul]; omega), hf]; rw [show (i + 1) * n + j - n = i * n + j by rw [Nat.add_mul]; omega, zKz hf xs i j hj]; simp
theorem zKl {α : Type} (xs : List α) {i j : Nat} (hi : i < xs.length) (hj : j < xs.length) : (pairsOf xs)[i * xs.length + j]? = some (xs[i], xs[j]) := by
 unfold pairsOf; rw [zKz (n := xs.length) (fun a => by simp) xs i j hj, List.getElem?_eq_getElem hi]; simp [List.getElem?_eq_getElem hj]
theorem zK6 {α : Type} {call : Oracle} {cmp : Nat} {t : Ty} (k : List Int → Option α) (cf : t.den → t.den → Int) : ∀ (r : List (t.den × t.den)) (acc : List Int),
  (∀ p ∈ r, call cmp [⟨t, p.1⟩, ⟨t, p.2⟩] = some [⟨.int .i64, cf p.1 p.2⟩]) → cmpsK call cmp t k r acc = k (acc ++ r.map fun p => cf p.1 p.2)
 | [], acc, _ => by simp [cmpsK]
 | p :: r, acc, h => by
  simp only [cmpsK, h p (by simp), Option.bind_some, cmpOut]; rw [zK6 k cf r _ (fun q hq => h q (by simp [hq]))]; simp
theorem zHj {α : Type} {xs : List α} {p : α × α} (h : p ∈ pairsOf xs) : p.1 ∈ xs ∧ p.2 ∈ xs := by
 simp only [pairsOf, List.mem_flatMap, List.mem_map] at h; obtain ⟨a, ha, b, hb, rfl⟩ := h; exact ⟨ha, hb⟩
theorem zPf {α : Type} (a : Array α) {n : Nat} (h : a.size = n) : a.extract 0 n = a := by
 subst h; simp
theorem zQO {call : Oracle} {cmp : Nat} {t : Ty} (cf : t.den → t.den → Int) (xs : List t.den) (hl : xs.length ≤ 549755813888)
  (hc : ∀ a ∈ xs, ∀ b ∈ xs, call cmp [⟨t, a⟩, ⟨t, b⟩] = some [⟨.int .i64, cf a b⟩]) (h1 : ∀ a ∈ xs, ¬ cf a a < 0)
  (h2 : ∀ a ∈ xs, ∀ b ∈ xs, ∀ c ∈ xs, cf a b < 0 → cf b c < 0 → cf a c < 0) (h3 : ∀ a ∈ xs, ∀ b ∈ xs, ∀ c ∈ xs, ¬ cf a b < 0 → ¬ cf b c < 0 → ¬ cf a c < 0) :
  ∃ ys, sortE call cmp t xs = some [⟨.slice t, ys⟩] ∧ ys.Perm xs ∧ ys.Pairwise (fun a b => ¬ cf b a < 0) := by
 cases xs with
 | nil => exact ⟨[], rfl, .nil, .nil⟩
 | cons x r =>
  have hlim : r.length < lim := by simp only [List.length_cons] at hl; simp only [lim]; omega
  simp only [sortE, if_pos hlim]; rw [zK6 _ cf _ _ (fun p hp => hc _ (zHj hp).1 _ (zHj hp).2)]; simp only [List.nil_append]; generalize hcs : ((pairsOf (x :: r)).map fun p => cf p.1 p.2) = cs; have hcf : ∀ i j : Fin (r.length + 1), cfC (r.length + 1) cs i j = cf (x :: r)[i.val] (x :: r)[j.val] := by
   intro i j; have := zKl (x :: r) (i := i.val) (j := j.val) i.isLt j.isLt; simp only [List.length_cons] at this; rw [cfC, ← hcs, List.getD_eq_getElem?_getD, List.getElem?_map, this]
   rfl
  have hm : ∀ i : Fin (r.length + 1), (x :: r)[i.val] ∈ x :: r := fun i => List.getElem_mem _; have hO : Sort.SWO (ltC (r.length + 1) cs) := by
   refine ⟨fun i => ?_, fun i j k a b => ?_, fun i j k a b => ?_⟩
   · simp only [ltC, hcf, decide_eq_false_iff_not]; exact h1 _ (hm i)
   · simp only [ltC, hcf, decide_eq_true_eq] at a b ⊢; exact h2 _ (hm i) _ (hm j) _ (hm k) a b
   · simp only [ltC, hcf, decide_eq_false_iff_not] at a b ⊢; exact h3 _ (hm i) _ (hm j) _ (hm k) a b
  have hsw : swoB (ltC (r.length + 1) cs) = true := by
   simp only [swoB, Bool.and_eq_true, decide_eq_true_eq]; exact ⟨⟨hO.irrefl, hO.trans⟩, hO.ntrans⟩
  rw [if_pos hsw]; refine ⟨_, rfl, ?_⟩; have hds : (Array.ofFn fun i : Fin (r.length + 1) => i).size = r.length + 1 := by simp
  obtain ⟨⟨p1, p2, p3⟩, hs⟩ := Go.Sort.pdq_sorts (ltC (r.length + 1) cs) hO (Array.ofFn fun i : Fin (r.length + 1) => i) 0 (r.length + 1) (Lib.bitLen (r.length + 1)) true true (Nat.zero_le _) (by rw [hds]; exact Nat.le_refl _) (Or.inl rfl)
  change (sortBy (ltC (r.length + 1) cs)).size = _ at p1
  change ((sortBy (ltC (r.length + 1) cs)).extract 0 (r.length + 1)).toList.Perm _ at p3
  change Sort.SortedIn _ 0 _ (sortBy (ltC (r.length + 1) cs)) at hs
  generalize sortBy (ltC (r.length + 1) cs) = out at p1 p3 hs; rw [hds] at p1; rw [zPf out p1, zPf _ hds] at p3; have e3 : ((Array.ofFn fun i : Fin (r.length + 1) => i).toList.map fun i => (x :: r).getD i.val x) = x :: r := by
   apply List.ext_getElem
   · simp
   · intro i a b; simp only [List.length_map, Array.length_toList, hds] at a; have a' : i < (x :: r).length := a; simp only [List.getElem_map, Array.getElem_toList, Array.getElem_ofFn, List.getD_eq_getElem?_getD, List.getElem?_eq_getElem a', Option.getD_some]
  refine ⟨?_, ?_⟩
  · have := p3.map fun i => (x :: r).getD i.val x; rwa [e3] at this
  · rw [List.pairwise_iff_getElem]; intro i j hi hj hij; simp only [List.length_map, Array.length_toList] at hi hj; have := hs i j (Nat.zero_le _) hij (by omega); rw [getElem!_pos out i hi, getElem!_pos out j hj] at this; simp only [ltC, hcf, decide_eq_false_iff_not] at this; have g : ∀ q : Fin (r.length + 1), (x :: r).getD q.val x = (x :: r)[q.val] := by
     intro q; have hq : q.val < (x :: r).length := q.isLt; simp only [List.getD_eq_getElem?_getD, List.getElem?_eq_getElem hq, Option.getD_some]
    simp only [List.getElem_map, Array.getElem_toList, g]; exact this
end Go.Ev.YtknhngnhjdpedaaGreat
namespace Go.Ev.YtknhngnhjdpedaaGreat
open Go.Ev Go.Gar
def bef : List Int → List Int → Bool
 | a :: p, b :: q => if a = b then bef p q else decide (a < b)
 | _, _ => false
def cmpL : List Int → List Int → Int
 | a :: p, b :: q => if a < b then -1 else if b < a then 1 else cmpL p q
 | _, _ => 0
theorem zFV : ∀ p q : List Int, (cmpL p q < 0) = (bef p q = true)
 | [], [] => by simp [cmpL, bef]
 | [], _ :: _ => by simp [cmpL, bef]
 | _ :: _, [] => by simp [cmpL, bef]
 | a :: p, b :: q => by
  simp only [cmpL, bef]
  by_cases h1 : a < b
  · rw [if_pos h1, if_neg (by omega), decide_eq_true h1]; simp
  · rw [if_neg h1]
    by_cases h2 : b < a
    · rw [if_pos h2, if_neg (by omega), decide_eq_false h1]; simp
    · rw [if_neg h2, if_pos (by omega)]; exact zFV p q
theorem zKD : ∀ p : List Int, bef p p = false
 | [] => rfl
 | a :: p => by simp only [bef, if_true]; exact zKD p
theorem zDl : ∀ {p q r : List Int}, p.length = q.length → q.length = r.length → bef p q = true → bef q r = true → bef p r = true
 | [], _, _, _, _, h, _ => by simp [bef] at h
 | a :: p, [], _, _, _, h, _ => by simp [bef] at h
 | a :: p, b :: q, [], _, _, _, h => by simp [bef] at h
 | a :: p, b :: q, c :: r, l1, l2, h1, h2 => by
  simp only [bef] at h1 h2 ⊢; simp only [List.length_cons] at l1 l2
  by_cases e1 : a = b
  · subst e1; rw [if_pos rfl] at h1
    by_cases e2 : a = c
    · subst e2; rw [if_pos rfl] at h2; rw [if_pos rfl]; exact zDl (by omega) (by omega) h1 h2
    · rw [if_neg e2] at h2 ⊢; exact h2
  · rw [if_neg e1] at h1; simp only [decide_eq_true_eq] at h1
    by_cases e2 : b = c
    · subst e2; rw [if_neg e1]; simpa using h1
    · rw [if_neg e2] at h2; simp only [decide_eq_true_eq] at h2; rw [if_neg (by omega)]; simp only [decide_eq_true_eq]; omega
theorem zFh : ∀ {p q : List Int}, p.length = q.length → bef p q = false → bef q p = false → p = q
 | [], [], _, _, _ => rfl
 | a :: p, b :: q, l, h1, h2 => by
  simp only [bef] at h1 h2; simp only [List.length_cons] at l
  by_cases e : a = b
  · subst e; rw [if_pos rfl] at h1 h2; rw [zFh (by omega) h1 h2]
  · rw [if_neg e] at h1; rw [if_neg (Ne.symm e)] at h2; simp only [decide_eq_false_iff_not] at h1 h2; omega
 | [], _ :: _, l, _, _ => by simp at l
 | _ :: _, [], l, _, _ => by simp at l
theorem zOT {p q r : List Int} (l1 : p.length = q.length) (l2 : q.length = r.length) (h1 : ¬ bef p q = true) (h2 : ¬ bef q r = true) : ¬ bef p r = true := by
 intro h
 by_cases e : bef q p = true
 · exact h2 (zDl l1.symm (by omega) e h)
 · have := zFh l1 (by simpa using h1) (by simpa using e); subst this; exact h2 h
theorem zDu {x : List Int} (h : x.length = 8) {i : Nat} (hi : i < 8) : x.drop i = List.getD x i 0 :: x.drop (i + 1) := by
 rw [List.drop_eq_getElem_cons (by omega), List.getD_eq_getElem?_getD, List.getElem?_eq_getElem (by omega)]
 rfl
theorem zLd {α : Type} (f : α → Bool) : ∀ L : List α, L.take (L.takeWhile f).length = L.takeWhile f ∧ L.drop (L.takeWhile f).length = L.dropWhile f
 | [] => ⟨rfl, rfl⟩
 | a :: L => by
  simp only [List.takeWhile_cons, List.dropWhile_cons]
  cases f a with
  | true => exact ⟨by simp [(zLd f L).1], by simp [(zLd f L).2]⟩
  | false => exact ⟨rfl, rfl⟩
theorem zTc {α : Type} (f : α → Bool) (L : List α) : (L.takeWhile f).length ≤ L.length := (List.takeWhile_sublist _).length_le
theorem zPv (a : Int) : R icmp_isNaN_byte_ [tU8 a] = some [tB false] := by
 apply zGv; simp [bcmp_isNaN_byte_]
theorem zSR (a b : Int) : R icmp_Compare_byte_ [tU8 a, tU8 b] = some [tI (if a < b then -1 else if b < a then 1 else 0)] := by
 apply zE1; simp only [bcmp_Compare_byte_, zPv, Option.bind_some, getTV_here, cond_false]
 by_cases h1 : a < b
 · simp only [decide_eq_true h1, cond_true, if_pos h1]
 · by_cases h2 : b < a
   · simp only [decide_eq_false h1, decide_eq_true h2, cond_true, cond_false, if_neg h1, if_pos h2]
   · simp only [decide_eq_false h1, decide_eq_false h2, cond_false, if_neg h1, if_neg h2]
theorem zKA (a b : List Int) (ha : a.length = 8) (hb : b.length = 8) : ∀ i : Nat, i ≤ 8 → R zX [tLU8 a, tLU8 b, tI 8, tI (i : Int)] =
  some (if cmpL (a.drop i) (b.drop i) = 0 then [tI 0, tLU8 a, tLU8 b] else [tI 1, tI (cmpL (a.drop i) (b.drop i))]) := by
 refine zb _ ?_ (fun i hi ih => ?_)
 · apply jD; rw [List.drop_of_length_le (by omega), List.drop_of_length_le (by omega)]; simp [zY, cmpL]
 · apply jD; rw [zDu ha hi, zDu hb hi]; have h1 : ¬ ((8 : Int) ≤ (i : Int)) := by omega
   simp (disch := omega) only [zY, ha, hb, show ((8 : Nat) : Int) = 8 from rfl, decide_eq_true, decide_eq_false h1, cond_true, cond_false, Bool.and_true, Int.toNat_natCast, zSR, Option.bind_some, getTV_here, ja, zB, cmpL]
   by_cases e1 : List.getD a i 0 < List.getD b i 0
   · simp only [if_pos e1]; rfl
   · by_cases e2 : List.getD b i 0 < List.getD a i 0
     · simp only [if_neg e1, if_pos e2]; rfl
     · simp only [if_neg e1, if_neg e2, decide_true, Bool.not_true, cond_false]; rw [show (i : Int) + 1 = ((i + 1 : Nat) : Int) by omega, ih]
theorem zMa (a b : List Int) (ha : a.length = 8) (hb : b.length = 8) : R kH [tLU8 a, tLU8 b] = some [tI (cmpL a b)] := by
 apply zCj; have h := zKA a b ha hb 0 (by omega); simp only [Int.natCast_zero, List.drop_zero] at h; simp only [kL, ha, show ((8 : Nat) : Int) = 8 from rfl, h, Option.bind_some]
 by_cases e : cmpL a b = 0
 · simp [e, ha, hb]
 · simp [e]
end Go.Ev.YtknhngnhjdpedaaGreat
namespace Go.Ev.YtknhngnhjdpedaaGreat
open Go.Ev
def Len8 (L : List (List Int)) : Prop := ∀ x ∈ L, x.length = 8
theorem Len8.at {L : List (List Int)} (h : Len8 L) {i : Nat} (hi : i < L.length) : L[i].length = 8 := h _ (List.getElem_mem hi)
theorem zTh {L : List (List Int)} {i : Nat} {d : List Int} (hi : i < L.length) : List.getD L i d = L[i] := by
 simp [List.getD_eq_getElem?_getD, List.getElem?_eq_getElem hi]
end Go.Ev.YtknhngnhjdpedaaGreat
