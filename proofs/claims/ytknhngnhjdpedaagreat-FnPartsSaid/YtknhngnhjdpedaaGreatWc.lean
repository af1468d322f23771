/- Texts merged: Mx1 Mp19 Mq1 Mq3 Mq4 Mp21 Mq9 Mt2 Mt3 Md0 Md5 MqA Mk6. -/
import Derived.Test.YtknhngnhjdpedaaGreatWa
import Derived.Test.YtknhngnhjdpedaaGreatWb
set_option linter.unusedVariables false
set_option linter.unusedSimpArgs false
namespace Go.Ev.YtknhngnhjdpedaaGreat
open Go.Ev Go.Gar
def Wd (n : Nat) := { w : List Int // ∀ x ∈ w, Lr n x }
def WE (n : Nat) (a b : Wd n) : Prop := BE n a.1 b.1
theorem WE.eqv (n : Nat) : Equivalence (WE n) := ⟨fun a => BE.re a.1, fun h => BE.sy h, fun h h' => BE.tr h h'⟩
instance wdS (n : Nat) : Setoid (Wd n) := ⟨WE n, WE.eqv n⟩
def Bn (n : Nat) := Quotient (wdS n)
theorem zS4 {n : Nat} {u w : List Int} (h : ∀ x ∈ u, Lr n x) (h' : ∀ x ∈ w, Lr n x) : ∀ x ∈ u ++ w, Lr n x := fun x hx => by
 rcases List.mem_append.1 hx with q | q
 · exact h x q
 · exact h' x q
def Bn.mk {n : Nat} (w : List Int) (h : ∀ x ∈ w, Lr n x) : Bn n := Quotient.mk (wdS n) ⟨w, h⟩
theorem Bn.sound {n : Nat} {a b : List Int} {ha : ∀ x ∈ a, Lr n x} {hb : ∀ x ∈ b, Lr n x} (h : BE n a b) : Bn.mk a ha = Bn.mk b hb := Quotient.sound (a := (⟨a, ha⟩ : Wd n)) (b := ⟨b, hb⟩) h
def Bn.mul {n : Nat} (a b : Bn n) : Bn n := Quotient.liftOn₂ a b (fun u v => Bn.mk (u.1 ++ v.1) (zS4 u.2 v.2)) (fun a b c d h h' => Bn.sound ((h.right b.1).tr (h'.left c.1)))
def Bn.inv {n : Nat} (a : Bn n) : Bn n := Quotient.liftOn a (fun u => Bn.mk (invL u.1) (zLx u.2)) (fun a b h => Bn.sound (h.inv a.2 b.2))
instance bnG (n : Nat) : Grp (Bn n) where
 mul := Bn.mul
 one := Bn.mk [] (fun x hx => by simp at hx)
 inv := Bn.inv
 assoc a b c := by
  induction a using Quotient.inductionOn
  induction b using Quotient.inductionOn
  induction c using Quotient.inductionOn
  rename_i a b c; apply Bn.sound; show BE n ((a.1 ++ b.1) ++ c.1) (a.1 ++ (b.1 ++ c.1)); rw [List.append_assoc]; exact BE.re _
 one_mul a := by
  induction a using Quotient.inductionOn
  rename_i a; exact Bn.sound (BE.re _)
 mul_one a := by
  induction a using Quotient.inductionOn
  rename_i a; apply Bn.sound; show BE n (a.1 ++ []) a.1; rw [List.append_nil]; exact BE.re _
 inv_mul a := by
  induction a using Quotient.inductionOn
  rename_i a; exact Bn.sound (BE.inv_l a.1 a.2)
 mul_inv a := by
  induction a using Quotient.inductionOn
  rename_i a; exact Bn.sound (BE.inv_r a.1 a.2)
theorem Bn.mk_inv {n : Nat} {a : List Int} {ha : ∀ x ∈ a, Lr n x} : (Bn.mk a ha)⁻¹ = Bn.mk (invL a) (zLx ha) := rfl
def sg (n p : Nat) : Bn n := if h : p + 1 < n then Bn.mk [((p + 1 : Nat) : Int)] (fun x hx => by rw [List.mem_singleton.1 hx]; unfold Lr; omega) else 1
theorem zLm {n p : Nat} (h : p + 1 < n) : sg n p = Bn.mk [((p + 1 : Nat) : Int)] (fun x hx => by rw [List.mem_singleton.1 hx]; unfold Lr; omega) := dif_pos h
theorem zRD {n p q : Nat} (h : p + 2 ≤ q) : sg n p * sg n q = sg n q * sg n p := by
 by_cases hq : q + 1 < n
 · rw [zLm hq, zLm (show p + 1 < n by omega)]; exact Bn.sound (BE.fa [] [] p q h hq)
 · have : sg n q = 1 := dif_neg hq; rw [this, Grp.mul_one, Grp.one_mul]
theorem zMx {n p : Nat} (h : p + 2 < n) : sg n p * (sg n (p + 1) * sg n p) = sg n (p + 1) * (sg n p * sg n (p + 1)) := by
 rw [zLm (show p + 1 < n by omega), zLm (show p + 1 + 1 < n by omega)]; exact Bn.sound (BE.br [] [] p h)
def bd (n s : Nat) : Nat → Bn n
 | 0 => sg n s
 | d + 1 => sg n (s + d + 1) * (bd n s d * (sg n (s + d + 1))⁻¹)
theorem zHC {G : Type} [Grp G] (g a b : G) : (g * (a * g⁻¹)) * (g * (b * g⁻¹)) = g * (a * b * g⁻¹) := by
 simp only [Grp.assoc, zCZ]
theorem zJy {G : Type} [Grp G] {g a c : G} (h1 : g * c = c * g) (h2 : a * c = c * a) : (g * (a * g⁻¹)) * c = c * (g * (a * g⁻¹)) := by
 have h3 : g⁻¹ * c = c * g⁻¹ := by
  have : g * (g⁻¹ * c) = g * (c * g⁻¹) := by rw [zZ, ← Grp.assoc, h1, Grp.assoc, Grp.mul_inv, Grp.mul_one]
  exact zC5 this
 rw [Grp.assoc, Grp.assoc, h3, ← Grp.assoc a, h2, Grp.assoc c, ← Grp.assoc g, h1, Grp.assoc]
theorem zIS {n s p : Nat} : ∀ (d : Nat), s + d + 2 ≤ p → bd n s d * sg n p = sg n p * bd n s d
 | 0, h => zRD (by omega)
 | d + 1, h => zJy (zRD (by omega)) (zIS d (by omega))
theorem zKE {n s : Nat} : ∀ (d : Nat), s + d + 2 < n → sg n (s + d + 1) * (bd n s d * sg n (s + d + 1)) = bd n s d * (sg n (s + d + 1) * bd n s d)
 | 0, h => (zMx h).symm
 | d + 1, h => by
  have ih := zKE (n := n) (s := s) d (by omega); have hb := zMx (n := n) (p := s + d + 1) (by omega); have hf := zIS (n := n) (s := s) (p := s + d + 2) d (by omega); rw [bd, show s + (d + 1) + 1 = s + d + 2 by omega]; rw [show s + d + 1 + 1 = s + d + 2 by omega] at hb; generalize sg n (s + d + 1) = r at *; generalize sg n (s + d + 2) = t at *; generalize bd n s d = b at *; have e : r * (b * r⁻¹) = b⁻¹ * (r * b) := by
   apply zC5 (a := b); rw [zZ]; have h1 : b * (r * (b * r⁻¹)) = (b * (r * b)) * r⁻¹ := by simp only [Grp.assoc]
   rw [h1, ← ih]; simp only [Grp.assoc, Grp.mul_inv, Grp.mul_one]
  have hf' : t * b⁻¹ = b⁻¹ * t := by
   apply zC5 (a := b); rw [zZ, ← Grp.assoc, hf, Grp.assoc, Grp.mul_inv, Grp.mul_one]
  rw [e]; have l : t * (b⁻¹ * (r * b) * t) = b⁻¹ * (t * (r * t) * b) := by
   have h2 : b * t = t * b := hf; rw [← Grp.assoc t, ← Grp.assoc t, hf']; simp only [Grp.assoc, h2]
  have r' : b⁻¹ * (r * b) * (t * (b⁻¹ * (r * b))) = b⁻¹ * (r * (t * r) * b) := by
   rw [← Grp.assoc t, hf']; simp only [Grp.assoc, zZ]
  rw [l, r', hb]
theorem zNR {n r : Nat} (d : Nat) : ∀ (e : Nat), r + d + 1 + e + 1 < n → bd n (r + d + 1) e * bd n r d = bd n r (d + 1 + e) * bd n (r + d + 1) e ∧ bd n (r + d + 1) e * bd n r d = bd n r d * bd n r (d + 1 + e)
 | 0, h => by
  have hb := zKE (n := n) (s := r) d (by omega); have e1 : bd n r (d + 1 + 0) = sg n (r + d + 1) * (bd n r d * (sg n (r + d + 1))⁻¹) := rfl; have e2 : bd n (r + d + 1) 0 = sg n (r + d + 1) := rfl; rw [e1, e2]; generalize sg n (r + d + 1) = t at *; generalize bd n r d = b at *
  constructor
  · simp only [Grp.assoc, Grp.inv_mul, Grp.mul_one]
  · have h1 : b * (t * (b * t⁻¹)) = (b * (t * b)) * t⁻¹ := by simp only [Grp.assoc]
    rw [h1, ← hb]; simp only [Grp.assoc, Grp.mul_inv, Grp.mul_one]
 | e + 1, h => by
  obtain ⟨i1, i2⟩ := zNR (n := n) (r := r) d e (by omega); have hf := zIS (n := n) (s := r) (p := r + d + 1 + e + 1) d (by omega); have e1 : bd n r (d + 1 + (e + 1)) = sg n (r + d + 1 + e + 1) * (bd n r (d + 1 + e) * (sg n (r + d + 1 + e + 1))⁻¹) := by
   have q : bd n r (d + 1 + e + 1) = sg n (r + (d + 1 + e) + 1) * (bd n r (d + 1 + e) * (sg n (r + (d + 1 + e) + 1))⁻¹) := rfl; rw [show r + (d + 1 + e) + 1 = r + d + 1 + e + 1 by omega] at q; exact q
  have e2 : bd n (r + d + 1) (e + 1) = sg n (r + d + 1 + e + 1) * (bd n (r + d + 1) e * (sg n (r + d + 1 + e + 1))⁻¹) := rfl; rw [e1, e2]; generalize sg n (r + d + 1 + e + 1) = t at *; have hc : bd n r d = t * (bd n r d * t⁻¹) := by
   rw [← Grp.assoc, ← hf, Grp.assoc, Grp.mul_inv, Grp.mul_one]
  constructor
  · have k : t * (bd n (r + d + 1) e * t⁻¹) * bd n r d = t * (bd n (r + d + 1) e * t⁻¹) * (t * (bd n r d * t⁻¹)) := by rw [← hc]
    rw [k, zHC, zHC, i1]
  · have k : t * (bd n (r + d + 1) e * t⁻¹) * bd n r d = t * (bd n (r + d + 1) e * t⁻¹) * (t * (bd n r d * t⁻¹)) := by rw [← hc]
    have k' : bd n r d * (t * (bd n r (d + 1 + e) * t⁻¹)) = (t * (bd n r d * t⁻¹)) * (t * (bd n r (d + 1 + e) * t⁻¹)) := by rw [← hc]
    rw [k, k', zHC, zHC, i2]
theorem zP7 {n p s : Nat} (d : Nat) : ∀ (e : Nat), p + d + 2 ≤ s → bd n s e * bd n p d = bd n p d * bd n s e
 | 0, h => (zIS d (by omega)).symm
 | e + 1, h => zJy (zIS d (by omega)).symm (zP7 d e h)
theorem zP6 {n s p : Nat} (d : Nat) : ∀ (e : Nat), s < p → p + d + 1 < s + e + 1 → s + e + 1 < n → bd n s e * bd n p d = bd n p d * bd n s e
 | 0, h1, h2, _ => by omega
 | e + 1, h1, h2, h3 => by
  by_cases h : p + d + 1 < s + e + 1
  · exact zJy (by
     have := zIS (n := n) (s := p) (p := s + e + 1) d (by omega); exact this.symm) (zP6 d e h1 h (by omega))
  ·
   obtain ⟨f, rfl⟩ : ∃ f, p = s + f + 1 := ⟨p - s - 1, by omega⟩; obtain rfl : e = f + 1 + d := by omega
   obtain ⟨t1, t2⟩ := zNR (n := n) (r := s) f d (by omega); have hb := zKE (n := n) (s := s + f + 1) d (by omega); have hf := zIS (n := n) (s := s) (p := s + f + 1 + d + 1) f (by omega); have e1 : bd n s (f + 1 + d + 1) = sg n (s + f + 1 + d + 1) * (bd n s (f + 1 + d) * (sg n (s + f + 1 + d + 1))⁻¹) := by
    have q : bd n s (f + 1 + d + 1) = sg n (s + (f + 1 + d) + 1) * (bd n s (f + 1 + d) * (sg n (s + (f + 1 + d) + 1))⁻¹) := rfl; rw [show s + (f + 1 + d) + 1 = s + f + 1 + d + 1 by omega] at q; exact q
   rw [e1]; generalize sg n (s + f + 1 + d + 1) = t at *; generalize bd n (s + f + 1) d = a at *; generalize bd n s f = b at *; generalize bd n s (f + 1 + d) = c at *; have hc : c = a * (b * a⁻¹) := by
    have : c * a = a * (b * a⁻¹) * a := by rw [← t1]; simp only [Grp.assoc, Grp.inv_mul, Grp.mul_one]
    have h4 : c * a * a⁻¹ = a * (b * a⁻¹) * a * a⁻¹ := by rw [this]
    simpa only [Grp.assoc, Grp.mul_inv, Grp.mul_one] using h4
   have q1 : a * t * a = t * a * t := by simp only [Grp.assoc]; exact hb.symm
   rw [hc]; have hti : t⁻¹ * a = a * (t * (a⁻¹ * t⁻¹)) := by
    apply zC5 (a := t); rw [zZ]; have : t * (a * (t * (a⁻¹ * t⁻¹))) = (t * (a * t)) * (a⁻¹ * t⁻¹) := by simp only [Grp.assoc]
    rw [this, hb]; simp only [Grp.assoc, zZ, Grp.mul_inv, Grp.mul_one]
   have lhs : t * (a * (b * a⁻¹) * t⁻¹) * a = t * (a * (b * (t * (a⁻¹ * t⁻¹)))) := by
    simp only [Grp.assoc]; rw [hti, zCZ]
   have rhs : a * (t * (a * (b * a⁻¹) * t⁻¹)) = t * (a * (t * (b * (a⁻¹ * t⁻¹)))) := by
    have : a * (t * (a * (b * a⁻¹) * t⁻¹)) = (a * (t * a)) * (b * (a⁻¹ * t⁻¹)) := by simp only [Grp.assoc]
    rw [this, ← hb]; simp only [Grp.assoc]
   rw [lhs, rhs]; have hf2 : b * (t * (a⁻¹ * t⁻¹)) = t * (b * (a⁻¹ * t⁻¹)) := by rw [← Grp.assoc, hf, Grp.assoc]
   rw [hf2]
end Go.Ev.YtknhngnhjdpedaaGreat
namespace Go.Ev.YtknhngnhjdpedaaGreat
open Go.Ev Go.Gar
def trf (a b x : Nat) : Nat := if x = a then b else if x = b then a else x
theorem zRl (a b : Nat) : trf a b a = b := by simp [trf]
theorem zOm (a b : Nat) : trf a b b = a := by unfold trf; by_cases h : b = a <;> simp [h]
theorem zLc {a b x : Nat} (h : x ≠ a) (h' : x ≠ b) : trf a b x = x := by simp [trf, h, h']
theorem zJU (a b x : Nat) : trf a b (trf a b x) = x := by
 by_cases h : x = a
 · rw [h, zRl, zOm]
 · by_cases h' : x = b
   · rw [h', zOm, zRl]
   · rw [zLc h h', zLc h h']
def tau (n a b : Nat) : Pm n := if h : a < n ∧ b < n then ⟨trf a b, trf a b, zJU a b, zJU a b, fun x hx => zLc (by omega) (by omega)⟩ else 1
theorem zSo {n a b : Nat} (ha : a < n) (hb : b < n) (x : Nat) : (tau n a b).f x = trf a b x := by unfold tau; rw [dif_pos ⟨ha, hb⟩]
theorem zSn {n a b : Nat} (ha : a < n) (hb : b < n) (x : Nat) : (tau n a b).g x = trf a b x := by unfold tau; rw [dif_pos ⟨ha, hb⟩]
def Bdb (n a b : Nat) : Bn n := bd n a (b - a - 1)
theorem zTX {n a b m k : Nat} (hab : a < b) (hbk : b < k) (hmk : m < k) (hk : k < n) (h : b < m ∨ m < a) : Bdb n m k * Bdb n a b = Bdb n a b * Bdb n m k := by
 rcases h with h | h
 · exact zP7 (b - a - 1) (k - m - 1) (by omega)
 · exact zP6 (b - a - 1) (k - m - 1) h (by omega) (by omega)
def th (n : Nat) : Nat → Pm n → Bn n
 | 0, _ => 1
 | k + 1, x => if x.g k < k then Bdb n (x.g k) k * th n k (tau n (x.g k) k * x) else th n k x
def Sup {n : Nat} (k : Nat) (x : Pm n) : Prop := ∀ z, k ≤ z → x.f z = z
theorem Sup.g {n k : Nat} {x : Pm n} (h : Sup k x) {z : Nat} (hz : k ≤ z) : x.g z = z := by
 have := x.gf z; rw [h z hz] at this; exact this
theorem Sup.g_lt {n k : Nat} {x : Pm n} (h : Sup k x) {z : Nat} (hz : z < k) : x.g z < k := by
 by_cases h' : x.g z < k
 · exact h'
 · have e := h (x.g z) (by omega); rw [x.fg] at e; omega
theorem Sup.f_lt {n k : Nat} {x : Pm n} (h : Sup k x) {z : Nat} (hz : z < k) : x.f z < k := by
 by_cases h' : x.f z < k
 · exact h'
 · have e := h.g (z := x.f z) (by omega); rw [x.gf] at e; omega
theorem Sup.down {n k : Nat} {x : Pm n} (h : Sup (k + 1) x) (hk : x.g k = k) : Sup k x := fun z hz => by
 by_cases e : z = k
 · subst e; have := x.fg z; rw [hk] at this; exact this
 · exact h z (by omega)
def Inc {n : Nat} (x : Pm n) : Prop := ∀ z w, z < x.f z → Eo x z w → w < x.f z → w ≤ z
def Nc {n : Nat} (x : Pm n) : Prop := ∀ a b c d, a < b → b < c → c < d → Eo x a c → Eo x b d → Eo x a b
theorem Eo.fix {n : Nat} {x : Pm n} {k : Nat} (h : x.f k = k) {p q : Nat} (e : Eo x p q) : p = k ↔ q = k := by
 induction e with
 | re x => exact Iff.rfl
 | st z =>
  constructor
  · rintro rfl; exact h
  · intro e; rw [← h] at e; exact x.inj e
 | sy _ ih => exact ih.symm
 | tr _ _ i1 i2 => exact i1.trans i2
theorem Eo.sub {n : Nat} {x y : Pm n} (h : ∀ z, Eo y z (x.f z)) {p q : Nat} (e : Eo x p q) : Eo y p q := by
 induction e with
 | re x => exact .re x
 | st z => exact h z
 | sy _ ih => exact ih.sy
 | tr _ _ i1 i2 => exact i1.tr i2
structure Rem {n : Nat} (k m : Nat) (y y' : Pm n) : Prop where
 sup : Sup k y'
 sub : ∀ p q, Eo y' p q → Eo y p q
 keep : ∀ p q, Eo y p q → p ≠ k → q ≠ k → Eo y' p q
 inc : Inc y → Inc y'
 nc : Nc y → Nc y'
theorem rem {n k m : Nat} {y : Pm n} (hk : k < n) (hS : Sup (k + 1) y) (hm : m < k) (hy : y.f m = k) : Rem k m y (tau n m k * y) := by
 have hmn : m < n := by omega
 have f : ∀ z, (tau n m k * y).f z = y.f (trf m k z) := fun z => by
  show y.f ((tau n m k).f z) = _; rw [zSo hmn hk]
 have fm : (tau n m k * y).f m = y.f k := by rw [f, zRl]
 have fk : (tau n m k * y).f k = k := by rw [f, zOm, hy]
 have fo : ∀ z, z ≠ m → z ≠ k → (tau n m k * y).f z = y.f z := fun z h1 h2 => by rw [f, zLc h1 h2]
 have hyk : y.f k ≠ k := fun h => by
  have := y.inj (hy.trans h.symm); omega
 have sub : ∀ p q, Eo (tau n m k * y) p q → Eo y p q := fun p q e => by
  refine Eo.sub (fun z => ?_) e
  by_cases h1 : z = m
  · rw [h1, fm]; have := (Eo.st (s := y) m).tr (by rw [hy]; exact Eo.st (s := y) k); exact this
  · by_cases h2 : z = k
    · rw [h2, fk]; exact .re k
    · rw [fo z h1 h2]; exact .st z
 have key : ∀ p q, Eo y p q → Eo (tau n m k * y) (if p = k then m else p) (if q = k then m else q) := fun p q e => by
  induction e with
  | re x => exact .re _
  | st z =>
   by_cases h1 : z = m
   · rw [h1, if_neg (by omega), hy, if_pos rfl]; exact .re m
   · by_cases h2 : z = k
     · rw [if_pos h2, h2, if_neg hyk, ← fm]; exact .st m
     · have h3 : y.f z ≠ k := fun h => h1 (y.inj (h.trans hy.symm)); rw [if_neg h2, if_neg h3, ← fo z h1 h2]; exact .st z
  | sy _ ih => exact ih.sy
  | tr _ _ i1 i2 => exact i1.tr i2
 have keep : ∀ p q, Eo y p q → p ≠ k → q ≠ k → Eo (tau n m k * y) p q := fun p q e h1 h2 => by
  have := key p q e; rw [if_neg h1, if_neg h2] at this; exact this
 refine ⟨fun z hz => ?_, sub, keep, ?_, ?_⟩
 · by_cases h : z = k
   · rw [h, fk]
   · rw [fo z (by omega) h]; exact hS z (by omega)
 · intro hI z w hz e hw
   by_cases h1 : z = m
   · subst h1; rw [fm] at hz hw; have hlt : y.f k < k := by
      have := hS.f_lt (z := k) (by omega); omega
     have e2 : Eo y z (y.f k) := (Eo.st (s := y) z).tr (by rw [hy]; exact Eo.st (s := y) k); have := hI z (y.f k) (by rw [hy]; exact hm) e2 (by rw [hy]; exact hlt); omega
   · by_cases h2 : z = k
     · rw [h2, fk] at hz; omega
     · rw [fo z h1 h2] at hz hw; exact hI z w hz (sub _ _ e) hw
 · intro hN a b c d h1 h2 h3 e1 e2; have hne : ∀ {p q}, Eo (tau n m k * y) p q → p ≠ q → p ≠ k ∧ q ≠ k := fun {p q} e hpq => by
    have := Eo.fix fk e
    constructor
    · intro h; exact hpq (h.trans (this.1 h).symm)
    · intro h; exact hpq ((this.2 h).trans h.symm)
   have k1 := hne e1 (by omega); have k2 := hne e2 (by omega); exact keep _ _ (hN a b c d h1 h2 h3 (sub _ _ e1) (sub _ _ e2)) k1.1 k2.1
theorem zSq {n : Nat} (x : Pm n) : Sup n x := fun z hz => x.out z hz
theorem lr1 {n : Nat} {x : Int} (h : Lr n x) : ∀ y ∈ [x], Lr n y := fun y hy => by rw [List.mem_singleton.1 hy]; exact h
end Go.Ev.YtknhngnhjdpedaaGreat
namespace Go.Ev.YtknhngnhjdpedaaGreat
open Go.Ev
def bk (g : Nat → Nat) (x : Nat) : Nat → Nat → List Int
 | 0, _ => []
 | d + 1, y => if g y = x then (y : Int) :: bk g x d (y + 1) else bk g x d (y + 1)
theorem zRW (g : Nat → Nat) (x : Nat) : ∀ d y, (bk g x d y).length ≤ d
 | 0, _ => Nat.le_refl _
 | d + 1, y => by
  have := zRW g x d (y + 1); simp only [bk]
  split
  · simp; omega
  · omega
theorem zFc {g : Nat → Nat} {x : Nat} : ∀ {d y : Nat} {z : Int}, z ∈ bk g x d y → ∃ k : Nat, z = (k : Int) ∧ y ≤ k ∧ k < y + d ∧ g k = x
 | 0, _, _, h => by simp [bk] at h
 | d + 1, y, z, h => by
  simp only [bk] at h
  split at h
  · rename_i e
    rcases List.mem_cons.1 h with rfl | h
    · exact ⟨y, rfl, Nat.le_refl _, by omega, e⟩
    · obtain ⟨k, k1, k2, k3, k4⟩ := zFc h; exact ⟨k, k1, by omega, by omega, k4⟩
  · obtain ⟨k, k1, k2, k3, k4⟩ := zFc h; exact ⟨k, k1, by omega, by omega, k4⟩
theorem zFb {g : Nat → Nat} {x : Nat} : ∀ {d y : Nat}, (bk g x d y).Pairwise (· < ·)
 | 0, _ => by simp [bk]
 | d + 1, y => by
  simp only [bk]
  split
  · refine List.Pairwise.cons (fun z hz => ?_) zFb; obtain ⟨k, rfl, k2, _⟩ := zFc hz; omega
  · exact zFb
def bks (n : Nat) (g : Nat → Nat) : Nat → Nat → List (List Int)
 | 0, _ => []
 | d + 1, x => if g x = x then bk g x (n - x) x :: bks n g d (x + 1) else bks n g d (x + 1)
theorem zIJ (n : Nat) (g : Nat → Nat) : ∀ d x, (bks n g d x).length ≤ d
 | 0, _ => Nat.le_refl _
 | d + 1, x => by
  have := zIJ n g d (x + 1); simp only [bks]
  split
  · simp; omega
  · omega
theorem zII {n : Nat} {g : Nat → Nat} : ∀ {d x : Nat} {b : List Int}, b ∈ bks n g d x → ∃ k, x ≤ k ∧ k < x + d ∧ g k = k ∧ b = bk g k (n - k) k
 | 0, _, _, h => by simp [bks] at h
 | d + 1, x, b, h => by
  simp only [bks] at h
  split at h
  · rename_i e
    rcases List.mem_cons.1 h with rfl | h
    · exact ⟨x, Nat.le_refl _, by omega, e, rfl⟩
    · obtain ⟨k, k1, k2, k3, k4⟩ := zII h; exact ⟨k, by omega, by omega, k3, k4⟩
  · obtain ⟨k, k1, k2, k3, k4⟩ := zII h; exact ⟨k, by omega, by omega, k3, k4⟩
theorem zMh (a b : Nat) : (((a : Int)) == (b : Int)) = decide (a = b) := by
 by_cases e : a = b
 · subst e; simp
 · have : ¬ ((a : Int) = b) := by omega
   rw [decide_eq_false e]; exact beq_eq_false_iff_ne.2 this
theorem zP3 (a b : Nat) : (((a : Int)) != (b : Int)) = !decide (a = b) := by rw [← zMh]; rfl
theorem zJ6 (n : Nat) (hn : n ≤ 8) (g : Nat → Nat) (x1 : List (List Int)) (x : Nat) : ∀ (d y : Nat) (acc : List Int), y + d = n → acc.length + d ≤ 1000 →
  R jF [tAi8 (A8 n g), tLLI x1, tLI acc, tI (n : Int), tI (x : Int), tI (y : Int)] = some [tI 0, tAi8 (A8 n g), tLLI x1, tLI (acc ++ bk g x d y), tI (n : Int), tI (x : Int)] := by
 intro d
 induction d with
 | zero =>
  intro y acc hy _; apply zD2; have h1 : ¬ ((y : Int) < n) := by omega
  simp [zAf, h1, bk]
 | succ d ih =>
  intro y acc hy ha; apply zD2; have ap : apOk acc [(y : Int)] = true := zG3 (by omega); have w : wi64 ((y : Int) + 1) = ((y + 1 : Nat) : Int) := by rw [zB] <;> omega
  have hg : List.getD (A8 n g) y 0 = (g y : Int) := jQ (by omega) hn; simp (disch := omega) only [zAf, decide_eq_true, cond_true, Bool.and_true, Int.toNat_natCast, hg, zMh, ap, w]
  by_cases e : g y = x
  · simp only [decide_eq_true e, cond_true, bk, if_pos e]; rw [ih (y + 1) _ (by omega) (by simp; omega), List.append_assoc]
    rfl
  · simp only [decide_eq_false e, cond_false, bk, if_neg e]; exact ih (y + 1) _ (by omega) (by omega)
theorem zJ7 (n : Nat) (hn : n ≤ 8) (g : Nat → Nat) : ∀ (d x : Nat) (acc : List (List Int)), x + d = n → acc.length + d ≤ 1000 →
  R jG [tAi8 (A8 n g), tLLI acc, tI (n : Int), tI (x : Int)] = some [tI 0, tLLI (acc ++ bks n g d x)] := by
 intro d
 induction d with
 | zero =>
  intro x acc hy _; apply zD3; have h1 : ¬ ((x : Int) < n) := by omega
  simp [zAg, h1, bks]
 | succ d ih =>
  intro x acc hx ha; apply zD3; have ap : apOk acc [bk g x (n - x) x] = true := zG3 (by omega); have w : wi64 ((x : Int) + 1) = ((x + 1 : Nat) : Int) := by rw [zB] <;> omega
  have hg : List.getD (A8 n g) x 0 = (g x : Int) := jQ (by omega) hn; simp (disch := omega) only [zAg, decide_eq_true, cond_true, Bool.and_true, Int.toNat_natCast, hg, zP3]
  by_cases e : g x = x
  · have h9 := zJ6 n hn g acc x (n - x) x [] (by omega) (by simp; omega); simp only [List.nil_append] at h9; simp only [decide_eq_true e, Bool.not_true, cond_false, h9, Option.bind_some, getTV_here, getTV_next, ap, cond_true, w, bks, if_pos e]; rw [ih (x + 1) _ (by omega) (by simp; omega), List.append_assoc]
    rfl
  · simp only [decide_eq_false e, Bool.not_false, cond_true, w, bks, if_neg e]; exact ih (x + 1) _ (by omega) (by omega)
theorem zIB (n : Nat) (hn : n ≤ 8) (g : Nat → Nat) (hg : Can n g) : R jf [tA8 (A8 n (mdf n g)), tI (n : Int)] = some [tLLI (bks n g n 0)] := by
 apply zKM; have h4 := zJ7 n hn g n 0 [] (by omega) (by simp; omega); simp only [Int.natCast_zero, List.nil_append] at h4; simp only [zDg, zAQ n hn g hg, Option.bind_some, getTV_here, getTV_next, h4]
theorem zLJ (n : Nat) (hn : n ≤ 8) (g : Nat → Nat) (x1 : List (List Int)) (x : Nat) (p q : Int) : ∀ (d y : Nat) (acc : List Int), y + d = n → acc.length + d ≤ 1000 →
  R jw [tLI (Gl n g), tLLI x1, tLI acc, tI (n : Int), tI (x : Int), tI (y : Int), tI p, tI q] = some [tI 0, tLI (Gl n g), tLLI x1, tLI (acc ++ bk g x d y), tI (n : Int), tI p, tI q] := by
 intro d
 induction d with
 | zero =>
  intro y acc hy _; apply zEy; have h1 : ¬ ((y : Int) < n) := by omega
  simp [zBM, h1, bk]
 | succ d ih =>
  intro y acc hy ha; apply zEy; have ap : apOk acc [(y : Int)] = true := zG3 (by omega); have w : wi64 ((y : Int) + 1) = ((y + 1 : Nat) : Int) := by rw [zB] <;> omega
  have hg : List.getD (Gl n g) y 0 = (g y : Int) := zCH (by omega); simp (disch := omega) only [zBM, decide_eq_true, cond_true, Bool.and_true, Int.toNat_natCast, hg, zMh, ap, w, kh]
  by_cases e : g y = x
  · simp only [decide_eq_true e, cond_true, bk, if_pos e]; rw [ih (y + 1) _ (by omega) (by simp; omega), List.append_assoc]
    rfl
  · simp only [decide_eq_false e, cond_false, bk, if_neg e]; exact ih (y + 1) _ (by omega) (by omega)
theorem zLK (n : Nat) (hn : n ≤ 8) (g : Nat → Nat) : ∀ (d x : Nat) (acc : List (List Int)), x + d = n → acc.length + d ≤ 1000 →
  R jx [tLI (Gl n g), tLLI acc, tI (n : Int), tI (n : Int), tI (x : Int)] = some [tI 0, tLLI (acc ++ bks n g d x)] := by
 intro d
 induction d with
 | zero =>
  intro x acc hy _; apply zEz; have h1 : ¬ ((x : Int) < n) := by omega
  simp [zBN, h1, bks]
 | succ d ih =>
  intro x acc hx ha; apply zEz; have ap : apOk acc [bk g x (n - x) x] = true := zG3 (by omega); have w : wi64 ((x : Int) + 1) = ((x + 1 : Nat) : Int) := by rw [zB] <;> omega
  have hg : List.getD (Gl n g) x 0 = (g x : Int) := zCH (by omega); simp (disch := omega) only [zBN, decide_eq_true, cond_true, Bool.and_true, Int.toNat_natCast, hg, zP3, kh]
  by_cases e : g x = x
  · have h9 := zLJ n hn g acc x (n : Int) (x : Int) (n - x) x [] (by omega) (by simp; omega); simp only [List.nil_append] at h9; simp only [decide_eq_true e, Bool.not_true, cond_false, h9, Option.bind_some, getTV_here, getTV_next, ap, cond_true, w, bks, if_pos e]; rw [ih (x + 1) _ (by omega) (by simp; omega), List.append_assoc]
    rfl
  · simp only [decide_eq_false e, Bool.not_false, cond_true, w, bks, if_neg e]; exact ih (x + 1) _ (by omega) (by omega)
theorem zDv (n : Nat) (hn : n ≤ 8) (g : Nat → Nat) (hg : Can n g) : R zAN [tA8 (A8 n (mdf n g)), tI (n : Int)] = some [tLLI (bks n g n 0)] := by
 apply zLZ; have h4 := zLK n hn g n 0 [] (by omega) (by simp; omega); simp only [Int.natCast_zero, List.nil_append] at h4; simp only [zEn, zCd n hn g hg, Option.bind_some, getTV_here, getTV_next, h4]
theorem zSE {a : List Int} {k : Int} (h : isPt a k = true) : ∃ (n : Nat) (g : Nat → Nat), k = (n : Int) ∧ 1 ≤ n ∧ n ≤ 8 ∧ Can n g ∧ crs n g = false ∧ a = A8 n (mdf n g) := by
 rcases zF2 a k with h1 | ⟨_, n, g, _, h1, h2, h3, h4, h5, h6, _⟩
 · rw [h] at h1; simp at h1
 · exact ⟨n, g, h3, h1, h2, h4, h5, h6⟩
theorem zMc (a : List Int) (k : Int) (h : isPt a k = true) : ∃ (n : Nat) (g : Nat → Nat), k = (n : Int) ∧ 1 ≤ n ∧ n ≤ 8 ∧ Can n g ∧ R jf [tA8 a, tI k] = some [tLLI (bks n g n 0)] ∧ R zAN [tA8 a, tI k] = some [tLLI (bks n g n 0)] := by
 obtain ⟨n, g, rfl, h1, h2, h3, h4, rfl⟩ := zSE h; exact ⟨n, g, rfl, h1, h2, h3, zIB n h2 g h3, zDv n h2 g h3⟩
theorem zMb (a : List Int) (ha : B8 a) (k : Int) : ∃ x y : Int, R zHm [tA8 a, tI k] = some [tI x, tI y] ∧ R zBg [tA8 a, tI k] = some [tI x, tI y] := by
 by_cases h : isPt a k = true
 · obtain ⟨n, g, rfl, h1, h2, h3, h4, h5⟩ := zMc a k h
   refine ⟨wi64 ((n : Int) - ((List.length (bks n g n 0) : Nat) : Int)), 0, zKP _ _ ?_, zHN _ _ ?_⟩
   · simp only [zFa, zCN a ha, Option.bind_some, getTV_here, h, Bool.not_true, cond_false, h4]
   · simp only [zDk, zAC a ha, Option.bind_some, getTV_here, h, Bool.not_true, cond_false, h5]
 · have h := eq_false_of_ne_true h
   refine ⟨0, 1, zKP _ _ ?_, zHN _ _ ?_⟩
   · simp only [zFa, zCN a ha, Option.bind_some, getTV_here, h, Bool.not_false, cond_true]
   · simp only [zDk, zAC a ha, Option.bind_some, getTV_here, h, Bool.not_false, cond_true]
def wb (b : List Int) : Nat → List Int
 | 0 => []
 | i + 1 => bandL (List.getD b (i + 1) 0) (List.getD b i 0) ++ wb b i
def wbs : List (List Int) → List Int
 | [] => []
 | b :: r => wb b (b.length - 1) ++ wbs r
def Blk (b : List Int) : Prop := b ≠ [] ∧ b.length ≤ 8 ∧ ∀ i, i + 1 < b.length → 0 ≤ List.getD b i 0 ∧ List.getD b i 0 < List.getD b (i + 1) 0 ∧ List.getD b (i + 1) 0 ≤ 7
theorem zQ9 {b : List Int} (hb : Blk b) : ∀ i, i < b.length → (wb b i).length ≤ 200 * i
 | 0, _ => by simp [wb]
 | i + 1, h => by
  have h1 := zQ9 hb i (by omega); obtain ⟨k1, k2, k3⟩ := hb.2.2 i h; have h2 := zIT _ _ k2 (by omega) k1; simp only [wb, List.length_append]; omega
theorem zGJ {n : Nat} (hn : n ≤ 8) {g : Nat → Nat} : ∀ b ∈ bks n g n 0, Blk b := by
 intro b hb; obtain ⟨k, k1, k2, k3, rfl⟩ := zII hb; have hk : n - k = (n - k - 1) + 1 := by omega
 have hl := zRW g k (n - k) k; have hs := zFb (g := g) (x := k) (d := n - k) (y := k)
 refine ⟨?_, by omega, fun i hi => ?_⟩
 · rw [hk]; simp [bk, k3]
 · have e1 := zBi (l := bk g k (n - k) k) (i := i) (by omega); have e2 := zBi (l := bk g k (n - k) k) (i := i + 1) hi; rw [e1, e2]; have m1 := List.getElem_mem (l := bk g k (n - k) k) (n := i) (by omega); have m2 := List.getElem_mem (l := bk g k (n - k) k) (n := i + 1) hi; obtain ⟨p, p1, _⟩ := zFc m1; obtain ⟨q, q1, q2, q3, _⟩ := zFc m2; refine ⟨by omega, ?_, by omega⟩; exact (List.pairwise_iff_getElem.1 hs) i (i + 1) (by omega) hi (by omega)
theorem zIj (all : List (List Int)) (b : List Int) (hb : Blk b) (p q : Int) : ∀ (i : Nat) (acc : List Int), i < b.length → acc.length + 200 * i ≤ 100000 →
  R jt [tLI acc, tLI b, tLLI all, tI (i : Int), tI p, tI q] = some [tI 0, tLI (acc ++ wb b i), tLLI all, tI p, tI q] := by
 intro i
 induction i with
 | zero =>
  intro acc hi _; apply zDT; simp [zAF, wb]
 | succ i ih =>
  intro acc hi ha; apply zDT; obtain ⟨k1, k2, k3⟩ := hb.2.2 i hi; have h2 := zIT _ _ k2 (by omega) k1; have w : wi64 (((i + 1 : Nat) : Int) - 1) = (i : Int) := by rw [zB] <;> omega
  have ap : apOk acc (bandL (List.getD b (i + 1) 0) (List.getD b i 0)) = true := zQA (by omega); have p1 : decide ((0 : Int) < ((i + 1 : Nat) : Int)) = true := decide_eq_true (by omega); have p4 : decide ((0 : Int) ≤ ((i + 1 : Nat) : Int)) = true := decide_eq_true (by omega); have p5 : decide (((i + 1 : Nat) : Int) < ((b.length : Nat) : Int)) = true := decide_eq_true (by omega); have p6 : decide ((0 : Int) ≤ (i : Int)) = true := decide_eq_true (by omega); have p7 : decide ((i : Int) < ((b.length : Nat) : Int)) = true := decide_eq_true (by omega); simp only [zAF, Int.toNat_natCast, w, p1, p4, p5, p6, p7, cond_true, Bool.and_true, zRT _ _ k1 k2 (show List.getD b (i + 1) 0 ≤ 100 by omega), Option.bind_some, getTV_here, ap]; rw [ih _ (by omega) (by rw [List.length_append]; omega), List.append_assoc]
  rfl
theorem zIk (all : List (List Int)) (hall : ∀ b ∈ all, Blk b) (hl : all.length ≤ 8) : ∀ (d j : Nat) (acc : List Int), j + d = all.length → acc.length + 1600 * d ≤ 50000 →
  R ju [tLI acc, tLLI all, tI ((all.length : Nat) : Int), tI (j : Int)] = some [tI 0, tLI (acc ++ wbs (all.drop j))] := by
 intro d
 induction d with
 | zero =>
  intro j acc hj _; apply zDU; have : all.drop j = [] := List.drop_of_length_le (by omega); have h1 : ¬ ((j : Int) < ((all.length : Nat) : Int)) := by omega
  simp [zAG, this, wbs, h1]
 | succ d ih =>
  intro j acc hj ha; apply zDU; have hjl : j < all.length := by omega
  have hb := hall _ (List.getElem_mem hjl); have e : List.getD all j [] = all[j] := by simp [List.getD_eq_getElem?_getD, List.getElem?_eq_getElem hjl]
  have hpos := List.length_pos_iff.2 hb.1; have h8 := hb.2.1; have w : wi64 ((j : Int) + 1) = ((j + 1 : Nat) : Int) := by rw [zB] <;> omega
  have w2 : wi64 (((all[j].length : Nat) : Int) - 1) = ((all[j].length - 1 : Nat) : Int) := by rw [zB] <;> omega
  have hwl := zQ9 hb (all[j].length - 1) (by omega); have h6 := fun p q => zIj all all[j] hb p q (all[j].length - 1) acc (by omega) (by omega)
  have p2 : decide ((0 : Int) ≤ (j : Int)) = true := decide_eq_true (by omega); have p3 : decide ((j : Int) < ((all.length : Nat) : Int)) = true := decide_eq_true (by omega); simp only [zAG, Int.toNat_natCast, e, w, w2, p2, p3, cond_true, Bool.and_true, h6, Option.bind_some, getTV_here, getTV_next]; rw [ih (j + 1) _ (by omega) (by rw [List.length_append]; omega), List.append_assoc, List.drop_eq_getElem_cons hjl]
  rfl
def wPart (n : Nat) (g : Nat → Nat) : List Int := wbs (bks n g n 0)
theorem zK9 (n : Nat) (hn : n ≤ 8) (g : Nat → Nat) (hg : Can n g) : R zCv [tA8 (A8 n (mdf n g)), tI (n : Int)] = some [tLI (wPart n g)] := by
 apply zJP; have h2 := zIJ n g n 0; have h3 := zIk (bks n g n 0) (zGJ hn) (by omega) _ 0 [] (Nat.zero_add _) (by simp; omega); simp only [Int.natCast_zero, List.nil_append, List.drop_zero] at h3; simp only [zDD, zDv n hn g hg, Option.bind_some, getTV_here, getTV_next, h3]
 rfl
theorem zPl {b x : Int} : ∀ {d : Nat}, x ∈ dnL b d → b + 1 ≤ x ∧ x ≤ b + d
 | 0, h => by simp [dnL] at h
 | d + 1, h => by
  simp only [dnL] at h
  rcases List.mem_cons.1 h with rfl | h
  · omega
  · have := zPl h; omega
theorem zOk {x : Int} : ∀ {d : Nat} {y : Int}, x ∈ upL y d → -(y + d) < x ∧ x ≤ -y
 | 0, _, h => by simp [upL] at h
 | d + 1, y, h => by
  simp only [upL] at h
  rcases List.mem_cons.1 h with rfl | h
  · omega
  · have := zOk h; omega
end Go.Ev.YtknhngnhjdpedaaGreat
namespace Go.Ev.YtknhngnhjdpedaaGreat
open Go.Ev
theorem zMl (n : Nat) (hn : n ≤ 8) (g : Nat → Nat) (L : List Int) (hL : ∀ x, x < n → List.getD L x 0 = (g x : Int)) (x1 : List Int) (i : Nat) (hi : i < n) : ∀ (c : Nat) (h : Nat → Nat), i + c < n → h i = nx g i (n - (i + c + 1)) (i + c + 1) →
  R jd [tAi8 L, tA8 x1, tA8 (A8 n h), tI (n : Int), tI (i : Int), tI ((i + c : Nat) : Int)] = some [tI 0, tAi8 L, tA8 x1, tA8 (A8 n (fun x => if x = i then mdf n g i else h x)), tI (n : Int), tI (i : Int)] := by
 intro c
 induction c with
 | zero =>
  intro h _ hh; apply zBp; have h1 : ¬ ((i : Int) < ((i + 0 : Nat) : Int)) := by omega
  have e : A8 n h = A8 n (fun x => if x = i then mdf n g i else h x) := by
   apply zF; intro x _
   by_cases hx : x = i
   · rw [if_pos hx, hx, hh]; rfl
   · rw [if_neg hx]
  simp only [jj, decide_eq_false h1, cond_false, e]
 | succ c ih =>
  intro h hc hh; apply zBp; have h1 : ((i : Int) < ((i + (c + 1) : Nat) : Int)) := by omega
  have u1 : (((i + (c + 1) : Nat) : Int) < 8) := by omega
  have u2 : ((0 : Int) ≤ ((i + (c + 1) : Nat) : Int)) := by omega
  have u3 : ((i : Int) < 8) := by omega
  have u4 : ((0 : Int) ≤ (i : Int)) := by omega
  have w : wi64 (((i + (c + 1) : Nat) : Int) - 1) = ((i + c : Nat) : Int) := by rw [zB] <;> omega
  have w8 : wu8 ((i + (c + 1) : Nat) : Int) = ((i + (c + 1) : Nat) : Int) := by rw [zAz] <;> omega
  have en : nx g i (n - (i + c + 1)) (i + c + 1) = if g (i + (c + 1)) = g i then i + (c + 1) else nx g i (n - (i + (c + 1) + 1)) (i + (c + 1) + 1) := by
   rw [show n - (i + c + 1) = (n - (i + (c + 1) + 1)) + 1 by omega, nx]
   rfl
  simp only [jj, decide_eq_true h1, decide_eq_true u1, decide_eq_true u2, decide_eq_true u3, decide_eq_true u4, cond_true, Bool.and_true, Int.toNat_natCast, hL _ hc, hL _ hi, zFg, w, w8, zAy hi hn]
  by_cases hg : g (i + (c + 1)) = g i
  · rw [if_pos hg] at en; have ih' := ih (fun x => if x = i then i + (c + 1) else h x) (by omega) (by simp only [if_true]; exact en.symm); have e : A8 n (fun x => if x = i then mdf n g i else if x = i then i + (c + 1) else h x) = A8 n (fun x => if x = i then mdf n g i else h x) := by
     apply zF; intro x _
     by_cases hx : x = i
     · rw [if_pos hx, if_pos hx]
     · rw [if_neg hx, if_neg hx, if_neg hx]
    rw [e] at ih'; rw [decide_eq_true hg, cond_true, ih']
  · rw [if_neg hg] at en; rw [decide_eq_false hg, cond_false, ih h (by omega) (by rw [hh, en])]
theorem zMm (n : Nat) (hn : n ≤ 8) (g : Nat → Nat) (L : List Int) (hL : ∀ x, x < n → List.getD L x 0 = (g x : Int)) (hg : Can n g) (x1 : List Int) : ∀ i, i ≤ n →
  R zAp [tAi8 L, tA8 x1, tA8 (A8 n (fun x => if x < i then mdf n g x else 0)), tI (n : Int), tI (i : Int)] = some [tI 0, tA8 x1, tA8 (A8 n (mdf n g))] := by
 refine zb _ ?_ (fun i hi ih => ?_)
 · apply zBq; have h1 : ¬ ((n : Int) < (n : Int)) := by omega
   have e : A8 n (fun x => if x < n then mdf n g x else 0) = A8 n (mdf n g) := zF (fun x hx => if_pos hx); simp only [jk, decide_eq_false h1, cond_false, e]
 · apply zBq; have h1 : ((i : Int) < (n : Int)) := by omega
   have u3 : ((i : Int) < 8) := by omega
   have u4 : ((0 : Int) ≤ (i : Int)) := by omega
   have gi := (hg i hi).1; have w : wi64 ((n : Int) - 1) = ((i + (n - 1 - i) : Nat) : Int) := by rw [zB] <;> omega
   have w1 : wi64 ((i : Int) + 1) = ((i + 1 : Nat) : Int) := by rw [zB] <;> omega
   have w8 : wu8 ((g i : Nat) : Int) = ((g i : Nat) : Int) := by rw [zAz] <;> omega
   have h7 := zMl n hn g L hL x1 i hi (n - 1 - i) (fun x => if x = i then g i else if x < i then mdf n g x else 0) (by omega) (by
    simp only [if_true]; rw [show n - (i + (n - 1 - i) + 1) = 0 by omega]
    rfl)
   have e : A8 n (fun x => if x = i then mdf n g i else if x = i then g i else if x < i then mdf n g x else 0) = A8 n (fun x => if x < i + 1 then mdf n g x else 0) := by
    apply zF; intro x _
    by_cases hx : x = i
    · rw [if_pos hx, if_pos (by omega), hx]
    · rw [if_neg hx, if_neg hx]
      by_cases hx' : x < i
      · rw [if_pos hx', if_pos (by omega)]
      · rw [if_neg hx', if_neg (by omega)]
   rw [e] at h7; simp only [jk, decide_eq_true h1, decide_eq_true u3, decide_eq_true u4, cond_true, Bool.and_true, Int.toNat_natCast, hL _ hi, w8, zAy hi hn, w, h7, Option.bind_some, getTV_here, getTV_next, w1, ih]
theorem zLQ (n : Nat) (hn : n ≤ 8) (g : Nat → Nat) (L : List Int) (hL : ∀ x, x < n → List.getD L x 0 = (g x : Int)) (hg : Can n g) : R je [tAi8 L, tI (n : Int)] = some [tA8 (A8 n (mdf n g))] := by
 apply zIo; have h3 := zMm n hn g L hL hg (List.replicate 8 0) 0 (Nat.zero_le _); have e : A8 n (fun x => if x < 0 then mdf n g x else 0) = List.replicate 8 0 := by
  rw [zAI n]; apply zF; intro x _; rw [if_neg (by omega)]
 rw [e] at h3; simp only [Int.natCast_zero] at h3; simp only [zDw, h3, Option.bind_some, getTV_here, getTV_next]
theorem zG4 (n : Nat) (hn : n ≤ 8) (g : Nat → Nat) (L : List Int) (hL : ∀ x, x < n → List.getD L x 0 = (g x : Int)) (a b c : Nat) (ha : a < n) (hb : b < n) (hc : c < n) : ∀ (d x : Nat), x + d = n →
  R zU [tAi8 L, tI (n : Int), tI (a : Int), tI (b : Int), tI (c : Int), tI (x : Int)] = some (if c5 g a b c d x then [tI 1, tB true] else [tI 0, tAi8 L, tI (n : Int), tI (a : Int), tI (b : Int), tI (c : Int)]) := by
 intro d
 induction d with
 | zero =>
  intro x hx; apply ki; have h1 : ¬ ((x : Int) < (n : Int)) := by omega
  simp only [ze, decide_eq_false h1, cond_false, c5]
  rfl
 | succ d ih =>
  intro x hx; apply ki; have hxn : x < n := by omega
  have h1 : ((x : Int) < (n : Int)) := by omega
  have w : wi64 ((x : Int) + 1) = ((x + 1 : Nat) : Int) := by rw [zB] <;> omega
  simp (disch := omega) only [ze, decide_eq_true, cond_true, Bool.and_true, Int.toNat_natCast, hL _ ha, hL _ hb, hL _ hc, hL _ hxn, zFg, zP4, w, ih (x + 1) (by omega), c5]
  by_cases e1 : g a = g c
  · by_cases e2 : g b = g x
    · by_cases e3 : g a = g b
      · simp only [decide_eq_true e1, decide_eq_true e2, decide_eq_true e3, cond_true, cond_false, Bool.not_true, Bool.and_false, Bool.false_or]
      · simp only [decide_eq_true e1, decide_eq_true e2, decide_eq_false e3, cond_true, cond_false, Bool.not_false, Bool.and_true, Bool.true_or, if_true]
    · simp only [decide_eq_true e1, decide_eq_false e2, cond_true, cond_false, Bool.and_false, Bool.false_and, Bool.false_or]
  · simp only [decide_eq_false e1, cond_false, Bool.false_and, Bool.false_or]
theorem zIV (n : Nat) (hn : n ≤ 8) (g : Nat → Nat) (L : List Int) (hL : ∀ x, x < n → List.getD L x 0 = (g x : Int)) (a b : Nat) (ha : a < n) (hb : b < n) : ∀ (d x : Nat), x + d = n →
  R kM [tAi8 L, tI (n : Int), tI (a : Int), tI (b : Int), tI (x : Int)] = some (if c4 n g a b d x then [tI 1, tB true] else [tI 0, tAi8 L, tI (n : Int), tI (a : Int), tI (b : Int)]) := by
 intro d
 induction d with
 | zero =>
  intro x hx; apply jR; have h1 : ¬ ((x : Int) < (n : Int)) := by omega
  simp only [zm, decide_eq_false h1, cond_false, c4]
  rfl
 | succ d ih =>
  intro x hx; apply jR; have hxn : x < n := by omega
  have h1 : ((x : Int) < (n : Int)) := by omega
  have w : wi64 ((x : Int) + 1) = ((x + 1 : Nat) : Int) := by rw [zB] <;> omega
  have h5 := zG4 n hn g L hL a b x ha hb hxn (n - (x + 1)) (x + 1) (by omega); simp only [zm, decide_eq_true h1, cond_true, w, h5, c4]
  by_cases hb5 : c5 g a b x (n - (x + 1)) (x + 1) = true
  · simp only [hb5, if_true, Bool.true_or]
    rfl
  · have hb6 : c5 g a b x (n - (x + 1)) (x + 1) = false := by simpa using hb5
    have c0 : ((0 : Int) == 0) = true := rfl; simp only [hb6, Bool.false_eq_true, if_false, Option.bind_some, getTV_here, getTV_next, c0, cond_true, w, ih (x + 1) (by omega), Bool.false_or]
theorem zIW (n : Nat) (hn : n ≤ 8) (g : Nat → Nat) (L : List Int) (hL : ∀ x, x < n → List.getD L x 0 = (g x : Int)) (a : Nat) (ha : a < n) : ∀ (d x : Nat), x + d = n →
  R kN [tAi8 L, tI (n : Int), tI (a : Int), tI (x : Int)] = some (if c3 n g a d x then [tI 1, tB true] else [tI 0, tAi8 L, tI (n : Int), tI (a : Int)]) := by
 intro d
 induction d with
 | zero =>
  intro x hx; apply jS; have h1 : ¬ ((x : Int) < (n : Int)) := by omega
  simp only [zn, decide_eq_false h1, cond_false, c3]
  rfl
 | succ d ih =>
  intro x hx; apply jS; have hxn : x < n := by omega
  have h1 : ((x : Int) < (n : Int)) := by omega
  have w : wi64 ((x : Int) + 1) = ((x + 1 : Nat) : Int) := by rw [zB] <;> omega
  have h5 := zIV n hn g L hL a x ha hxn (n - (x + 1)) (x + 1) (by omega); simp only [zn, decide_eq_true h1, cond_true, w, h5, c3]
  by_cases hb5 : c4 n g a x (n - (x + 1)) (x + 1) = true
  · simp only [hb5, if_true, Bool.true_or]
    rfl
  · have hb6 : c4 n g a x (n - (x + 1)) (x + 1) = false := by simpa using hb5
    have c0 : ((0 : Int) == 0) = true := rfl; simp only [hb6, Bool.false_eq_true, if_false, Option.bind_some, getTV_here, getTV_next, c0, cond_true, w, ih (x + 1) (by omega), Bool.false_or]
theorem zIX (n : Nat) (hn : n ≤ 8) (g : Nat → Nat) (L : List Int) (hL : ∀ x, x < n → List.getD L x 0 = (g x : Int)) : ∀ (d x : Nat), x + d = n →
  R kO [tAi8 L, tI (n : Int), tI (x : Int)] = some (if c2 n g d x then [tI 1, tB true] else [tI 0]) := by
 intro d
 induction d with
 | zero =>
  intro x hx; apply jT; have h1 : ¬ ((x : Int) < (n : Int)) := by omega
  simp only [zo, decide_eq_false h1, cond_false, c2]
  rfl
 | succ d ih =>
  intro x hx; apply jT; have hxn : x < n := by omega
  have h1 : ((x : Int) < (n : Int)) := by omega
  have w : wi64 ((x : Int) + 1) = ((x + 1 : Nat) : Int) := by rw [zB] <;> omega
  have h5 := zIW n hn g L hL x hxn (n - (x + 1)) (x + 1) (by omega); simp only [zo, decide_eq_true h1, cond_true, w, h5, c2]
  by_cases hb5 : c3 n g x (n - (x + 1)) (x + 1) = true
  · simp only [hb5, if_true, Bool.true_or]
    rfl
  · have hb6 : c3 n g x (n - (x + 1)) (x + 1) = false := by simpa using hb5
    have c0 : ((0 : Int) == 0) = true := rfl; simp only [hb6, Bool.false_eq_true, if_false, Option.bind_some, getTV_here, getTV_next, c0, cond_true, w, ih (x + 1) (by omega), Bool.false_or]
theorem zFi (n : Nat) (hn : n ≤ 8) (g : Nat → Nat) (L : List Int) (hL : ∀ x, x < n → List.getD L x 0 = (g x : Int)) : R zu [tAi8 L, tI (n : Int)] = some [tB (crs n g)] := by
 apply zD1; have h2 := zIX n hn g L hL n 0 (by omega); simp only [Int.natCast_zero] at h2; simp only [zAe, h2, Option.bind_some, crs]
 cases c2 n g n 0 <;> rfl
end Go.Ev.YtknhngnhjdpedaaGreat
namespace Go.Ev.YtknhngnhjdpedaaGreat
open Go.Ev
def putS (S : Nat → Bool) (x : Nat) : Nat → Bool := fun z => if z = x then true else S z
def putG (G : Nat → Nat) (x v : Nat) : Nat → Nat := fun z => if z = x then v else G z
def pbk (n : Nat) (b : List Int) : Nat → Nat → (Nat → Nat) → (Nat → Bool) → Option ((Nat → Nat) × (Nat → Bool))
 | 0, _, G, S => some (G, S)
 | d + 1, k, G, S =>
  if 0 ≤ List.getD b k 0 ∧ List.getD b k 0 ≤ (n : Int) - 1 then
   if S (List.getD b k 0).toNat then none
   else if 0 < k ∧ List.getD b k 0 ≤ List.getD b (k - 1) 0 then none
   else pbk n b d (k + 1) (putG G (List.getD b k 0).toNat (List.getD b 0 0).toNat) (putS S (List.getD b k 0).toNat)
  else none
def pbs (n : Nat) : List (List Int) → (Nat → Nat) → (Nat → Bool) → Option ((Nat → Nat) × (Nat → Bool))
 | [], G, S => some (G, S)
 | b :: r, G, S => if b = [] then none else (pbk n b b.length 0 G S).bind fun p => pbs n r p.1 p.2
structure Lq (n : Nat) (G : Nat → Nat) (S : Nat → Bool) : Prop where
 can : Can n G
 one : ∀ y, y < n → S y = false → G y = y ∧ ∀ z, z < n → G z = y → z = y
def Hd (n : Nat) (b : List Int) (k : Nat) (G : Nat → Nat) (S : Nat → Bool) : Prop :=
 0 < k → 0 ≤ List.getD b 0 0 ∧ List.getD b 0 0 ≤ (n : Int) - 1 ∧ G (List.getD b 0 0).toNat = (List.getD b 0 0).toNat ∧ S (List.getD b 0 0).toNat = true ∧ List.getD b 0 0 ≤ List.getD b (k - 1) 0
theorem Lq.step {n : Nat} {G : Nat → Nat} {S : Nat → Bool} (h : Lq n G S) {b : List Int} {k : Nat} (hk : Hd n b k G S) (h1 : 0 ≤ List.getD b k 0) (h2 : List.getD b k 0 ≤ (n : Int) - 1) (h3 : S (List.getD b k 0).toNat = false)
  (h4 : ¬ (0 < k ∧ List.getD b k 0 ≤ List.getD b (k - 1) 0)) :
  Lq n (putG G (List.getD b k 0).toNat (List.getD b 0 0).toNat) (putS S (List.getD b k 0).toNat) ∧ Hd n b (k + 1) (putG G (List.getD b k 0).toNat (List.getD b 0 0).toNat) (putS S (List.getD b k 0).toNat) ∧
  (∀ z, z < n → mrg G (List.getD b 0 0).toNat (List.getD b k 0).toNat z = putG G (List.getD b k 0).toNat (List.getD b 0 0).toNat z) ∧ 0 ≤ List.getD b 0 0 ∧ List.getD b 0 0 ≤ (n : Int) - 1 := by
 unfold Hd at hk ⊢; have hx : (List.getD b k 0).toNat < n := by omega
 obtain ⟨g1, g2⟩ := h.one _ hx h3
 by_cases hk0 : k = 0
 · subst hk0; generalize List.getD b 0 0 = x at *; have e : ∀ z, putG G x.toNat x.toNat z = G z := by
    intro z; unfold putG
    split
    · rename_i e; rw [e, g1]
    · rfl
   have e' : putG G x.toNat x.toNat = G := funext e; rw [e']
   refine ⟨⟨h.can, fun y hy hs => ?_⟩, fun _ => ⟨h1, h2, g1, by simp [putS], by simp⟩, fun z hz => ?_, h1, h2⟩
   · unfold putS at hs
     split at hs
     · simp at hs
     · exact h.one y hy hs
   · unfold mrg; rw [g1, Nat.max_self, Nat.min_self]
     split
     · rename_i e2; exact e2.symm
     · rfl
 · have hk0 : 0 < k := by omega
   obtain ⟨c1, c2, c3, c4, c5⟩ := hk hk0; have h5 : List.getD b (k - 1) 0 < List.getD b k 0 := by
    rcases Int.lt_or_le (List.getD b (k - 1) 0) (List.getD b k 0) with g | g
    · exact g
    · exact absurd ⟨hk0, g⟩ h4
   have hb0 : (List.getD b 0 0).toNat < n := by omega
   have hlt : (List.getD b 0 0).toNat < (List.getD b k 0).toNat := by omega
   have h50 : List.getD b 0 0 ≤ List.getD b k 0 := by omega
   rw [show k + 1 - 1 = k by omega]; generalize List.getD b 0 0 = p at *; generalize List.getD b k 0 = x at *; have hm : ∀ z, z < n → mrg G p.toNat x.toNat z = putG G x.toNat p.toNat z := by
    intro z hz; unfold mrg putG; rw [c3, g1, Nat.max_eq_right (by omega), Nat.min_eq_left (by omega)]
    by_cases e : z = x.toNat
    · rw [if_pos e, e, g1, if_pos rfl]
    · rw [if_neg e, if_neg (fun e2 => e (g2 z hz e2))]
   refine ⟨⟨fun z hz => ?_, fun y hy hs => ?_⟩, fun _ => ⟨c1, c2, ?_, ?_, ?_⟩, hm, c1, c2⟩
   · unfold putG; obtain ⟨k1, k2⟩ := h.can z hz
     by_cases e : z = x.toNat
     · rw [if_pos e, if_neg (by omega), c3]; exact ⟨by omega, rfl⟩
     · rw [if_neg e]; refine ⟨k1, ?_⟩
       by_cases e2 : G z = x.toNat
       · exact absurd (g2 z hz e2) e
       · rw [if_neg e2, k2]
   · unfold putS at hs
     split at hs
     · simp at hs
     · rename_i e; obtain ⟨k1, k2⟩ := h.one y hy hs; have hyp : y ≠ p.toNat := by intro e2; rw [e2, c4] at hs; simp at hs
       unfold putG; rw [if_neg e]; refine ⟨k1, fun z hz hz2 => ?_⟩
       split at hz2
       · exact absurd hz2.symm hyp
       · exact k2 z hz hz2
   · unfold putG; rw [if_neg (by omega), c3]
   · unfold putS; rw [c4]; split <;> rfl
   · assumption
theorem zO5 {n : Nat} {b : List Int} : ∀ (d k : Nat) (G : Nat → Nat) (S : Nat → Bool), Lq n G S → Hd n b k G S → ∀ p, pbk n b d k G S = some p → Lq n p.1 p.2
 | 0, k, G, S, h, _, p, hp => by
  simp only [pbk, Option.some.injEq] at hp; subst hp; exact h
 | d + 1, k, G, S, h, hk, p, hp => by
  simp only [pbk] at hp
  split at hp
  · rename_i h12
    split at hp
    · simp at hp
    · rename_i h3
      split at hp
      · simp at hp
      · rename_i h4; obtain ⟨q1, q2, _⟩ := h.step hk h12.1 h12.2 (by simpa using h3) h4; exact zO5 d (k + 1) _ _ q1 q2 p hp
  · simp at hp
theorem zO2 {n : Nat} : ∀ (l : List (List Int)) (G : Nat → Nat) (S : Nat → Bool), Lq n G S → ∀ p, pbs n l G S = some p → Lq n p.1 p.2
 | [], G, S, h, p, hp => by
  simp only [pbs, Option.some.injEq] at hp; subst hp; exact h
 | b :: r, G, S, h, p, hp => by
  simp only [pbs] at hp
  split at hp
  · simp at hp
  · cases e : pbk n b b.length 0 G S with
    | none => rw [e] at hp; simp at hp
    | some q =>
     rw [e] at hp; exact zO2 r _ _ (zO5 _ 0 G S h (fun h => by omega) q e) p hp
theorem getB {S : Nat → Bool} {x : Int} (h1 : 0 ≤ x) (h2 : x < 8) : List.getD (Bo S) x.toNat false = S x.toNat := zQF (by omega)
theorem zTm (n : Nat) (hn : n ≤ 8) (all : List (List Int)) (j : Nat) (hj : j < all.length) (b : List Int) (hb : List.getD all j [] = b) (hbl : b.length < 1000000000) (z : List Int) : ∀ (d k : Nat) (G : Nat → Nat) (S : Nat → Bool), k + d = b.length →
  (0 < k → 0 ≤ List.getD b 0 0 ∧ List.getD b 0 0 ≤ (n : Int) - 1) →
  R zw [tLLI all, tA8 z, tAi8 (A8 8 G), tAB8 (Bo S), tI (n : Int), tI (j : Int), tI (k : Int)] =
   some (match pbk n b d k G S with
    | none => [tI 1, tA8 (List.replicate 8 0), tI 2]
    | some p => [tI 0, tLLI all, tA8 z, tAi8 (A8 8 p.1), tAB8 (Bo p.2), tI (n : Int), tI (j : Int)]) := by
 have p2 : decide ((0 : Int) ≤ (j : Int)) = true := decide_eq_true (by omega); have p3 : decide ((j : Int) < ((all.length : Nat) : Int)) = true := decide_eq_true (by omega); intro d
 induction d with
 | zero =>
  intro k G S hk _; apply zCQ; have p4 : decide ((k : Int) < ((b.length : Nat) : Int)) = false := decide_eq_false (by omega); simp only [jA, Int.toNat_natCast, p2, p3, hb, p4, cond_true, cond_false, Bool.and_true, pbk]
 | succ d ih =>
  intro k G S hk h0; apply zCQ; have p4 : decide ((k : Int) < ((b.length : Nat) : Int)) = true := decide_eq_true (by omega); have p5 : decide ((0 : Int) ≤ (k : Int)) = true := decide_eq_true (by omega); have p6 : decide ((0 : Int) < ((b.length : Nat) : Int)) = true := decide_eq_true (by omega); have w : wi64 ((n : Int) - 1) = (n : Int) - 1 := by rw [zB] <;> omega
  have w1 : wi64 ((k : Int) + 1) = ((k + 1 : Nat) : Int) := by rw [zB] <;> omega
  simp only [jA, Int.toNat_natCast, p2, p3, hb, p4, p5, p6, cond_true, Bool.and_true, w, w1, zEg, Option.bind_some, getTV_here, pbk]
  by_cases h12 : 0 ≤ List.getD b k 0 ∧ List.getD b k 0 ≤ (n : Int) - 1
  · obtain ⟨h1, h2⟩ := h12; have q1 : decide (0 ≤ List.getD b k 0) = true := decide_eq_true h1; have q2 : decide (List.getD b k 0 ≤ (n : Int) - 1) = true := decide_eq_true h2; have q3 : decide (List.getD b k 0 < 8) = true := decide_eq_true (by omega); simp only [q1, q2, q3, Bool.and_true, Bool.not_true, cond_false, cond_true, if_pos (And.intro h1 h2), getB h1 (show List.getD b k 0 < 8 by omega)]
    by_cases h3 : S (List.getD b k 0).toNat = true
    · simp only [h3, cond_true, if_true]
    · have h3 : S (List.getD b k 0).toNat = false := by simpa using h3
      simp only [h3, cond_false, Bool.false_eq_true, if_false]; have hb0 : 0 ≤ List.getD b 0 0 ∧ List.getD b 0 0 ≤ (n : Int) - 1 := by
       rcases Nat.eq_zero_or_pos k with e | e
       · subst e; exact ⟨h1, h2⟩
       · exact h0 e
      have hv : (((List.getD b 0 0).toNat : Nat) : Int) = List.getD b 0 0 := Int.toNat_of_nonneg hb0.1; have hset : List.set (A8 8 G) (List.getD b k 0).toNat (List.getD b 0 0) = A8 8 (putG G (List.getD b k 0).toNat (List.getD b 0 0).toNat) := by
       have := zAy (n := 8) (f := G) (k := (List.getD b k 0).toNat) (v := (List.getD b 0 0).toNat) (by omega) (Nat.le_refl _); rw [hv] at this; exact this
      have hsetB : List.set (Bo S) (List.getD b k 0).toNat true = Bo (putS S (List.getD b k 0).toNat) := zRf (by omega); have ih' := ih (k + 1) (putG G (List.getD b k 0).toNat (List.getD b 0 0).toNat) (putS S (List.getD b k 0).toNat) (by omega) (fun _ => hb0)
      by_cases hk0 : 0 < k
      · have q5 : decide ((0 : Int) < (k : Int)) = true := decide_eq_true (by omega); have w2 : wi64 ((k : Int) - 1) = ((k - 1 : Nat) : Int) := by rw [zB] <;> omega
        have q6 : decide ((0 : Int) ≤ ((k - 1 : Nat) : Int)) = true := decide_eq_true (by omega); have q7 : decide (((k - 1 : Nat) : Int) < ((b.length : Nat) : Int)) = true := decide_eq_true (by omega); simp only [q5, w2, q6, q7, cond_true, Bool.and_true, Int.toNat_natCast, hset, hsetB, ih']
        by_cases h4 : List.getD b k 0 ≤ List.getD b (k - 1) 0
        · simp only [decide_eq_true h4, cond_true, if_pos (And.intro hk0 h4)]
        · simp only [decide_eq_false h4, cond_false, if_neg (fun h : 0 < k ∧ _ => h4 h.2)]
      · have q5 : decide ((0 : Int) < (k : Int)) = false := decide_eq_false (by omega); simp only [q5, cond_false, if_neg (fun h : 0 < k ∧ List.getD b k 0 ≤ List.getD b (k - 1) 0 => hk0 h.1), hset, hsetB, ih']
  · have q : (decide (0 ≤ List.getD b k 0) && decide (List.getD b k 0 ≤ (n : Int) - 1)) = false := by
     rw [← Bool.decide_and]; exact decide_eq_false h12
    simp only [q, Bool.not_false, cond_true, if_neg h12]
theorem zTn (n : Nat) (hn : n ≤ 8) (all : List (List Int)) (hall : all.length < 1000000000) (hb : ∀ b ∈ all, b.length < 1000000000) (z : List Int) : ∀ (d j : Nat) (G : Nat → Nat) (S : Nat → Bool), j + d = all.length →
  R kq [tLLI all, tA8 z, tAi8 (A8 8 G), tAB8 (Bo S), tI (n : Int), tI (j : Int)] =
   some (match pbs n (all.drop j) G S with
    | none => [tI 1, tA8 (List.replicate 8 0), tI 2]
    | some p => [tI 0, tA8 z, tAi8 (A8 8 p.1), tI (n : Int)]) := by
 intro d
 induction d with
 | zero =>
  intro j G S hj; apply zCR; have p4 : decide ((j : Int) < ((all.length : Nat) : Int)) = false := decide_eq_false (by omega); simp only [zy, p4, cond_false, List.drop_of_length_le (show all.length ≤ j by omega), pbs]
 | succ d ih =>
  intro j G S hj; apply zCR; have hjl : j < all.length := by omega
  have e : List.getD all j [] = all[j] := by simp [List.getD_eq_getElem?_getD, List.getElem?_eq_getElem hjl]
  have p2 : decide ((0 : Int) ≤ (j : Int)) = true := decide_eq_true (by omega); have p3 : decide ((j : Int) < ((all.length : Nat) : Int)) = true := decide_eq_true (by omega); have w1 : wi64 ((j : Int) + 1) = ((j + 1 : Nat) : Int) := by rw [zB] <;> omega
  have h8 := zTm n hn all j hjl all[j] e (hb _ (List.getElem_mem hjl)) z all[j].length 0 G S (by omega) (fun h => by omega); simp only [Int.natCast_zero] at h8; rw [List.drop_eq_getElem_cons hjl]
  by_cases hne : all[j] = []
  · have h0 : pbk n all[j] all[j].length 0 G S = some (G, S) := by rw [hne]; rfl
    have hl0 : (((all[j].length : Nat) : Int) == 0) = true := by rw [hne]; rfl
    have c0 : ((0 : Int) == 0) = true := rfl; rw [h0] at h8; simp only [zy, p3, cond_true, h8, Option.bind_some, getTV_here, getTV_next, Int.toNat_natCast, e, p2, c0, hl0, Bool.and_true, pbs, if_pos hne]
  · simp only [zy, p3, cond_true, h8, Option.bind_some, pbs]; have hl : ¬ (((all[j].length : Nat) : Int) = 0) := by
     have := List.length_pos_iff.2 hne; omega
    rw [if_neg hne]
    cases hp : pbk n all[j] all[j].length 0 G S with
    | none => rfl
    | some p =>
     have c0 : ((0 : Int) == 0) = true := rfl; simp only [getTV_here, getTV_next, Int.toNat_natCast, e, p2, p3, c0, cond_true, Bool.and_true, zGL, decide_eq_false hl, cond_false, w1, Option.bind_some, ih (j + 1) p.1 p.2 (by omega)]
def Bl (n : Nat) (S : Nat → Bool) : List Bool := (List.range n).map S
theorem zTV (n : Nat) (S : Nat → Bool) : (Bl n S).length = n := by simp [Bl]
theorem zTW {n : Nat} {S : Nat → Bool} {x : Nat} (h : x < n) : List.getD (Bl n S) x false = S x := by
 simp [Bl, List.getD_eq_getElem?_getD, h]
theorem zTU {n : Nat} {S : Nat → Bool} {k : Nat} (hk : k < n) : List.set (Bl n S) k true = Bl n (putS S k) := by
 apply List.ext_getElem?; intro i; rw [List.getElem?_set]
 by_cases h : k = i
 · subst h; simp [Bl, hk, putS]
 · rw [if_neg h]
   by_cases hi : i < n
   · simp [Bl, hi, putS, Ne.symm h]
   · simp [Bl, hi]
theorem zTH (n : Nat) (hn : n ≤ 8) (all : List (List Int)) (j m : Int) (b : List Int) (hbl : b.length < 1000000000) (z : List Int) : ∀ (d k : Nat) (G : Nat → Nat) (S : Nat → Bool), k + d = b.length → Lq n G S → Hd n b k G S →
  R zr [tA8 z, tLI (Gl n G), tLB (Bl n S), tLI b, tLLI all, tI (n : Int), tI m, tI j, tI ((b.length : Nat) : Int), tI (k : Int)] =
   some (match pbk n b d k G S with
    | none => [tI 1, tA8 (List.replicate 8 0), tI 2]
    | some p => [tI 0, tA8 z, tLI (Gl n p.1), tLB (Bl n p.2), tLLI all, tI (n : Int), tI m, tI j]) := by
 intro d
 induction d with
 | zero =>
  intro k G S hk _ _; apply zBr; have p4 : decide ((k : Int) < ((b.length : Nat) : Int)) = false := decide_eq_false (by omega); simp only [kY, p4, cond_false, pbk]
 | succ d ih =>
  intro k G S hk hL hH; apply zBr; have p4 : decide ((k : Int) < ((b.length : Nat) : Int)) = true := decide_eq_true (by omega); have p5 : decide ((0 : Int) ≤ (k : Int)) = true := decide_eq_true (by omega); have p6 : decide ((0 : Int) < ((b.length : Nat) : Int)) = true := decide_eq_true (by omega); have w : wi64 ((n : Int) - 1) = (n : Int) - 1 := by rw [zB] <;> omega
  have w1 : wi64 ((k : Int) + 1) = ((k + 1 : Nat) : Int) := by rw [zB] <;> omega
  simp only [kY, Int.toNat_natCast, p4, p5, p6, cond_true, Bool.and_true, w, w1, zC6, Option.bind_some, getTV_here, pbk, zTV]
  by_cases h12 : 0 ≤ List.getD b k 0 ∧ List.getD b k 0 ≤ (n : Int) - 1
  · obtain ⟨h1, h2⟩ := h12; have q1 : decide (0 ≤ List.getD b k 0) = true := decide_eq_true h1; have q2 : decide (List.getD b k 0 ≤ (n : Int) - 1) = true := decide_eq_true h2; have q3 : decide (List.getD b k 0 < (n : Int)) = true := decide_eq_true (by omega); simp only [q1, q2, q3, Bool.and_true, Bool.not_true, cond_false, cond_true, if_pos (And.intro h1 h2), zTW (show (List.getD b k 0).toNat < n by omega)]
    by_cases h3 : S (List.getD b k 0).toNat = true
    · simp only [h3, cond_true, if_true]
    · have h3 : S (List.getD b k 0).toNat = false := by simpa using h3
      simp only [h3, cond_false, Bool.false_eq_true, if_false]
      by_cases h4 : 0 < k ∧ List.getD b k 0 ≤ List.getD b (k - 1) 0
      · have q5 : decide ((0 : Int) < (k : Int)) = true := decide_eq_true (by omega); have w2 : wi64 ((k : Int) - 1) = ((k - 1 : Nat) : Int) := by rw [zB] <;> omega
        have q6 : decide ((0 : Int) ≤ ((k - 1 : Nat) : Int)) = true := decide_eq_true (by omega); have q7 : decide (((k - 1 : Nat) : Int) < ((b.length : Nat) : Int)) = true := decide_eq_true (by omega); simp only [q5, w2, q6, q7, cond_true, Bool.and_true, Int.toNat_natCast, decide_eq_true h4.2, if_pos h4]
      · obtain ⟨r1, r2, r3, r4, r5⟩ := hL.step hH h1 h2 h3 h4; have hv : (((List.getD b 0 0).toNat : Nat) : Int) = List.getD b 0 0 := Int.toNat_of_nonneg r4; have hv2 : (((List.getD b k 0).toNat : Nat) : Int) = List.getD b k 0 := Int.toNat_of_nonneg h1; have hmg := zF7 n hn G (List.getD b 0 0).toNat (List.getD b k 0).toNat (by omega) (by omega); rw [hv, hv2, jC r3] at hmg; have hsetB : List.set (Bl n S) (List.getD b k 0).toNat true = Bl n (putS S (List.getD b k 0).toNat) := zTU (by omega); have ih' := ih (k + 1) (putG G (List.getD b k 0).toNat (List.getD b 0 0).toNat) (putS S (List.getD b k 0).toNat) (by omega) r1 r2
        by_cases hk0 : 0 < k
        · have q5 : decide ((0 : Int) < (k : Int)) = true := decide_eq_true (by omega); have w2 : wi64 ((k : Int) - 1) = ((k - 1 : Nat) : Int) := by rw [zB] <;> omega
          have q6 : decide ((0 : Int) ≤ ((k - 1 : Nat) : Int)) = true := decide_eq_true (by omega); have q7 : decide (((k - 1 : Nat) : Int) < ((b.length : Nat) : Int)) = true := decide_eq_true (by omega); have q8 : decide (List.getD b k 0 ≤ List.getD b (k - 1) 0) = false := decide_eq_false (fun h => h4 ⟨hk0, h⟩); simp only [q5, w2, q6, q7, q8, cond_true, cond_false, Bool.and_true, Int.toNat_natCast, hmg, Option.bind_some, getTV_here, hsetB, ih', if_neg h4]
        · have q5 : decide ((0 : Int) < (k : Int)) = false := decide_eq_false (by omega); simp only [q5, cond_false, hmg, Option.bind_some, getTV_here, hsetB, ih', if_neg h4]
  · have q : (decide (0 ≤ List.getD b k 0) && decide (List.getD b k 0 ≤ (n : Int) - 1)) = false := by
     rw [← Bool.decide_and]; exact decide_eq_false h12
    simp only [q, Bool.not_false, cond_true, if_neg h12]
theorem zTo (n : Nat) (hn : n ≤ 8) (all : List (List Int)) (hall : all.length < 1000000000) (hb : ∀ b ∈ all, b.length < 1000000000) (z : List Int) : ∀ (d j : Nat) (G : Nat → Nat) (S : Nat → Bool), j + d = all.length → Lq n G S →
  R kx [tA8 z, tLI (Gl n G), tLB (Bl n S), tLLI all, tI (n : Int), tI ((all.length : Nat) : Int), tI (j : Int)] =
   some (match pbs n (all.drop j) G S with
    | none => [tI 1, tA8 (List.replicate 8 0), tI 2]
    | some p => [tI 0, tA8 z, tLI (Gl n p.1)]) := by
 intro d
 induction d with
 | zero =>
  intro j G S hj _; apply zCS; have p4 : decide ((j : Int) < ((all.length : Nat) : Int)) = false := decide_eq_false (by omega); simp only [kA, p4, cond_false, List.drop_of_length_le (show all.length ≤ j by omega), pbs]
 | succ d ih =>
  intro j G S hj hL; apply zCS; have hjl : j < all.length := by omega
  have e : List.getD all j [] = all[j] := by simp [List.getD_eq_getElem?_getD, List.getElem?_eq_getElem hjl]
  have p2 : decide ((0 : Int) ≤ (j : Int)) = true := decide_eq_true (by omega); have p3 : decide ((j : Int) < ((all.length : Nat) : Int)) = true := decide_eq_true (by omega); have w1 : wi64 ((j : Int) + 1) = ((j + 1 : Nat) : Int) := by rw [zB] <;> omega
  rw [List.drop_eq_getElem_cons hjl]
  by_cases hne : all[j] = []
  · simp only [kA, Int.toNat_natCast, e, p2, p3, cond_true, Bool.and_true, hne, pbs, if_true, List.length_nil]
    rfl
  · have hl : ¬ (((all[j].length : Nat) : Int) = 0) := by
     have := List.length_pos_iff.2 hne; omega
    have h10 := zTH n hn all (j : Int) ((all.length : Nat) : Int) all[j] (hb _ (List.getElem_mem hjl)) z all[j].length 0 G S (by omega) hL (fun h => by omega); simp only [Int.natCast_zero] at h10; simp only [kA, Int.toNat_natCast, e, p2, p3, cond_true, Bool.and_true, zGL, decide_eq_false hl, cond_false, h10, Option.bind_some, pbs, if_neg hne]
    cases hp : pbk n all[j] all[j].length 0 G S with
    | none => rfl
    | some p =>
     simp only [getTV_here, getTV_next, decide_true, cond_true, w1, Option.bind_some, ih (j + 1) p.1 p.2 (by omega) (zO5 _ 0 G S hL (fun h => by omega) p hp)]
theorem Lq0 (n : Nat) : Lq n id (fun _ => false) := ⟨fun x _ => ⟨Nat.le_refl _, rfl⟩, fun y _ _ => ⟨rfl, fun z _ h => h⟩⟩
def vPOB (l : List (List Int)) (k : Int) : List Int × Int :=
 if 1 ≤ k ∧ k ≤ 8 then
  match pbs k.toNat l id (fun _ => false) with
  | none => (List.replicate 8 0, 2)
  | some p => if crs k.toNat p.1 then (List.replicate 8 0, 1) else (A8 k.toNat (mdf k.toNat p.1), 0)
 else (List.replicate 8 0, 2)
theorem zG2 (l : List (List Int)) (hl : l.length < 1000000000) (hb : ∀ b ∈ l, b.length < 1000000000) (k : Int) : R zBe [tLLI l, tI k] = some [tA8 (vPOB l k).1, tI (vPOB l k).2] := by
 apply zHH
 by_cases h : 1 ≤ k ∧ k ≤ 8
 · obtain ⟨n, rfl⟩ : ∃ n : Nat, k = n := ⟨k.toNat, by omega⟩; have hn : n ≤ 8 := by omega
   have q1 : decide ((1 : Int) ≤ n) = true := decide_eq_true h.1; have q2 : decide ((n : Int) ≤ 8) = true := decide_eq_true h.2; have hA : ([0, 1, 2, 3, 4, 5, 6, 7] : List Int) = A8 8 id := by decide
   have h5 := zTn n hn l hl hb (List.replicate 8 0) l.length 0 id (fun _ => false) (by omega); rw [← zKI] at h5; simp only [Int.natCast_zero, List.drop_zero] at h5; simp only [zAD, zEg, Option.bind_some, getTV_here, q1, q2, Bool.and_true, Bool.not_true, cond_false, hA, h5, vPOB, if_pos h, Int.toNat_natCast]
   cases hp : pbs n l id (fun _ => false) with
   | none => rfl
   | some p =>
    have hL := zO2 l id _ (Lq0 n) p hp; have hG : ∀ x, x < n → List.getD (A8 8 p.1) x 0 = (p.1 x : Int) := fun x hx => jQ (by omega) (Nat.le_refl _)
    have c0 : ((0 : Int) == 0) = true := rfl; simp only [getTV_here, getTV_next, c0, cond_true, zFi n hn p.1 _ hG, zLQ n hn p.1 _ hG hL.can, Option.bind_some]
    cases crs n p.1 <;> rfl
 · have q : (decide (1 ≤ k) && decide (k ≤ 8)) = false := by
    rw [← Bool.decide_and]; exact decide_eq_false h
   simp only [zAD, zEg, Option.bind_some, getTV_here, q, Bool.not_false, cond_true, vPOB, if_neg h]
theorem zDQ (l : List (List Int)) (hl : l.length < 1000000000) (hb : ∀ b ∈ l, b.length < 1000000000) (k : Int) : R jy [tLLI l, tI k] = some [tA8 (vPOB l k).1, tI (vPOB l k).2] := by
 apply zHO
 by_cases h : 1 ≤ k ∧ k ≤ 8
 · obtain ⟨n, rfl⟩ : ∃ n : Nat, k = n := ⟨k.toNat, by omega⟩; have hn : n ≤ 8 := by omega
   have q1 : decide ((1 : Int) ≤ n) = true := decide_eq_true h.1; have q2 : decide ((n : Int) ≤ 8) = true := decide_eq_true h.2; have hB : List.replicate n false = Bl n (fun _ => false) := by
    apply List.ext_getElem?; intro i
    by_cases hi : i < n
    · simp [Bl, hi]
    · simp [Bl, hi]
   have hmk : mkOk ((n : Nat) : Int) = true := by
    have h2 : ((n : Int) ≤ (lim : Int)) := by simp only [lim]; omega
    simp [mkOk, h2]
   have h5 := zTo n hn l hl hb (List.replicate 8 0) l.length 0 id (fun _ => false) (by omega) (Lq0 n); simp only [Int.natCast_zero, List.drop_zero] at h5; simp only [zAH, zID, Option.bind_some, getTV_here, q1, q2, Bool.and_true, Bool.not_true, cond_false, ji n hn, hmk, cond_true, Int.toNat_natCast, hB, h5, vPOB, if_pos h]
   cases hp : pbs n l id (fun _ => false) with
   | none => rfl
   | some p =>
    have hL := zO2 l id _ (Lq0 n) p hp; obtain ⟨u, v, hc⟩ := zF9 n hn p.1; have c0 : ((0 : Int) == 0) = true := rfl; simp only [getTV_here, getTV_next, c0, cond_true, hc, zJG n hn p.1 hL.can, Option.bind_some]
    cases crs n p.1 <;> rfl
 · have q : (decide (1 ≤ k) && decide (k ≤ 8)) = false := by
    rw [← Bool.decide_and]; exact decide_eq_false h
   simp only [zAH, zID, Option.bind_some, getTV_here, q, Bool.not_false, cond_true, vPOB, if_neg h]
end Go.Ev.YtknhngnhjdpedaaGreat
namespace Go.Ev.YtknhngnhjdpedaaGreat
open Go.Ev Go.Gar
open Classical in
noncomputable def lt (n : Nat) (x : Int) : Bn n := if h : Lr n x then Bn.mk [x] (lr1 h) else 1
noncomputable def cl (n : Nat) : List Int → Bn n
 | [] => 1
 | x :: w => lt n x * cl n w
theorem zNO {n : Nat} : ∀ (u w : List Int), cl n (u ++ w) = cl n u * cl n w
 | [], w => (Grp.one_mul _).symm
 | x :: u, w => by rw [List.cons_append, cl, zNO u w, cl, Grp.assoc]
theorem zTF {n : Nat} : ∀ (w : List Int) (hw : ∀ x ∈ w, Lr n x), cl n w = Bn.mk w hw
 | [], hw => rfl
 | x :: w, hw => by
  have hx := hw x List.mem_cons_self; rw [cl, zTF w (fun y hy => hw y (List.mem_cons_of_mem _ hy))]; unfold lt; rw [dif_pos hx]
  rfl
theorem zRP {n p : Nat} (h : p + 1 < n) : lt n ((p : Int) + 1) = sg n p := by
 have hx : Lr n ((p : Int) + 1) := by unfold Lr; omega
 unfold lt; rw [dif_pos hx, zLm h]
 rfl
theorem zS1 {n p : Nat} (h : p + 1 < n) : lt n (-((p : Int) + 1)) = (sg n p)⁻¹ := by
 have hx : Lr n (-((p : Int) + 1)) := by unfold Lr; omega
 unfold lt; rw [dif_pos hx, zLm h, Bn.mk_inv]
 rfl
theorem zMu : ∀ (d : Nat) (x : Int), upL x (d + 1) = upL x d ++ [-(x + d)]
 | 0, x => by simp [upL]
 | d + 1, x => by
  rw [upL, zMu d (x + 1), upL]; simp only [List.cons_append]; rw [show x + 1 + (d : Int) = x + ((d + 1 : Nat) : Int) by omega]
theorem zPr {n s : Nat} : ∀ (d : Nat), s + d + 1 < n → cl n (dnL (s : Int) (d + 1) ++ upL ((s : Int) + 2) d) = bd n s d
 | 0, h => by
  simp only [dnL, upL, List.append_nil]; show lt n ((s : Int) + ((0 : Nat) : Int) + 1) * 1 = _; rw [Grp.mul_one, show (s : Int) + ((0 : Nat) : Int) + 1 = (s : Int) + 1 by omega, zRP h]
  rfl
 | d + 1, h => by
  have ih := zPr (n := n) (s := s) d (by omega); rw [dnL, zMu, List.cons_append, ← List.append_assoc, cl, zNO, ih]; have e1 : (s : Int) + ((d + 1 : Nat) : Int) + 1 = ((s + d + 1 : Nat) : Int) + 1 := by omega
  have e2 : -((s : Int) + 2 + (d : Int)) = -(((s + d + 1 : Nat) : Int) + 1) := by omega
  rw [e1, e2, zRP (by omega)]; show _ * (_ * (lt n _ * 1)) = _; rw [Grp.mul_one, zS1 (by omega)]
  rfl
theorem zQi {n a b : Nat} (h : a < b) (hb : b < n) : cl n (bandL (b : Int) (a : Int)) = Bdb n a b := by
 unfold bandL Bdb; have := zPr (n := n) (s := a) (b - a - 1) (by omega); rw [← this]
 congr 2
 · rw [show ((b : Int) - (a : Int)).toNat = b - a - 1 + 1 by omega]
 · rw [show ((b : Int) - (a : Int) - 1).toNat = b - a - 1 by omega]
theorem zNQ {g : Nat → Nat} {x : Nat} : ∀ (d y : Nat), bk g x (d + 1) y = bk g x d y ++ (if g (y + d) = x then [((y + d : Nat) : Int)] else [])
 | 0, y => by simp [bk]
 | d + 1, y => by
  have ih := zNQ (g := g) (x := x) d (y + 1); rw [show y + 1 + d = y + (d + 1) by omega] at ih; rw [bk, ih, bk]; split <;> simp
theorem zRA (b : List Int) (z : Int) : ∀ i, i < b.length → wb (b ++ [z]) i = wb b i
 | 0, _ => rfl
 | i + 1, h => by
  have g1 : List.getD (b ++ [z]) (i + 1) 0 = List.getD b (i + 1) 0 := by
   simp only [List.getD_eq_getElem?_getD, List.getElem?_append_left h]
  have g2 : List.getD (b ++ [z]) i 0 = List.getD b i 0 := by
   simp only [List.getD_eq_getElem?_getD, List.getElem?_append_left (show i < b.length by omega)]
  rw [wb, wb, g1, g2, zRA b z i (by omega)]
def bl (g : Nat → Nat) (K x : Nat) : List Int := bk g x (K - x) x
def PD (g : Nat → Nat) (z y : Nat) : Prop := y < z ∧ g y = g z ∧ ∀ w, y < w → w < z → g w ≠ g z
noncomputable def Wk (n : Nat) (g : Nat → Nat) (K x : Nat) : Bn n := cl n (wb (bl g K x) ((bl g K x).length - 1))
theorem zDC {g : Nat → Nat} {K x : Nat} (h : x ≤ K) : bl g (K + 1) x = bl g K x ++ (if g K = x then [(K : Int)] else []) := by
 unfold bl; rw [show K + 1 - x = K - x + 1 by omega, zNQ, show x + (K - x) = K by omega]
theorem zP5 {g : Nat → Nat} {x : Nat} (hx : g x = x) : ∀ (K : Nat), x < K → ∃ (y : Nat), x ≤ y ∧ y < K ∧ g y = x ∧ (∀ w, y < w → w < K → g w ≠ x) ∧ bl g K x ≠ [] ∧ List.getD (bl g K x) ((bl g K x).length - 1) 0 = (y : Int)
 | 0, h => by omega
 | K + 1, h => by
  by_cases e : K = x
  · subst e
    refine ⟨K, Nat.le_refl _, by omega, hx, fun w h1 h2 => by omega, ?_, ?_⟩
    · rw [zDC (Nat.le_refl _), if_pos hx]; simp
    · rw [zDC (Nat.le_refl _), if_pos hx]; have : bl g K K = [] := by simp [bl, bk]
      rw [this]
      rfl
  · obtain ⟨y, h1, h2, h3, h4, h5, h6⟩ := zP5 hx K (by omega)
    by_cases hg : g K = x
    · refine ⟨K, by omega, by omega, hg, fun w h1 h2 => by omega, ?_, ?_⟩
      · rw [zDC (by omega), if_pos hg]; simp
      · rw [zDC (by omega), if_pos hg]; simp [List.getD_eq_getElem?_getD]
    · refine ⟨y, h1, by omega, h3, fun w a b => ?_, ?_, ?_⟩
      · by_cases e2 : w = K
        · rw [e2]; exact hg
        · exact h4 w a (by omega)
      · rw [zDC (by omega), if_neg hg, List.append_nil]; exact h5
      · rw [zDC (by omega), if_neg hg, List.append_nil]; exact h6
theorem zMj {n : Nat} {g : Nat → Nat} {K x : Nat} (h : x ≤ K) (hg : g K ≠ x) : Wk n g (K + 1) x = Wk n g K x := by
 unfold Wk; rw [zDC h, if_neg hg, List.append_nil]
theorem zMi {n : Nat} {g : Nat → Nat} {K x : Nat} (hK : K < n) (hx : g x = x) (h : x < K) (hg : g K = x) : ∃ y, PD g K y ∧ Wk n g (K + 1) x = Bdb n y K * Wk n g K x := by
 obtain ⟨y, h1, h2, h3, h4, h5, h6⟩ := zP5 hx K h; refine ⟨y, ⟨h2, by rw [h3, hg], fun w a b => by rw [hg]; exact h4 w a b⟩, ?_⟩; unfold Wk; rw [zDC (by omega), if_pos hg]; have hl : 0 < (bl g K x).length := List.length_pos_iff.2 h5; obtain ⟨m, hm⟩ : ∃ m, (bl g K x).length = m + 1 := ⟨(bl g K x).length - 1, by omega⟩; rw [hm] at h6; simp only [Nat.add_sub_cancel] at h6; rw [List.length_append, hm, show m + 1 + [(K : Int)].length - 1 = m + 1 from rfl, show m + 1 - 1 = m from rfl]; have g1 : List.getD (bl g K x ++ [(K : Int)]) (m + 1) 0 = (K : Int) := by
  simp only [List.getD_eq_getElem?_getD]; rw [List.getElem?_append_right (by omega), hm, Nat.sub_self]
  rfl
 have g2 : List.getD (bl g K x ++ [(K : Int)]) m 0 = (y : Int) := by
  rw [← h6]; simp only [List.getD_eq_getElem?_getD]; rw [List.getElem?_append_left (by omega)]
 rw [wb, g1, g2, zNO, zQi h2 hK, zRA _ _ _ (by omega)]
theorem zRa {n : Nat} {g : Nat → Nat} {K : Nat} : Wk n g (K + 1) K = 1 := by
 unfold Wk; rw [zDC (Nat.le_refl _)]; have : bl g K K = [] := by simp [bl, bk]
 rw [this]; split <;> rfl
theorem zRb {n : Nat} {g : Nat → Nat} {y Z : Nat} (hyz : y < Z) (hZ : Z < n) (hnc : ∀ a b, a < y → y < b → b < Z → g a = g b → g y = g Z → g a = g y) (hgy : g y = g Z) {x : Nat} (hx : g x = x) (hne : x ≠ g Z) :
  ∀ K, K ≤ Z → x < K → Wk n g K x * Bdb n y Z = Bdb n y Z * Wk n g K x
 | 0, _, h => by omega
 | K + 1, hK, h => by
  by_cases e : K = x
  · subst e; rw [zRa, Grp.one_mul, Grp.mul_one]
  · have ih := zRb hyz hZ hnc hgy hx hne K (by omega) (by omega)
    by_cases hg : g K = x
    · obtain ⟨w, ⟨p1, p2, _⟩, p4⟩ := zMi (n := n) (show K < n by omega) hx (by omega) hg; have c : Bdb n y Z * Bdb n w K = Bdb n w K * Bdb n y Z := by
       apply zTX p1 (by omega) hyz hZ; have hKy : K ≠ y := fun h => hne (by rw [← hg, h]; exact hgy)
       have hwy : w ≠ y := fun h => hne (by rw [← hg, ← p2, h]; exact hgy)
       by_cases h1 : K < y
       · exact .inl h1
       · by_cases h2 : y < w
         · exact .inr h2
         · exfalso; have := hnc w K (by omega) (by omega) (by omega) p2 hgy; exact hne (by rw [← hg, ← p2, this, hgy])
      rw [p4, Grp.assoc, ih, ← Grp.assoc, ← c, Grp.assoc]
    · rw [zMj (by omega) hg]; exact ih
noncomputable def TT (n : Nat) (g : Nat → Nat) (K : Nat) : Nat → Bn n
 | 0 => 1
 | X + 1 => TT n g K X * (if g X = X then Wk n g K X else 1)
theorem zRS {n : Nat} {g : Nat → Nat} : ∀ (d x : Nat), x + d = n → TT n g n x * cl n (wbs (bks n g d x)) = TT n g n n
 | 0, x, h => by
  obtain rfl : x = n := by omega
  simp only [bks, wbs]; exact Grp.mul_one _
 | d + 1, x, h => by
  have ih := zRS (n := n) (g := g) d (x + 1) (by omega); rw [TT] at ih; rw [bks]
  by_cases e : g x = x
  · rw [if_pos e] at ih ⊢; rw [wbs, zNO, ← Grp.assoc]; exact ih
  · rw [if_neg e] at ih ⊢; rw [Grp.mul_one] at ih; exact ih
theorem zMk {n : Nat} {g : Nat → Nat} {K : Nat} : ∀ X, X ≤ K → (∀ x, x < X → g x = x → g K ≠ x) → TT n g (K + 1) X = TT n g K X
 | 0, _, _ => rfl
 | X + 1, hX, h => by
  rw [TT, TT, zMk X (by omega) (fun x hx => h x (by omega))]
  by_cases e : g X = X
  · rw [if_pos e, if_pos e, zMj (by omega) (h X (by omega) e)]
  · rw [if_neg e, if_neg e]
theorem zQD {n : Nat} {g : Nat → Nat} {K y : Nat} (hK : K < n) (hPD : PD g K y) (hnc : ∀ a b, a < y → y < b → b < K → g a = g b → g y = g K → g a = g y) (hgg : g (g K) = g K) (hgK : g K < K) : ∀ X, X ≤ K → g K < X → TT n g (K + 1) X = Bdb n y K * TT n g K X
 | 0, _, h => by omega
 | X + 1, hX, h => by
  rw [TT, TT]
  by_cases e : X = g K
  · subst e; rw [if_pos hgg, if_pos hgg, zMk (g K) (by omega) (fun x hx _ he => by omega)]; obtain ⟨w, ⟨p1, p2, p3⟩, p4⟩ := zMi (n := n) hK hgg hgK rfl; have hw : w = y := by
     obtain ⟨q1, q2, q3⟩ := hPD; apply Classical.byContradiction; intro hne
     rcases Nat.lt_or_gt_of_ne hne with hlt | hlt
     · exact p3 y hlt q1 q2
     · exact q3 w hlt p1 p2
    subst hw; rw [p4]; have c : ∀ X, X ≤ g K → TT n g K X * Bdb n w K = Bdb n w K * TT n g K X := by
     intro X
     induction X with
     | zero =>
      intro _; show 1 * _ = _ * 1; rw [Grp.one_mul, Grp.mul_one]
     | succ X ih =>
      intro hX; rw [TT]
      by_cases e : g X = X
      · rw [if_pos e, Grp.assoc, zRb p1 hK hnc p2 e (by omega) K (Nat.le_refl _) (by omega), ← Grp.assoc, ih (by omega), Grp.assoc]
      · rw [if_neg e, Grp.mul_one, ih (by omega)]
    rw [← Grp.assoc, c _ (Nat.le_refl _), Grp.assoc]
  · have ih := zQD hK hPD hnc hgg hgK X (by omega) (by omega); rw [ih]
    by_cases e2 : g X = X
    · rw [if_pos e2, if_pos e2, zMj (by omega) (by omega), Grp.assoc]
    · rw [if_neg e2, if_neg e2, Grp.assoc]
theorem zRm {n : Nat} {g : Nat → Nat} (hcan : Can n g) (hnc : crs n g = false) : ∀ (K : Nat), K ≤ n → ∀ (s : Pm n), Sup K s → (∀ z, z < K → (g z < z → ∀ y, PD g z y → s.g z = y) ∧ (g z = z → g (s.g z) = z)) → th n K s = TT n g K K
 | 0, _, s, _, _ => rfl
 | K + 1, hK, s, hS, hR => by
  have hKn : K < n := by omega
  obtain ⟨c1, c2⟩ := hcan K hKn
  by_cases e : g K = K
  · have hg := (hR K (by omega)).2 e; have hlt := hS.g_lt (z := K) (by omega); have hle := (hcan (s.g K) (by omega)).1; have hsK : s.g K = K := by omega
    rw [th, hsK, if_neg (by omega), zRm hcan hnc K (by omega) s (hS.down hsK) (fun z hz => hR z (by omega)), TT, if_pos e, zRa, Grp.mul_one]; exact (zMk K (Nat.le_refl _) (fun x hx _ he => by omega)).symm
  · have hlt : g K < K := by omega
    obtain ⟨y, hPD, _⟩ := zMi (n := n) (g := g) hKn c2 hlt rfl; have hy := (hR K (by omega)).1 hlt y hPD; obtain ⟨p1, p2, p3⟩ := hPD; have fm : s.f y = K := by rw [← hy]; exact s.fg K
    have R := rem hKn hS p1 fm; have yn : y < n := by omega
    have nc : ∀ a b, a < y → y < b → b < K → g a = g b → g y = g K → g a = g y := fun a b h1 h2 h3 h4 h5 => by
     apply Classical.byContradiction; intro hne; rw [Bool.eq_false_iff] at hnc; exact hnc ((zF6 n g).2 ⟨a, y, b, K, h1, h2, h3, hKn, h4, h5, hne⟩)
    rw [th, hy, if_pos p1, TT, if_neg e, Grp.mul_one, zQD hKn ⟨p1, p2, p3⟩ nc c2 hlt K (Nat.le_refl _) hlt]; congr 1; refine zRm hcan hnc K (by omega) _ R.sup (fun z hz => ?_); have tg : (tau n y K * s).g z = trf y K (s.g z) := by
     show (tau n y K).g (s.g z) = _; rw [zSn yn hKn]
    obtain ⟨r1, r2⟩ := hR z (by omega)
    constructor
    · intro h w hw; have e1 := r1 h w hw; rw [tg, e1]; have hw1 := hw.1; have hwy : w ≠ y := fun h => by
       have : s.g z = s.g K := by rw [e1, h, hy]
       have := s.inj_g this; omega
      rw [zLc hwy (by omega)]
    · intro h; have e1 := r2 h; rw [tg]
      by_cases h1 : s.g z = y
      · exfalso; have : s.g z = s.g K := by rw [h1, hy]
        have := s.inj_g this; omega
      · by_cases h2 : s.g z = K
        · rw [h2, zOm, p2]; rw [h2] at e1; exact e1
        · rw [zLc h1 h2]; exact e1
theorem zQh {n : Nat} {s : Pm n} {g : Nat → Nat} (h : Pt s g) : cl n (wPart n g) = th n n s := by
 have h1 := zRS (n := n) (g := g) n 0 (by omega); have h2 := zRm h.can h.nc n (Nat.le_refl _) s (zSq s) (fun z hz => by
  constructor
  · intro hlt y hPD; obtain ⟨p1, p2, p3⟩ := hPD; have hf : s.f y = z := by
     rw [h.f y (by omega)]
     rcases zP (g := g) (show y < n by omega) with ⟨k, k1, k2, k3, k4, k5⟩ | ⟨k1, k2⟩
     · rw [k5]
       rcases Nat.lt_or_ge k z with hk | hk
       · exact absurd (k3.trans p2) (p3 k k1 hk)
       · by_cases e : k = z
         · exact e
         · exact absurd p2.symm (k4 z p1 (by omega))
     · exact absurd p2.symm (k1 z p1 hz)
    rw [← hf, s.gf]
  · intro he; have hz' : s.g z < n := s.lt_g hz; have hi := h.lb.inv (s.g z) hz'; rw [s.fg] at hi; rw [← hi]; exact he)
 rw [h2, ← h1]; exact (Grp.one_mul _).symm
end Go.Ev.YtknhngnhjdpedaaGreat
namespace Go.Ev.YtknhngnhjdpedaaGreat
open Go.Ev
theorem zSY {n : Nat} {p b : Int} (hb : 0 ≤ b) (h : b < p) (hp : p < (n : Int)) : ∀ x ∈ bandL p b, Lr n x := by
 intro x hx; unfold bandL at hx; unfold Lr
 rcases List.mem_append.1 hx with hx | hx
 · have := zPl hx; omega
 · have := zOk hx; omega
theorem zSi {n : Nat} {b : List Int} (hb : Blk b) (hz : ∀ z ∈ b, z < (n : Int)) : ∀ i, i < b.length → ∀ x ∈ wb b i, Lr n x
 | 0, _ => by intro x hx; simp [wb] at hx
 | i + 1, h => by
  obtain ⟨k1, k2, k3⟩ := hb.2.2 i h; intro x hx; simp only [wb] at hx
  rcases List.mem_append.1 hx with hx | hx
  · refine zSY k1 k2 (hz _ ?_) x hx; rw [zBi h]; exact List.getElem_mem h
  · exact zSi hb hz i (by omega) x hx
theorem zQ8 {n : Nat} : ∀ {l : List (List Int)}, (∀ b ∈ l, Blk b ∧ ∀ z ∈ b, z < (n : Int)) → ∀ x ∈ wbs l, Lr n x
 | [], _ => by intro x hx; simp [wbs] at hx
 | b :: r, h => by
  have hb := h b (by simp); have := List.length_pos_iff.2 hb.1.1; intro x hx; simp only [wbs] at hx
  rcases List.mem_append.1 hx with hx | hx
  · exact zSi hb.1 hb.2 _ (by omega) x hx
  · exact zQ8 (fun b hb => h b (by simp [hb])) x hx
theorem zJM {n : Nat} (hn : n ≤ 8) (g : Nat → Nat) : ∀ x ∈ wPart n g, Lr n x := by
 apply zQ8; intro b hb; refine ⟨zGJ hn b hb, fun z hz => ?_⟩; obtain ⟨k, k1, k2, k3, rfl⟩ := zII hb; obtain ⟨y, rfl, y1, y2, _⟩ := zFc hz; omega
end Go.Ev.YtknhngnhjdpedaaGreat
namespace Go.Ev.YtknhngnhjdpedaaGreat
open Go.Ev Go.Gar
theorem zJ8 (a b : List Int) (ha : a.length = 8) (hb : b.length = 8) : ∀ i : Nat, i ≤ 8 → R zAZ [tA8 a, tA8 b, tI (i : Int)] = some (if a.drop i = b.drop i then [tI 0] else [tI 1, tB (bef (a.drop i) (b.drop i))]) := by
 refine zb _ ?_ (fun i hi ih => ?_)
 · apply zD4; rw [if_pos (by rw [List.drop_of_length_le (by omega), List.drop_of_length_le (by omega)])]; simp [zAh]
 · apply zD4; rw [zDu ha hi, zDu hb hi]; simp (disch := omega) only [zAh, decide_eq_true, cond_true, Bool.and_true, Int.toNat_natCast, ja, zB]
   by_cases e : List.getD a i 0 = List.getD b i 0
   · simp only [e, decide_true, Bool.not_true, cond_false]; rw [show (i : Int) + 1 = ((i + 1 : Nat) : Int) by omega, ih]; simp only [List.cons.injEq, true_and, bef, if_true]
   · simp only [e, decide_false, Bool.not_false, cond_true, List.cons.injEq, false_and, if_false, bef]
theorem zMT (a b : List Int) (ha : a.length = 8) (hb : b.length = 8) : R zDc [tA8 a, tA8 b] = some [tB (bef a b)] := by
 apply zKN; have h := zJ8 a b ha hb 0 (by omega); simp only [Int.natCast_zero, List.drop_zero] at h; simp only [zDh, h, Option.bind_some]
 by_cases e : a = b
 · subst e; simp [zKD]
 · simp [e]
def insP (L : List (List Int)) (p : List Int) : List (List Int) := L.takeWhile (fun x => bef x p) ++ p :: L.dropWhile (fun x => bef x p)
theorem zNC (L : List (List Int)) (p : List Int) : (insP L p).length = L.length + 1 := by
 unfold insP; have : (L.takeWhile (fun x => bef x p)).length + (L.dropWhile (fun x => bef x p)).length = L.length := by
  rw [← List.length_append, List.takeWhile_append_dropWhile]
 simp only [List.length_append, List.length_cons]; omega
theorem zKu (L : List (List Int)) (p : List Int) : (insP L p).Perm (p :: L) := by
 unfold insP; refine List.perm_middle.trans ?_; rw [List.takeWhile_append_dropWhile]
theorem zLy {L : List (List Int)} {p : List Int} (h8 : Len8 L) (hp : p.length = 8) (h : L.Pairwise (fun a b => ¬ bef b a = true)) : (insP L p).Pairwise (fun a b => ¬ bef b a = true) := by
 have key : ∀ L : List (List Int), Len8 L → L.Pairwise (fun a b => ¬ bef b a = true) → (∀ x ∈ L.takeWhile (fun x => bef x p), bef x p = true) ∧ (∀ x ∈ L.dropWhile (fun x => bef x p), ¬ bef x p = true) := by
  intro L
  induction L with
  | nil => intro _ _; exact ⟨fun x hx => by simp at hx, fun x hx => by simp at hx⟩
  | cons a L ih =>
   intro h8 hs; rw [List.pairwise_cons] at hs; obtain ⟨i1, i2⟩ := ih (fun x hx => h8 x (by simp [hx])) hs.2; simp only [List.takeWhile_cons, List.dropWhile_cons]
   cases e : bef a p with
   | true =>
    simp only [if_true]; refine ⟨fun x hx => ?_, i2⟩
    rcases List.mem_cons.1 hx with rfl | hx
    · exact e
    · exact i1 x hx
   | false =>
    simp only [Bool.false_eq_true, if_false]; refine ⟨fun x hx => by simp at hx, fun x hx => ?_⟩
    rcases List.mem_cons.1 hx with rfl | hx
    · simp [e]
    · intro hxp; have hx8 := h8 x (by simp [hx]); have ha8 := h8 a (by simp)
      by_cases exa : bef a x = true
      · have := zDl (by omega) (by omega) exa hxp; rw [e] at this; simp at this
      · have := zFh (p := a) (q := x) (by omega) (by simpa using exa) (by simpa using hs.1 x hx); subst this; rw [e] at hxp; simp at hxp
 obtain ⟨k1, k2⟩ := key L h8 h; unfold insP; have hL : (L.takeWhile (fun x => bef x p) ++ L.dropWhile (fun x => bef x p)).Pairwise (fun a b => ¬ bef b a = true) := by rw [List.takeWhile_append_dropWhile]; exact h
 rw [List.pairwise_append] at hL; rw [List.pairwise_append, List.pairwise_cons]; refine ⟨hL.1, ⟨fun x hx => k2 x hx, hL.2.1⟩, fun a ha b hb => ?_⟩; have hap := k1 a ha; have ha8 := h8 a ((List.takeWhile_sublist _).subset ha)
 rcases List.mem_cons.1 hb with rfl | hb
 · intro hba; have := zDl (by omega) (by omega) hap hba; rw [zKD] at this; simp at this
 · exact hL.2.2 a ha b hb
def upd (g : Nat → Nat) (a k : Nat) : Nat → Nat := fun x => if x = a then k else g x
def lvs : Nat → Nat → (Nat → Nat) → List (Nat → Nat)
 | 0, _, g => [g]
 | d + 1, a, g => (List.range (a + 1)).flatMap fun k => if k < a ∧ g k ≠ k then [] else lvs d (a + 1) (upd g a k)
def lvk (d a : Nat) (g : Nat → Nat) (k : Nat) : List (Nat → Nat) := ((List.range (a + 1)).drop k).flatMap fun k => if k < a ∧ g k ≠ k then [] else lvs d (a + 1) (upd g a k)
theorem zM5 (d a : Nat) (g : Nat → Nat) : lvs (d + 1) a g = lvk d a g 0 := rfl
theorem zM6 {d a : Nat} {g : Nat → Nat} {k : Nat} (h : k ≤ a) : lvk d a g k = (if k < a ∧ g k ≠ k then [] else lvs d (a + 1) (upd g a k)) ++ lvk d a g (k + 1) := by
 unfold lvk; rw [List.drop_eq_getElem_cons (by simp; omega)]; simp
theorem zPI (d a : Nat) (g : Nat → Nat) : lvk d a g (a + 1) = [] := by
 unfold lvk; rw [List.drop_of_length_le (by simp)]
 rfl
theorem zPH : ∀ (d a : Nat) (g : Nat → Nat), a + d ≤ 8 → (lvs d a g).length ≤ 8 ^ d
 | 0, _, _, _ => by simp [lvs]
 | d + 1, a, g, h => by
  have key : ∀ l : List Nat, (l.flatMap fun k => if k < a ∧ g k ≠ k then [] else lvs d (a + 1) (upd g a k)).length ≤ l.length * 8 ^ d := by
   intro l
   induction l with
   | nil => simp
   | cons k l ih =>
    rw [List.flatMap_cons, List.length_append, List.length_cons, Nat.add_mul, Nat.one_mul]; have : (if k < a ∧ g k ≠ k then [] else lvs d (a + 1) (upd g a k)).length ≤ 8 ^ d := by
     split
     · simp
     · exact zPH d (a + 1) _ (by omega)
    omega
  have := key (List.range (a + 1)); rw [List.length_range] at this; simp only [lvs]; refine Nat.le_trans this ?_; rw [Nat.pow_succ, Nat.mul_comm]; exact Nat.mul_le_mul_left _ (by omega)
def CanTo (a : Nat) (g : Nat → Nat) : Prop := ∀ x, x < a → g x ≤ x ∧ g (g x) = g x
theorem CanTo.upd {a : Nat} {g : Nat → Nat} (h : CanTo a g) {k : Nat} (hk : k ≤ a) (hg : k < a → g k = k) : CanTo (a + 1) (upd g a k) := by
 intro x hx; unfold YtknhngnhjdpedaaGreat.upd
 by_cases e : x = a
 · subst e; rw [if_pos rfl]; refine ⟨hk, ?_⟩
   by_cases e2 : k = x
   · rw [if_pos e2]
   · rw [if_neg e2]; exact hg (by omega)
 · rw [if_neg e]; obtain ⟨h1, h2⟩ := h x (by omega); exact ⟨h1, by rw [if_neg (by omega)]; exact h2⟩
theorem zTY {n a : Nat} (ha : a < n) (hn : n ≤ 8) (g : Nat → Nat) (k : Nat) : List.set (A8 n g) a (k : Int) = A8 n (upd g a k) := by
 apply List.ext_getElem?; intro x
 by_cases hx : x < 8
 · rw [A8_get? _ _ hx, List.getElem?_set]
   by_cases e : a = x
   · subst e; rw [if_pos rfl, if_pos (by rw [zA3]; exact hx), if_pos ha]; simp [YtknhngnhjdpedaaGreat.upd]
   · rw [if_neg e, A8_get? _ _ hx]; simp [YtknhngnhjdpedaaGreat.upd, Ne.symm e]
 · rw [List.getElem?_eq_none (by rw [List.length_set, zA3]; omega), List.getElem?_eq_none (by rw [zA3]; omega)]
def keepP (n : Nat) (g : Nat → Nat) : Option (List Int) := if crs n g then none else some (A8 n (mdf n g))
def insG (n : Nat) (L : List (List Int)) (g : Nat → Nat) : List (List Int) := match keepP n g with
 | some p => insP L p
 | none => L
theorem zQZ (n : Nat) (L : List (List Int)) (g : Nat → Nat) : (insG n L g).length ≤ L.length + 1 := by
 unfold insG
 cases keepP n g with
 | none => simp
 | some p => simp only [zNC]; omega
theorem zFS (n : Nat) : ∀ (l : List (Nat → Nat)) (L : List (List Int)), (l.foldl (insG n) L).length ≤ L.length + l.length
 | [], L => by simp
 | g :: l, L => by
  have := zFS n l (insG n L g); have := zQZ n L g; simp only [List.foldl_cons, List.length_cons]; omega
theorem Len8.insG {n : Nat} {L : List (List Int)} (h : Len8 L) (g : Nat → Nat) : Len8 (insG n L g) := by
 unfold YtknhngnhjdpedaaGreat.insG keepP
 by_cases e : crs n g = true
 · rw [if_pos e]; exact h
 · rw [if_neg e]; intro x hx
   rcases List.mem_cons.1 ((zKu _ _).mem_iff.1 hx) with rfl | hx
   · exact zA3 _ _
   · exact h x hx
theorem Len8.foldG {n : Nat} : ∀ (l : List (Nat → Nat)) {L : List (List Int)}, Len8 L → Len8 (l.foldl (YtknhngnhjdpedaaGreat.insG n) L)
 | [], L, h => h
 | g :: l, L, h => Len8.foldG l (h.insG g)
theorem zOG (p : List Int) (hp : p.length = 8) : ∀ (L : List (List Int)), Len8 L → L.length < 10000000 → ∀ i, i ≤ L.length →
  R zCq [tLA8 L, tA8 p, tI (i : Int)] = some [tI 0, tLA8 L, tA8 p, tI ((i + ((L.drop i).takeWhile fun x => bef x p).length : Nat) : Int)] := by
 intro L h8 hl
 refine zb _ ?_ (fun i hi ih => ?_)
 · apply zHG; simp [zC8]
 · apply zHG; rw [List.drop_eq_getElem_cons hi, List.takeWhile_cons]; simp (disch := omega) only [zC8, decide_eq_true, cond_true, Bool.and_true, Int.toNat_natCast, zTh hi, zMT _ _ (h8.at hi) hp, Option.bind_some, getTV_here, zB]
   cases e : bef L[i] p with
   | true =>
    simp only [cond_true, if_true]; rw [show (i : Int) + 1 = ((i + 1 : Nat) : Int) by omega, ih]; simp only [List.length_cons]; rw [show i + 1 + ((L.drop (i + 1)).takeWhile fun x => bef x p).length = i + (((L.drop (i + 1)).takeWhile fun x => bef x p).length + 1) by omega]
   | false => simp
theorem zQn (n : Nat) (hn : n ≤ 7) : ∀ (d a : Nat) (g : Nat → Nat) (L : List (List Int)), a + d = n → CanTo a g → Len8 L → L.length + (lvs d a g).length < 10000000 →
  R zCY [tAi8 (A8 n g), tI (a : Int), tI (n : Int), tLA8 L] = some [tLA8 ((lvs d a g).foldl (insG n) L)] := by
 intro d
 induction d with
 | zero =>
  intro a g L ha hg h8 hl; have e : a = n := by omega
  subst e; apply zKO; have hcan : Can a g := hg; simp only [zFZ, beq_self_eq_true, cond_true, zFY a (by omega) g, Option.bind_some, getTV_here, lvs, List.foldl_cons, List.foldl_nil, insG, keepP]
  cases ec : crs a g with
  | true => simp
  | false =>
   have h5 := zOG (A8 a (mdf a g)) (zA3 _ _) L h8 (by omega) 0 (Nat.zero_le _); simp only [Int.natCast_zero, List.drop_zero, Nat.zero_add] at h5; have tl := zTc (fun x => bef x (A8 a (mdf a g))) L; obtain ⟨t1, t2⟩ := zLd (fun x => bef x (A8 a (mdf a g))) L; simp only [cond_false, zH7 a (by omega) g hcan, Option.bind_some, getTV_here, h5, getTV_next, Int.toNat_natCast, t1, t2]; have hl2 := zNC L (A8 a (mdf a g)); unfold insP at hl2; simp only [List.length_append, List.length_cons] at hl2; have a1 : apOk [A8 a (mdf a g)] (L.dropWhile fun x => bef x (A8 a (mdf a g))) = true := zQA (by simp only [List.length_cons, List.length_nil]; omega); have a2 : apOk [] (L.takeWhile fun x => bef x (A8 a (mdf a g))) = true := zTq (by omega); have a3 : apOk (L.takeWhile fun x => bef x (A8 a (mdf a g))) ([A8 a (mdf a g)] ++ L.dropWhile fun x => bef x (A8 a (mdf a g))) = true := zQA (by simp only [List.length_cons, List.length_nil, List.length_append]; omega); simp (disch := omega) only [decide_eq_true, Bool.and_true, cond_true, a1, a2, a3]; simp [insP]
 | succ d ihd =>
  intro a g L ha hg h8 hl; have hne : ((a : Int) == (n : Int)) = false := by rw [zGL, decide_eq_false (by omega)]
  rw [zM5] at hl ⊢
  have loop : ∀ m k, k + m = a + 1 → ∀ L, Len8 L → L.length + (lvk d a g k).length < 10000000 →
    R jg [tLA8 L, tAi8 (A8 n g), tI (a : Int), tI (n : Int), tI (k : Int)] = some [tI 0, tLA8 ((lvk d a g k).foldl (insG n) L)] := by
   intro m
   induction m with
   | zero =>
    intro k hk L h8 hl; have e : k = a + 1 := by omega
    subst e; apply zGV; have h1 : ¬ (((a + 1 : Nat) : Int) ≤ (a : Int)) := by omega
    simp only [zAx, decide_eq_false h1, cond_false, zPI, List.foldl_nil]
   | succ m ihm =>
    intro k hk L h8 hl; have hka : k ≤ a := by omega
    rw [zM6 hka] at hl ⊢; rw [List.length_append] at hl; apply zGV; have w : wi64 ((k : Int) + 1) = ((k + 1 : Nat) : Int) := by rw [zB] <;> omega
    have w2 : wi64 ((a : Int) + 1) = ((a + 1 : Nat) : Int) := by rw [zB] <;> omega
    have hset : List.set (A8 n g) a (k : Int) = A8 n (YtknhngnhjdpedaaGreat.upd g a k) := zTY (by omega) (by omega) g k
    have rec1 : (k < a → g k = k) → ∀ hl', R zCY [tAi8 (A8 n (YtknhngnhjdpedaaGreat.upd g a k)), tI ((a + 1 : Nat) : Int), tI (n : Int), tLA8 L] = some [tLA8 ((lvs d (a + 1) (YtknhngnhjdpedaaGreat.upd g a k)).foldl (insG n) L)] :=
     fun hgk hl' => ihd (a + 1) _ L (by omega) (hg.upd hka hgk) h8 hl'
    by_cases e1 : k < a
    · have hk8 : List.getD (A8 n g) k 0 = (g k : Int) := by
       rw [List.getD_eq_getElem?_getD, A8_get? _ _ (by omega), if_pos (by omega)]; rfl
      simp (disch := omega) only [zAx, decide_eq_true, Bool.and_true, cond_true, Int.toNat_natCast, hk8, ja, w, w2, hset]
      by_cases e2 : g k = k
      · have e3 : ((g k : Nat) : Int) = (k : Int) := by omega
        rw [if_neg (by simp [e2])] at hl ⊢; simp only [e3, decide_true, Bool.not_true, cond_false, rec1 (fun _ => e2) (by omega), Option.bind_some, getTV_here]; have := zFS n (lvs d (a + 1) (YtknhngnhjdpedaaGreat.upd g a k)) L; rw [ihm (k + 1) (by omega) _ (Len8.foldG _ h8) (by omega), List.foldl_append]
      · have e3 : ¬ ((g k : Nat) : Int) = (k : Int) := by omega
        rw [if_pos ⟨e1, e2⟩] at hl ⊢; simp only [e3, decide_false, Bool.not_false, cond_true]; rw [ihm (k + 1) (by omega) L h8 (by simpa using hl)]; simp
    · have e0 : k = a := by omega
      have h3 : ¬ ((k : Int) < (a : Int)) := by omega
      rw [if_neg (by omega)] at hl ⊢; simp (disch := omega) only [zAx, decide_eq_true, decide_eq_false h3, Bool.and_true, cond_true, cond_false, Int.toNat_natCast, w, w2, hset, rec1 (fun h => absurd h e1) (by omega), Option.bind_some, getTV_here]; have := zFS n (lvs d (a + 1) (YtknhngnhjdpedaaGreat.upd g a k)) L; rw [ihm (k + 1) (by omega) _ (Len8.foldG _ h8) (by omega), List.foldl_append]
  apply zKO; have h10 := loop (a + 1) 0 (by omega) L h8 hl; simp only [Int.natCast_zero] at h10; simp only [zFZ, hne, cond_false, h10, Option.bind_some, getTV_next, getTV_here]
end Go.Ev.YtknhngnhjdpedaaGreat
namespace Go.Ev.YtknhngnhjdpedaaGreat
open Go.Ev Go.Gar
theorem zLL (a b : List Int) (ha : a.length = 8) (hb : b.length = 8) : R zC0 [tA8 a, tA8 b] = some [tI (cmpL a b)] := by
 apply zJS; simp only [zDJ, zMa a b ha hb, Option.bind_some, getTV_here]
def appG (n : Nat) (L : List (List Int)) (g : Nat → Nat) : List (List Int) := match keepP n g with
 | some p => L ++ [p]
 | none => L
theorem zSJ (n : Nat) : ∀ (l : List (Nat → Nat)) (L : List (List Int)), l.foldl (appG n) L = L ++ l.filterMap (keepP n)
 | [], L => by simp
 | g :: l, L => by
  rw [List.foldl_cons, zSJ n l, List.filterMap_cons]; unfold appG
  cases keepP n g with
  | none => rfl
  | some p => simp
theorem zPa (n : Nat) (l : List (Nat → Nat)) (L : List (List Int)) : (l.foldl (appG n) L).length ≤ L.length + l.length := by
 rw [zSJ, List.length_append]; have := List.length_filterMap_le (keepP n) l; omega
theorem zLM (n : Nat) (hn : n ≤ 7) (g : Nat → Nat) (hg : Can n g) (L : List (List Int)) (hl : L.length < 10000000) : R zC1 [tLI (Gl n g), tLA8 L] = some [tLA8 (appG n L g)] := by
 apply zJT; obtain ⟨p, q, hc⟩ := zF9 n (by omega) g; simp only [zDK, hc, Option.bind_some, getTV_next, getTV_here, appG, keepP]
 cases e : crs n g with
 | true => simp
 | false =>
  simp only [Bool.not_false, cond_true, zJG n (by omega) g hg, Option.bind_some, getTV_here, zG3 (show L.length < 10000000000 by omega)]
  rfl
theorem zTS {n a : Nat} (ha : a < n) (G : Nat → Nat) (k : Nat) : List.set (Gl n G) a (k : Int) = Gl n (upd G a k) := by
 apply List.ext_getElem?; intro x; unfold Gl; rw [List.getElem?_set]
 by_cases e : a = x
 · subst e; simp [ha, YtknhngnhjdpedaaGreat.upd]
 · rw [if_neg e]; simp only [List.getElem?_map]
   by_cases hx : x < n
   · simp [hx, YtknhngnhjdpedaaGreat.upd, Ne.symm e]
   · simp [hx]
theorem zLG (n : Nat) (hn : n ≤ 7) : ∀ (d a : Nat) (g G : Nat → Nat) (L : List (List Int)), a + d = n → CanTo a g → (∀ x, x < a → G x = g x) → L.length + (lvs d a g).length < 10000000 →
  ∃ G' : Nat → Nat, (∀ x, x < a → G' x = g x) ∧ R ku [tLI (Gl n G), tI (a : Int), tLA8 L] = some [tLI (Gl n G'), tLA8 ((lvs d a g).foldl (appG n) L)] := by
 intro d
 induction d with
 | zero =>
  intro a g G L ha hg hG hl; have e : a = n := by omega
  subst e; have eG : Gl a G = Gl a g := by
   unfold Gl; apply List.map_congr_left; intro x hx; rw [hG x (List.mem_range.1 hx)]
  refine ⟨g, fun x _ => rfl, ?_⟩; rw [eG]; apply zEx; simp only [zBL, kh, beq_self_eq_true, cond_true, zLM a hn g hg L (by omega), Option.bind_some, getTV_here, lvs, List.foldl_cons, List.foldl_nil]
 | succ d ihd =>
  intro a g G L ha hg hG hl; have hne : ((a : Int) == (n : Int)) = false := by rw [zGL, decide_eq_false (by omega)]
  rw [zM5] at hl ⊢
  have loop : ∀ m k, k + m = a + 1 → ∀ (G : Nat → Nat) L, (∀ x, x < a → G x = g x) → L.length + (lvk d a g k).length < 10000000 →
    ∃ G' : Nat → Nat, (∀ x, x < a → G' x = g x) ∧ R zx [tLI (Gl n G), tLA8 L, tI (a : Int), tI ((a + 1 : Nat) : Int), tI (k : Int)] = some [tI 0, tLI (Gl n G'), tLA8 ((lvk d a g k).foldl (appG n) L)] := by
   intro m
   induction m with
   | zero =>
    intro k hk G L hG hl; have e : k = a + 1 := by omega
    subst e; refine ⟨G, hG, ?_⟩; apply jm; have h1 : ¬ (((a + 1 : Nat) : Int) < ((a + 1 : Nat) : Int)) := by omega
    simp only [zz, decide_eq_false h1, cond_false, zPI, List.foldl_nil]
   | succ m ihm =>
    intro k hk G L hG hl; have hka : k ≤ a := by omega
    rw [zM6 hka] at hl ⊢; rw [List.length_append] at hl; have w : wi64 ((k : Int) + 1) = ((k + 1 : Nat) : Int) := by rw [zB] <;> omega
    have w2 : wi64 ((a : Int) + 1) = ((a + 1 : Nat) : Int) := by rw [zB] <;> omega
    have hset : List.set (Gl n G) a (k : Int) = Gl n (YtknhngnhjdpedaaGreat.upd G a k) := zTS (by omega) G k
    have rec1 : (k < a → g k = k) → L.length + (lvs d (a + 1) (YtknhngnhjdpedaaGreat.upd g a k)).length < 10000000 → ∃ G' : Nat → Nat, (∀ x, x < a → G' x = g x) ∧
      R ku [tLI (Gl n (YtknhngnhjdpedaaGreat.upd G a k)), tI ((a + 1 : Nat) : Int), tLA8 L] = some [tLI (Gl n G'), tLA8 ((lvs d (a + 1) (YtknhngnhjdpedaaGreat.upd g a k)).foldl (appG n) L)] := by
     intro hgk hl'; obtain ⟨G', h1, h2⟩ := ihd (a + 1) (YtknhngnhjdpedaaGreat.upd g a k) (YtknhngnhjdpedaaGreat.upd G a k) L (by omega) (hg.upd hka hgk) (fun x hx => by
      unfold YtknhngnhjdpedaaGreat.upd
      by_cases e : x = a
      · rw [if_pos e, if_pos e]
      · rw [if_neg e, if_neg e]; exact hG x (by omega)) hl'
     refine ⟨G', fun x hx => ?_, h2⟩; have := h1 x (by omega); unfold YtknhngnhjdpedaaGreat.upd at this; rw [if_neg (by omega)] at this; exact this
    have h0 : ((k : Int) < ((a + 1 : Nat) : Int)) := by omega
    have hl0 := zPa n (lvs d (a + 1) (YtknhngnhjdpedaaGreat.upd g a k)) L
    by_cases e1 : k < a
    · have hGk : List.getD (Gl n G) k 0 = (g k : Int) := by rw [zCH (by omega), hG k e1]
      by_cases e2 : g k = k
      · have e3 : ((g k : Nat) : Int) = (k : Int) := by omega
        rw [if_neg (by simp [e2])] at hl ⊢; obtain ⟨G', r1, r2⟩ := rec1 (fun _ => e2) (by omega); obtain ⟨G'', s1, s2⟩ := ihm (k + 1) (by omega) G' _ r1 (by omega : ((lvs d (a + 1) (YtknhngnhjdpedaaGreat.upd g a k)).foldl (appG n) L).length + _ < _); refine ⟨G'', s1, ?_⟩; apply jm; simp (disch := omega) only [zz, kh, decide_eq_true h0, decide_eq_true, Bool.and_true, cond_true, Int.toNat_natCast, hGk, ja, w, w2, hset]; simp only [e3, decide_true, Bool.not_true, cond_false, r2, Option.bind_some, getTV_here, getTV_next]; rw [s2, List.foldl_append]
      · have e3 : ¬ ((g k : Nat) : Int) = (k : Int) := by omega
        rw [if_pos ⟨e1, e2⟩] at hl ⊢; obtain ⟨G'', s1, s2⟩ := ihm (k + 1) (by omega) G L hG (by simpa using hl); refine ⟨G'', s1, ?_⟩; apply jm; simp (disch := omega) only [zz, kh, decide_eq_true h0, decide_eq_true, Bool.and_true, cond_true, Int.toNat_natCast, hGk, ja, w, w2, hset]; simp only [e3, decide_false, Bool.not_false, cond_true]; rw [s2]; simp
    · have h3 : ¬ ((k : Int) < (a : Int)) := by omega
      rw [if_neg (by omega)] at hl ⊢; obtain ⟨G', r1, r2⟩ := rec1 (fun h => absurd h e1) (by omega); obtain ⟨G'', s1, s2⟩ := ihm (k + 1) (by omega) G' _ r1 (by omega : ((lvs d (a + 1) (YtknhngnhjdpedaaGreat.upd g a k)).foldl (appG n) L).length + _ < _); refine ⟨G'', s1, ?_⟩; apply jm; simp (disch := omega) only [zz, kh, decide_eq_true h0, decide_eq_true, decide_eq_false h3, Bool.and_true, cond_true, cond_false, Int.toNat_natCast, w, w2, hset, r2, Option.bind_some, getTV_here, getTV_next]; rw [s2, List.foldl_append]
  obtain ⟨G', h1, h2⟩ := loop (a + 1) 0 (by omega) G L hG hl; refine ⟨G', h1, ?_⟩; apply zEx; have w2 : wi64 ((a : Int) + 1) = ((a + 1 : Nat) : Int) := by rw [zB] <;> omega
  simp only [Int.natCast_zero] at h2; simp only [zBL, kh, hne, cond_false, w2, h2, Option.bind_some, getTV_next, getTV_here]
theorem zI3 (n : Nat) : ∀ (l : List (Nat → Nat)) (L : List (List Int)), (l.foldl (insG n) L).Perm (L ++ l.filterMap (keepP n))
 | [], L => by simp
 | g :: l, L => by
  rw [List.foldl_cons, List.filterMap_cons]; refine (zI3 n l _).trans ?_; unfold insG
  cases keepP n g with
  | none => exact .refl _
  | some p =>
   refine ((zKu L p).append_right _).trans ?_; rw [List.cons_append]; exact List.perm_middle.symm
theorem zGl (n : Nat) : ∀ (l : List (Nat → Nat)) (L : List (List Int)), Len8 L → L.Pairwise (fun a b => ¬ bef b a = true) → (l.foldl (insG n) L).Pairwise (fun a b => ¬ bef b a = true)
 | [], L, _, h => h
 | g :: l, L, h8, h => by
  refine zGl n l _ (h8.insG g) ?_; unfold insG keepP
  by_cases e : crs n g = true
  · rw [if_pos e]; exact h
  · rw [if_neg e]; exact zLy h8 (zA3 _ _) h
theorem zMI (xs : List (List Int)) (h8 : Len8 xs) (hl : xs.length < 10000000) : ∃ ys, R zc [tLA8 xs] = some [tLA8 ys] ∧ ys.Perm xs ∧ ys.Pairwise (fun a b => ¬ bef b a = true) := by
 obtain ⟨ys, h1, h2, h3⟩ := zQO (call := R) (cmp := zC0) (t := .arr .u8 8) cmpL xs (by omega) (fun a ha b hb => zLL a b (h8 a ha) (h8 b hb))
  (fun a ha => by rw [zFV, zKD]; simp) (fun a ha b hb c hc x y => by
   rw [zFV] at x y ⊢; have := h8 a ha; have := h8 b hb; have := h8 c hc; exact zDl (by omega) (by omega) x y) (fun a ha b hb c hc x y => by
   rw [zFV] at x y ⊢; have := h8 a ha; have := h8 b hb; have := h8 c hc; exact zOT (by omega) (by omega) x y)
 refine ⟨ys, ?_, h2, ?_⟩
 · apply zA4; exact h1
 · simp only [zFV] at h3; exact h3
noncomputable def allP (n : Nat) : List (List Int) := (lvs n 0 (fun _ => 0)).foldl (insG n) []
theorem zQC (n : Nat) : Len8 (allP n) := Len8.foldG _ (fun x hx => by simp at hx)
theorem zHk {n : Nat} (hn : n ≤ 7) : (lvs n 0 (fun _ => 0)).length ≤ 2097152 := by
 refine Nat.le_trans (zPH n 0 _ (by omega)) ?_; exact Nat.le_trans (Nat.pow_le_pow_right (by omega) hn) (by decide)
theorem zQ5 {n : Nat} (hn : n ≤ 7) : (allP n).length ≤ 2097152 := by
 have h1 := zHk hn; have h2 := zFS n (lvs n 0 (fun _ => 0)) []; simp only [List.length_nil] at h2; unfold allP; omega
theorem zMJ (n : Nat) (h1 : 1 ≤ n) (hn : n ≤ 7) : R zCt [tI (n : Int)] = some [tLA8 (allP n), tI 0] := by
 apply zHJ; have e : A8 n (fun _ => 0) = List.replicate 8 0 := (zAI n).symm; have h := zQn n hn n 0 (fun _ => 0) [] (by omega) (fun x hx => by omega) (fun x hx => by simp at hx) (by have := zHk hn; simp only [List.length_nil]; omega); rw [e] at h; simp only [Int.natCast_zero] at h; have a1 : (1 : Int) ≤ (n : Int) := by omega
 have a2 : (n : Int) ≤ 7 := by omega
 simp only [zDB, zEg, decide_eq_true a1, decide_eq_true a2, Bool.and_self, Option.bind_some, getTV_here, Bool.not_true, cond_false, h, allP]
theorem zOR (n : Nat) (h1 : 1 ≤ n) (hn : n ≤ 7) : R zC2 [tI (n : Int)] = some [tLA8 (allP n), tI 0] := by
 apply zHQ; have hs := zHk hn; obtain ⟨G', _, h⟩ := zLG n hn n 0 (fun _ => 0) id [] (by omega) (fun x hx => by omega) (fun x hx => by omega) (by simp only [List.length_nil]; omega); rw [zSJ, List.nil_append] at h; have h8 : Len8 ((lvs n 0 (fun _ => 0)).filterMap (keepP n)) := by
  intro x hx; simp only [List.mem_filterMap, keepP] at hx; obtain ⟨g, _, hg⟩ := hx
  split at hg
  · simp at hg
  · simp only [Option.some.injEq] at hg; rw [← hg]; exact zA3 _ _
 have hl := List.length_filterMap_le (keepP n) (lvs n 0 (fun _ => 0)); obtain ⟨ys, s1, s2, s3⟩ := zMI _ h8 (by omega); have p1 := zI3 n (lvs n 0 (fun _ => 0)) []; rw [List.nil_append] at p1; have p2 := zGl n (lvs n 0 (fun _ => 0)) [] (fun x hx => by simp at hx) .nil; have ey : ys = allP n := by
  refine List.Perm.eq_of_pairwise (le := fun a b => ¬ bef b a = true) (fun a b ha hb x y => ?_) s3 p2 (s2.trans p1.symm); have l1 := h8 a (s2.mem_iff.1 ha); have l2 := zQC n b hb; exact zFh (by omega) (by simpa using y) (by simpa using x)
 have a1 : (1 : Int) ≤ (n : Int) := by omega
 have a2 : (n : Int) ≤ 7 := by omega
 simp only [Int.natCast_zero] at h; simp only [zDL, zC6, decide_eq_true a1, decide_eq_true a2, Bool.and_self, Option.bind_some, getTV_here, Bool.not_true, cond_false, ji n (by omega), h, getTV_next, s1, ey]
end Go.Ev.YtknhngnhjdpedaaGreat
namespace Go.Ev.YtknhngnhjdpedaaGreat
open Go.Ev
abbrev Sc := List Int × Int × Int
structure Src (s : Sc) : Prop where
 len : s.1.length ≤ 4096
 by' : ∀ x ∈ s.1, 0 ≤ x ∧ x ≤ 255
 lo : 0 ≤ s.2.1
 hi : s.2.1 ≤ 4096
theorem zRZ (X : Int) : 0 ≤ bitsAnd .u64 X 16777215 ∧ bitsAnd .u64 X 16777215 ≤ 16777215 := by
 unfold bitsAnd; rw [BitVec.toNat_and]; show 0 ≤ IntKind.wrap .u64 (((BitVec.ofInt 64 X).toNat &&& (BitVec.ofInt 64 16777215).toNat : Nat) : Int) ∧ IntKind.wrap .u64 (((BitVec.ofInt 64 X).toNat &&& (BitVec.ofInt 64 16777215).toNat : Nat) : Int) ≤ _; have e : (BitVec.ofInt 64 16777215).toNat = 16777215 := by decide
 rw [e]; have h : (BitVec.ofInt 64 X).toNat &&& 16777215 ≤ 16777215 := Nat.and_le_right; rw [show IntKind.wrap .u64 (((BitVec.ofInt 64 X).toNat &&& 16777215 : Nat) : Int) = (((BitVec.ofInt 64 X).toNat &&& 16777215 : Nat) : Int) from zQI (by omega) (by omega)]; omega
theorem zOo {a n : Int} (ha : 0 ≤ a) (hn : 1 ≤ n) : 0 ≤ Int.tmod a n ∧ Int.tmod a n < n := by
 rw [Int.tmod_eq_emod_of_nonneg ha]; exact ⟨Int.emod_nonneg _ (by omega), Int.emod_lt_of_pos _ (by omega)⟩
theorem zSU {l : List Int} (h : ∀ x ∈ l, 0 ≤ x ∧ x ≤ 255) {i : Nat} (hi : i < l.length) : 0 ≤ List.getD l i 0 ∧ List.getD l i 0 ≤ 255 := by
 rw [zBi hi]; exact h _ (List.getElem_mem hi)
theorem zAu (s : Sc) (hs : Src s) (n : Int) : ∃ (r : Int) (s' : Sc), R zJ [zD s, tI n] = some [tI r, zD s'] ∧ Src s' ∧ 0 ≤ r ∧ (1 ≤ n → r < n) := by
 by_cases h1 : n < 1
 · refine ⟨0, s, ?_, hs, by omega, by omega⟩; apply zFl; have p : decide (n < 1) = true := decide_eq_true h1; simp only [zCf, p, cond_true]
 · have p : decide (n < 1) = false := decide_eq_false h1; have p0 : (n != 0) = true := by simp; omega
   have hl := hs.len; have ha := hs.lo; have hh := hs.hi
   by_cases h2 : s.2.1 < (s.1.length : Int)
   · have p1 : decide (s.2.1 < ((s.1.length : Nat) : Int)) = true := decide_eq_true h2; have p2 : decide (0 ≤ s.2.1) = true := decide_eq_true ha; have hb := zSU hs.by' (i := s.2.1.toNat) (by omega); have hm := zRZ (shr .u64 (wu64 ((wu64 (s.2.2 * 6364136223846793005)) + 1442695040888963407)) 33); generalize hX : bitsAnd .u64 (shr .u64 (wu64 ((wu64 (s.2.2 * 6364136223846793005)) + 1442695040888963407)) 33) 16777215 = X at hm; generalize hY : List.getD s.1 s.2.1.toNat 0 = Y at hb; have e1 : wi64 X = X := zB (by omega) (by omega); have e2 : wi64 Y = Y := zB (by omega) (by omega); have e3 : wi64 (X + Y) = X + Y := zB (by omega) (by omega); have e4 : wi64 (s.2.1 + 1) = s.2.1 + 1 := zB (by omega) (by omega); have t := zOo (a := X + Y) (n := n) (by omega) (by omega); refine ⟨Int.tmod (X + Y) n, (s.1, (s.2.1 + 1, wu64 ((wu64 (s.2.2 * 6364136223846793005)) + 1442695040888963407))), ?_, ⟨hs.len, hs.by', by show (0 : Int) ≤ s.2.1 + 1; omega, by show s.2.1 + 1 ≤ (4096 : Int); omega⟩, t.1, fun _ => t.2⟩; apply zFl; simp only [zCf, p, p0, p1, p2, cond_true, cond_false, Bool.and_true, hX, hY, e1, e2, e3, e4]
   · have p1 : decide (s.2.1 < ((s.1.length : Nat) : Int)) = false := decide_eq_false h2; have hm := zRZ (shr .u64 (wu64 ((wu64 (s.2.2 * 6364136223846793005)) + 1442695040888963407)) 33); generalize hX : bitsAnd .u64 (shr .u64 (wu64 ((wu64 (s.2.2 * 6364136223846793005)) + 1442695040888963407)) 33) 16777215 = X at hm; have e1 : wi64 X = X := zB (by omega) (by omega); have t := zOo (a := X) (n := n) (by omega) (by omega); refine ⟨Int.tmod X n, (s.1, (s.2.1, wu64 ((wu64 (s.2.2 * 6364136223846793005)) + 1442695040888963407))), ?_, ⟨hs.len, hs.by', ha, hh⟩, t.1, fun _ => t.2⟩; apply zFl; simp only [zCf, p, p0, p1, cond_true, cond_false, hX, e1]
theorem zH5 (s : Sc) (hs : Src s) (l : List Int) (hl : l ≠ []) (hl' : l.length < 1000) : ∃ (r : Int) (s' : Sc), R zl [zD s, tLI l] = some [tI r, zD s'] ∧ Src s' ∧ r ∈ l := by
 have h0 : 0 < l.length := List.length_pos_iff.2 hl; obtain ⟨r, s', hr, hs', r0, r1⟩ := zAu s hs ((l.length : Nat) : Int); have r2 := r1 (by omega)
 refine ⟨List.getD l r.toNat 0, s', ?_, hs', ?_⟩
 · apply zNe; have p1 : decide (0 ≤ r) = true := decide_eq_true r0; have p2 : decide (r < ((l.length : Nat) : Int)) = true := decide_eq_true r2; simp only [zGH, hr, Option.bind_some, getTV_here, getTV_next, p1, p2, Bool.and_true, cond_true]
 · rw [zBi (by omega)]; exact List.getElem_mem _
theorem zMX (a : List Int) (hl : a.length ≤ 4096) : ∀ (d i : Nat) (x : Int), i + d = a.length → ∃ y : Int, R zB4 [tLU8 a, tI 0, tU64 x, tI (i : Int)] = some [tI 0, tI 0, tU64 y, tLU8 a] := by
 intro d
 induction d with
 | zero =>
  intro i x hi; refine ⟨x, ?_⟩; apply zGW; have p1 : decide ((i : Int) < ((a.length : Nat) : Int)) = false := decide_eq_false (by omega); simp only [zCE, p1, cond_false]
 | succ d ih =>
  intro i x hi; have p1 : decide ((i : Int) < ((a.length : Nat) : Int)) = true := decide_eq_true (by omega); have p2 : decide ((i : Int) < 4096) = true := decide_eq_true (by omega); have p3 : decide (0 ≤ (i : Int)) = true := decide_eq_true (by omega); have w : wi64 ((i : Int) + 1) = ((i + 1 : Nat) : Int) := by rw [zB] <;> omega
  obtain ⟨y, hy⟩ := ih (i + 1) (wu64 ((wu64 ((wu64 (x * 1099511628211)) + (wu64 ((List.getD a (Int.toNat (i : Int)) 0))))) + 29)) (by omega); refine ⟨y, ?_⟩; apply zGW; simp only [zCE, p1, p2, p3, cond_true, Bool.and_true, w, hy]
theorem zDe (a : List Int) (h : ∀ x ∈ a, 0 ≤ x ∧ x ≤ 255) (hl : a.length ≤ 4096) : ∃ s : Sc, R jh [tLU8 a] = some [zD s] ∧ Src s := by
 obtain ⟨y, hy⟩ := zMX a hl a.length 0 (wu64 (9049 + (wu64 (((a.length : Nat) : Int))))) (by omega); refine ⟨(a, (0, y)), ?_, ⟨hl, h, by show (0 : Int) ≤ 0; omega, by show (0 : Int) ≤ 4096; omega⟩⟩; apply zNf; simp only [Int.natCast_zero] at hy; simp only [zGI, hy, Option.bind_some, getTV_here, getTV_next]
end Go.Ev.YtknhngnhjdpedaaGreat
namespace Go.Ev.YtknhngnhjdpedaaGreat
open Go.Ev
theorem zLB (a b : List Int) (h0 : a.length < 1000000000) (h1 : b.length = a.length) : ∀ (d i : Nat), i + d = a.length → R zA6 [tLI a, tLI b, tI (i : Int)] = some (if a.drop i = b.drop i then [tI 0] else [tI 1, tB false]) := by
 intro d
 induction d with
 | zero =>
  intro i hi; apply zEp; have p1 : decide ((i : Int) < ((a.length : Nat) : Int)) = false := decide_eq_false (by omega); rw [List.drop_eq_nil_of_le (by omega), List.drop_eq_nil_of_le (by omega)]; simp only [zBE, p1, cond_false, if_true]
 | succ d ih =>
  intro i hi; apply zEp; have p1 : decide ((i : Int) < ((a.length : Nat) : Int)) = true := decide_eq_true (by omega); have p2 : decide ((i : Int) < ((b.length : Nat) : Int)) = true := decide_eq_true (by omega); have p3 : decide (0 ≤ (i : Int)) = true := decide_eq_true (by omega); have w : wi64 ((i : Int) + 1) = ((i + 1 : Nat) : Int) := by rw [zB] <;> omega
  simp only [zBE, p1, p2, p3, cond_true, Bool.and_true, w, Int.toNat_natCast, zBi (show i < a.length by omega), zBi (show i < b.length by omega), ja, ih (i + 1) (by omega)]; have da : a.drop i = a[i]'(by omega) :: a.drop (i + 1) := List.drop_eq_getElem_cons _; have db : b.drop i = b[i]'(by omega) :: b.drop (i + 1) := List.drop_eq_getElem_cons _; rw [da, db]; simp only [List.cons.injEq]
  by_cases h : a[i] = b[i]
  · simp [h]
  · simp [h]
theorem zOF (a b : List Int) (h0 : a.length < 1000000000) : R zEV [tLI a, tLI b] = some [tB (decide (a = b))] := by
 apply zLS
 by_cases h3 : a.length = b.length
 · have h := zLB a b h0 h3.symm a.length 0 (by omega); simp only [Int.natCast_zero, List.drop_zero] at h; have q3 : (((a.length : Nat) : Int) != ((b.length : Nat) : Int)) = false := by simp [h3]
   simp only [zC7, q3, cond_false, h, Option.bind_some]
   by_cases e : a = b
   · simp [e]
   · simp [e]
 · have e : ¬ a = b := fun e => h3 (by rw [e])
   have q3 : ¬ ((a.length : Nat) : Int) = ((b.length : Nat) : Int) := by omega
   simp [zC7, ja, q3, e]
theorem zPc {a : List Int} (h : Fit (.slice (.int .u8)) a) : a.length ≤ 9223372036854775807 ∧ ∀ x ∈ a, 0 ≤ x ∧ x ≤ 255 := by
 exact ⟨h.1, fun x hx => zTa (h.2 x hx)⟩
theorem zSS (a : List Int) : R zPN [tLU8 a] = some [tB (decide (4096 < ((a.length : Nat) : Int)))] := by
 apply zSl; simp only [zPz]
end Go.Ev.YtknhngnhjdpedaaGreat
namespace Go.Ev.YtknhngnhjdpedaaGreat
open Go.Ev
def l8 (f : Nat → Nat) : List Int := (List.range 8).map fun x => ((f x : Nat) : Int)
theorem zIz (f : Nat → Nat) : (l8 f).length = 8 := by simp [l8]
theorem zKt {f : Nat → Nat} {x : Nat} (h : x < 8) : List.getD (l8 f) x 0 = (f x : Int) := by
 rw [zBi (by rw [zIz]; exact h)]; simp [l8]
theorem zS6 {f : Nat → Nat} {k v : Nat} (h : k < 8) : List.set (l8 f) k (v : Int) = l8 (fun x => if x = k then v else f x) := by
 apply List.ext_getElem
 · rw [List.length_set, zIz, zIz]
 · intro i h1 h2; rw [List.getElem_set]; simp only [l8, List.getElem_map, List.getElem_range]
   by_cases e : k = i
   · simp [e]
   · have : ¬ i = k := fun h => e h.symm; simp [e, this]
theorem zJq {f g : Nat → Nat} (e : ∀ i, i < 8 → f i = g i) : l8 f = l8 g := by
 apply List.ext_getElem
 · rw [zIz, zIz]
 · intro i h1 h2; simp only [l8, List.getElem_map, List.getElem_range]; rw [e i (by rw [zIz] at h1; exact h1)]
def joinL (g : Nat → Nat) (a b : Nat) (x : Nat) : Nat := if g x = max (g a) (g b) then min (g a) (g b) else g x
theorem zPM {n : Nat} {g : Nat → Nat} (hg : Can n g) {a b : Nat} (ha : a < n) (hb : b < n) : Can n (joinL g a b) := by
 intro x hx; obtain ⟨g1, g2⟩ := hg x hx; obtain ⟨a1, a2⟩ := hg a ha; obtain ⟨b1, b2⟩ := hg b hb; unfold joinL
 by_cases h : g x = max (g a) (g b)
 · rw [if_pos h]; refine ⟨by omega, ?_⟩; have hm : g (min (g a) (g b)) = min (g a) (g b) := by
    rcases Nat.le_total (g a) (g b) with q | q
    · rw [Nat.min_eq_left q]; exact a2
    · rw [Nat.min_eq_right q]; exact b2
   rw [hm]
   by_cases h2 : min (g a) (g b) = max (g a) (g b)
   · rw [if_pos h2]
   · rw [if_neg h2]
 · rw [if_neg h]; refine ⟨g1, ?_⟩; rw [g2, if_neg h]
theorem zSy (a b : Nat) : mx (a : Int) (b : Int) = ((max a b : Nat) : Int) := by
 unfold mx; split <;> omega
theorem zSz (a b : Nat) : mn (a : Int) (b : Int) = ((min a b : Nat) : Int) := by
 unfold mn; split <;> omega
theorem zMR (n : Nat) (hn : n ≤ 8) (g : Nat → Nat) (a b : Nat) (ha : a < n) (hb : b < n) (x0 x1 x7 : Int) (x2 x3 : List Int) : ∀ (d i : Nat), i + d = n →
  R zAq [tI x0, tU64 x1, tLU8 x2, tA8 x3, tAi8 (l8 g), tAi8 (l8 fun x => if x < i then joinL g a b x else g x), tI (n : Int), tI x7, tI (a : Int), tI (b : Int), tI (i : Int)] = some [tI 0, tI x0, tU64 x1, tLU8 x2, tA8 x3, tAi8 (l8 g), tAi8 (l8 fun x => if x < n then joinL g a b x else g x), tI (n : Int), tI x7] := by
 intro d
 induction d with
 | zero =>
  intro i h; obtain rfl : i = n := by omega
  apply zGR; have p1 : decide ((i : Int) < (i : Int)) = false := decide_eq_false (by omega); simp only [zCA, p1, cond_false]
 | succ d ih =>
  intro i h; have p1 : decide ((i : Int) < (n : Int)) = true := decide_eq_true (by omega); have p2 : decide (0 ≤ (i : Int)) = true := decide_eq_true (by omega); have p3 : decide ((i : Int) < 8) = true := decide_eq_true (by omega); have a2 : decide (0 ≤ (a : Int)) = true := decide_eq_true (by omega); have a3 : decide ((a : Int) < 8) = true := decide_eq_true (by omega); have b2 : decide (0 ≤ (b : Int)) = true := decide_eq_true (by omega); have b3 : decide ((b : Int) < 8) = true := decide_eq_true (by omega); have w : wi64 ((i : Int) + 1) = ((i + 1 : Nat) : Int) := by rw [zB] <;> omega
  have gi : List.getD (l8 fun x => if x < i then joinL g a b x else g x) i 0 = (g i : Int) := by
   rw [zKt (by omega), if_neg (by omega)]
  apply zGR; simp only [zCA, p1, p2, p3, a2, a3, b2, b3, Bool.and_true, cond_true, Int.toNat_natCast, gi, zKt (show a < 8 by omega), zKt (show b < 8 by omega), zSy, zSz, w, zS6 (show i < 8 by omega)]
  by_cases e : g i = max (g a) (g b)
  · have q : ((g i : Int) == ((max (g a) (g b) : Nat) : Int)) = true := by simp [e]
    rw [q, cond_true]; have c : (l8 fun x => if x = i then min (g a) (g b) else if x < i then joinL g a b x else g x) = l8 fun x => if x < i + 1 then joinL g a b x else g x := by
     apply zJq; intro x _
     by_cases e1 : x = i
     · subst e1; rw [if_pos rfl, if_pos (by omega)]; unfold joinL; rw [if_pos e]
     · rw [if_neg e1]
       by_cases e2 : x < i
       · rw [if_pos e2, if_pos (by omega)]
       · rw [if_neg e2, if_neg (by omega)]
    rw [c]; exact ih (i + 1) (by omega)
  · have q : ((g i : Int) == ((max (g a) (g b) : Nat) : Int)) = false := by
     have : ¬ ((g i : Int) = ((max (g a) (g b) : Nat) : Int)) := by omega
     simp only [beq_eq_false_iff_ne, ne_eq]; exact this
    rw [q, cond_false]; have c : (l8 fun x => if x < i then joinL g a b x else g x) = l8 fun x => if x < i + 1 then joinL g a b x else g x := by
     apply zJq; intro x _
     by_cases e1 : x = i
     · subst e1; rw [if_neg (by omega), if_pos (by omega)]; unfold joinL; rw [if_neg e]
     · by_cases e2 : x < i
       · rw [if_pos e2, if_pos (by omega)]
       · rw [if_neg e2, if_neg (by omega)]
    rw [c]; exact ih (i + 1) (by omega)
theorem zSP {n : Nat} {f g : Nat → Nat} (h : Can n g) (e : ∀ x, x < n → f x = g x) : Can n f := fun x hx => by
 obtain ⟨h1, h2⟩ := h x hx; rw [e x hx, e (g x) (by omega)]; exact ⟨h1, h2⟩
theorem zMS (n : Nat) (h1 : 1 ≤ n) (hn : n ≤ 8) (x3 : List Int) : ∀ (k : Nat) (s : Sc) (g : Nat → Nat), Src s → Can n g → k ≤ 100 → ∃ (s' : Sc) (g' : Nat → Nat) (x3' : List Int), R zAr [tI s.2.1, tU64 s.2.2, tLU8 s.1, tA8 x3, tAi8 (l8 g), tI (n : Int), tI (k : Int)] = some [tI 0, tI s'.2.1, tU64 s'.2.2, tLU8 s'.1, tA8 x3', tAi8 (l8 g'), tI (n : Int)] ∧ Src s' ∧ Can n g' := by
 intro k
 induction k with
 | zero =>
  intro s g hs hg _; refine ⟨s, g, x3, ?_, hs, hg⟩; apply zDS; simp [zAw]
 | succ k ih =>
  intro s g hs hg hk; obtain ⟨a, s1, e1, hs1, a0, a1⟩ := zAu s hs (n : Int); obtain ⟨b, s2, e2, hs2, b0, b1⟩ := zAu s1 hs1 (n : Int); have a1' := a1 (by omega); have b1' := b1 (by omega); obtain ⟨a, rfl⟩ : ∃ x : Nat, a = (x : Int) := ⟨a.toNat, by omega⟩; obtain ⟨b, rfl⟩ : ∃ x : Nat, b = (x : Int) := ⟨b.toNat, by omega⟩; have e8 := zMR n hn g a b (by omega) (by omega) s2.2.1 s2.2.2 ((k + 1 : Nat) : Int) s2.1 x3 n 0 (by omega); have c0 : (l8 fun x => if x < 0 then joinL g a b x else g x) = l8 g := zJq (fun x _ => if_neg (by omega)); rw [c0] at e8; simp only [Int.natCast_zero] at e8; have ec := zFi n hn (fun x => if x < n then joinL g a b x else g x) (l8 fun x => if x < n then joinL g a b x else g x) (fun x hx => zKt (by omega)); have p1 : decide ((0 : Int) < ((k + 1 : Nat) : Int)) = true := decide_eq_true (by omega); have w : wi64 (((k + 1 : Nat) : Int) - 1) = (k : Int) := by rw [zB] <;> omega
  have hj : Can n (fun x => if x < n then joinL g a b x else g x) := zSP (zPM hg (a := a) (b := b) (by omega) (by omega)) (fun x hx => if_pos hx)
  cases hc : crs n (fun x => if x < n then joinL g a b x else g x) with
  | false =>
   rw [hc] at ec; obtain ⟨s', g', x3', e9, hs', hg'⟩ := ih s2 _ hs2 hj (by omega); refine ⟨s', g', x3', ?_, hs', hg'⟩; apply zDS; simp only [zAw, p1, cond_true, e1, e2, e8, ec, w, Option.bind_some, getTV_here, getTV_next, Bool.not_false]; exact e9
  | true =>
   rw [hc] at ec; obtain ⟨s', g', x3', e9, hs', hg'⟩ := ih s2 g hs2 hg (by omega); refine ⟨s', g', x3', ?_, hs', hg'⟩; apply zDS; simp only [zAw, p1, cond_true, cond_false, e1, e2, e8, ec, w, Option.bind_some, getTV_here, getTV_next, Bool.not_true]; exact e9
theorem zJJ (s : Sc) (hs : Src s) (n : Nat) (h1 : 1 ≤ n) (hn : n ≤ 8) : ∃ (g : Nat → Nat) (s' : Sc), R zAL [zD s, tI (n : Int)] = some [tA8 (A8 n (mdf n g)), zD s'] ∧ Src s' ∧ Can n g := by
 obtain ⟨k, s1, e1, hs1, k0, k1⟩ := zAu s hs 8; have k1' := k1 (by omega); have hid : Can n (fun x => x) := fun x _ => ⟨Nat.le_refl _, rfl⟩; obtain ⟨s2, g, x3, e2, hs2, hg⟩ := zMS n h1 hn (List.replicate 8 0) k.toNat s1 (fun x => x) hs1 hid (by omega); rw [show ((k.toNat : Nat) : Int) = k by omega] at e2; have e3 := zLQ n hn g (l8 g) (fun x hx => zKt (by omega)) hg; have el : l8 (fun x => x) = [0, 1, 2, 3, 4, 5, 6, 7] := by decide
 rw [el] at e2; refine ⟨g, s2, ?_, hs2, hg⟩; apply zNb; simp only [zGE, e1, e2, e3, Option.bind_some, getTV_here, getTV_next]
theorem zLE (s : Sc) (hs : Src s) (n : Nat) (h1 : 1 ≤ n) (hn : n ≤ 8) : ∃ (r : List Int) (s' : Sc), R zAL [zD s, tI (n : Int)] = some [tA8 r, zD s'] ∧ Src s' ∧ B8 r := by
 obtain ⟨g, s', e, hs', hg⟩ := zJJ s hs n h1 hn; obtain ⟨p, ep, _⟩ := zGk hg; exact ⟨_, s', e, hs', by rw [ep]; exact zOs hn p⟩
end Go.Ev.YtknhngnhjdpedaaGreat
namespace Go.Ev.YtknhngnhjdpedaaGreat
open Go.Ev Go.Gar
def Lf (n : Nat) (g : Nat → Int) : List Int := (List.range n).map g
theorem zEK (n : Nat) (g : Nat → Int) : (Lf n g).length = n := by simp [Lf]
theorem zQE {n : Nat} {g : Nat → Int} {i : Nat} (h : i < n) : List.getD (Lf n g) i 0 = g i := by
 rw [zBi (by rw [zEK]; exact h)]; simp [Lf]
theorem zRc {n : Nat} {g : Nat → Int} {k : Nat} {v : Int} (h : k < n) : List.set (Lf n g) k v = Lf n (fun i => if i = k then v else g i) := by
 apply List.ext_getElem
 · rw [List.length_set, zEK, zEK]
 · intro i h1 h2; rw [List.getElem_set]; simp only [Lf, List.getElem_map, List.getElem_range]
   by_cases e : k = i
   · simp [e]
   · have : ¬ i = k := fun h => e h.symm; simp [e, this]
theorem zQ7 {n : Nat} {g h : Nat → Int} (e : ∀ i, i < n → g i = h i) : Lf n g = Lf n h := by
 apply List.ext_getElem
 · rw [zEK, zEK]
 · intro i h1 h2; simp only [Lf, List.getElem_map, List.getElem_range]; exact e i (by rw [zEK] at h1; exact h1)
theorem zSb {n : Nat} {g : Nat → Int} {k : Nat} (h : k + 1 < n) : List.set (List.set (Lf n g) k (List.getD (Lf n g) (k + 1) 0)) (k + 1) (List.getD (Lf n g) k 0) = Lf n (fun i => g (Pm.sf k i)) := by
 rw [zQE h, zQE (show k < n by omega), zRc (show k < n by omega), zRc h]; apply zQ7; intro i hi; unfold Pm.sf
 by_cases h1 : i = k + 1
 · rw [if_pos h1, if_neg (show ¬ i = k by omega), if_pos h1]
 · rw [if_neg h1]
   by_cases h2 : i = k
   · rw [if_pos h2, if_pos h2]
   · rw [if_neg h2, if_neg h2, if_neg h1]
def xch (g : Nat → Int) (x : Int) : Nat → Int := fun i => g (Pm.sf (x.natAbs - 1) i)
theorem zSg {n : Nat} {a b : List Int} (h : BE n a b) (g : Nat → Int) : a.foldl xch g = b.foldl xch g := by
 refine h.fold (P := fun _ => True) (f := xch) (fun _ _ _ => trivial) ?_ ?_ ?_ g trivial
 · intro s x _ _; funext i; show s (Pm.sf (x.natAbs - 1) (Pm.sf ((-x).natAbs - 1) i)) = s i; rw [Int.natAbs_neg, Pm.sf_sf]
 · intro s i j _ hij _; funext k; show s (Pm.sf _ (Pm.sf _ k)) = s (Pm.sf _ (Pm.sf _ k)); rw [show (((i + 1 : Nat) : Int)).natAbs - 1 = i by omega, show (((j + 1 : Nat) : Int)).natAbs - 1 = j by omega]; congr 1; unfold Pm.sf
   repeat' split
   all_goals omega
 · intro s i _ _; funext k; show s (Pm.sf _ (Pm.sf _ (Pm.sf _ k))) = s (Pm.sf _ (Pm.sf _ (Pm.sf _ k))); rw [show (((i + 1 : Nat) : Int)).natAbs - 1 = i by omega, show (((i + 2 : Nat) : Int)).natAbs - 1 = i + 1 by omega]; congr 1; have g1 : Pm.sf i i = i + 1 := by simp [Pm.sf]
   have g2 : Pm.sf (i + 1) i = i := by unfold Pm.sf; rw [if_neg (by omega), if_neg (by omega)]
   have g3 : Pm.sf i (i + 1) = i := by unfold Pm.sf; rw [if_neg (by omega), if_pos rfl]
   have g4 : Pm.sf (i + 1) (i + 1) = i + 2 := by simp [Pm.sf]
   have g5 : Pm.sf (i + 1) (i + 2) = i + 1 := by unfold Pm.sf; rw [if_neg (by omega), if_pos rfl]
   have g6 : Pm.sf i (i + 2) = i + 2 := by unfold Pm.sf; rw [if_neg (by omega), if_neg (by omega)]
   by_cases x1 : k = i
   · subst x1; simp only [g1, g2, g3, g4, g5, g6]
   · by_cases x2 : k = i + 1
     · subst x2; simp only [g1, g2, g3, g4, g5, g6]
     · by_cases x3 : k = i + 2
       · subst x3; simp only [g1, g2, g3, g4, g5, g6]
       · have g7 : Pm.sf i k = k := by unfold Pm.sf; rw [if_neg x1, if_neg x2]
         have g8 : Pm.sf (i + 1) k = k := by unfold Pm.sf; rw [if_neg x2, if_neg x3]
         simp only [g7, g8]
theorem zST (x : Int) (h : -1000000000 ≤ x) (h' : x ≤ 1000000000) : R zL0 [tI x] = some [tI (x.natAbs : Int)] := by
 apply zRj; rw [zMf, zB (by omega) (by omega)]; have : mx x (0 - x) = (x.natAbs : Int) := by simp only [mx]; split <;> omega
 rw [this]
theorem zOI (n : Nat) (hn : n ≤ 8) (w : List Int) (hw : ∀ x ∈ w, Lr n x) (hl : w.length ≤ 1000) : ∀ (d i : Nat) (g : Nat → Int), i + d = w.length → R zCw [tLI (Lf n g), tLI w, tI (w.length : Int), tI (i : Int)] = some [tI 0, tLI (Lf n ((w.drop i).foldl xch g))] := by
 intro d
 induction d with
 | zero =>
  intro i g h; apply zHK; have p1 : decide ((i : Int) < ((w.length : Nat) : Int)) = false := decide_eq_false (by omega); rw [List.drop_eq_nil_of_le (by omega)]; simp only [zDE, p1, cond_false, List.foldl_nil]
 | succ d ih =>
  intro i g h; have hi : i < w.length := by omega
  have hx := hw _ (List.getElem_mem hi); unfold Lr at hx; have hk : w[i].natAbs - 1 + 1 < n := by omega
  have p1 : decide ((i : Int) < ((w.length : Nat) : Int)) = true := decide_eq_true (by omega); have p2 : decide (0 ≤ (i : Int)) = true := decide_eq_true (by omega); have w1 : wi64 ((i : Int) + 1) = ((i + 1 : Nat) : Int) := by rw [zB] <;> omega
  have sz := zST w[i] (by omega) (by omega); have w2 : wi64 ((w[i].natAbs : Int) - 1) = ((w[i].natAbs - 1 : Nat) : Int) := by rw [zB] <;> omega
  have q1 : decide (0 ≤ ((w[i].natAbs - 1 : Nat) : Int)) = true := decide_eq_true (by omega); have q2 : decide (((w[i].natAbs - 1 : Nat) : Int) < ((n : Nat) : Int)) = true := decide_eq_true (by omega); have q3 : decide (0 ≤ (w[i].natAbs : Int)) = true := decide_eq_true (by omega); have q4 : decide ((w[i].natAbs : Int) < ((n : Nat) : Int)) = true := decide_eq_true (by omega); have eo : ∀ a b c : Int, R zEa [tI a, tI b, tI c] = some [] := fun a b c => by
   apply zLY; simp only [zEm]
  have t1 : (((w[i].natAbs - 1 : Nat) : Int)).toNat = w[i].natAbs - 1 := Int.toNat_natCast _; have t2 : ((w[i].natAbs : Int)).toNat = w[i].natAbs - 1 + 1 := by omega
  apply zHK; simp only [zDE, p1, p2, cond_true, Bool.and_true, Int.toNat_natCast, zBi hi, sz, Option.bind_some, getTV_here, w2, zEK, List.length_set, q1, q2, q3, q4, eo, w1]; have t3 : w[i].natAbs = w[i].natAbs - 1 + 1 := by omega
  rw [show List.set (List.set (Lf n g) (w[i].natAbs - 1) (List.getD (Lf n g) w[i].natAbs 0)) w[i].natAbs (List.getD (Lf n g) (w[i].natAbs - 1) 0) = Lf n (xch g w[i]) by
   have := zSb (g := g) hk; rw [← t3] at this; exact this]
  rw [ih (i + 1) _ (by omega)]; have da : w.drop i = w[i] :: w.drop (i + 1) := List.drop_eq_getElem_cons _; rw [da, List.foldl_cons]
theorem zIl (n : Nat) (hn : n ≤ 8) : ∀ (d i : Nat), i + d = n → R jI [tLI (Lf i fun x => (x : Int)), tI (n : Int), tI (i : Int)] = some [tI 0, tLI (Lf n fun x => (x : Int))] := by
 intro d
 induction d with
 | zero =>
  intro i h; obtain rfl : i = n := by omega
  apply zAW; have p1 : decide ((i : Int) < (i : Int)) = false := decide_eq_false (by omega); simp only [kW, p1, cond_false]
 | succ d ih =>
  intro i h; apply zAW; have p1 : decide ((i : Int) < (n : Int)) = true := decide_eq_true (by omega); have w1 : wi64 ((i : Int) + 1) = ((i + 1 : Nat) : Int) := by rw [zB] <;> omega
  have ap : apOk (Lf i fun x => (x : Int)) [(i : Int)] = true := zG3 (by rw [zEK]; omega); have e : (Lf i fun x => (x : Int)) ++ [(i : Int)] = Lf (i + 1) fun x => (x : Int) := by
   simp only [Lf, List.range_succ, List.map_append, List.map_cons, List.map_nil]
  simp only [kW, p1, cond_true, ap, e, w1, ih (i + 1) (by omega)]
theorem zQo (n : Nat) (hn : n ≤ 8) (w : List Int) (hw : ∀ x ∈ w, Lr n x) (hl : w.length ≤ 1000) : R zHp [jE ((n : Int), w)] = some [tLI (Lf n (w.foldl xch fun x => (x : Int)))] := by
 have s : R zAs [tI (n : Int)] = some [tLI (Lf n fun x => (x : Int))] := by
  apply zGX; have h := zIl n hn n 0 (by omega); have e : (Lf 0 fun x => (x : Int)) = [] := rfl; rw [e] at h; simp only [Int.natCast_zero] at h; simp only [zCF, h, Option.bind_some, getTV_here, getTV_next]
 have f := zOI n hn w hw hl w.length 0 (fun x => (x : Int)) (by omega); simp only [Int.natCast_zero, List.drop_zero] at f; apply zOb; simp only [zIM, s, f, Option.bind_some, getTV_here, getTV_next]
end Go.Ev.YtknhngnhjdpedaaGreat
