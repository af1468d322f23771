/- The braid group, as words up to the relations; bands and their relations. -/
import Derived.Test.YteclcmiopobnaaaWa
set_option linter.unusedVariables false
set_option linter.unusedSimpArgs false
namespace Go.Ev.Yteclcmiopobnaaa
open Go.Ev Go.Gar
def Wd (n : Nat) := { w : List Int // ∀ x ∈ w, Lr n x }
def WE (n : Nat) (a b : Wd n) : Prop := BE n a.1 b.1
theorem WE.eqv (n : Nat) : Equivalence (WE n) := ⟨fun a => BE.re a.1, fun h => BE.sy h, fun h h' => BE.tr h h'⟩
instance wdS (n : Nat) : Setoid (Wd n) := ⟨WE n, WE.eqv n⟩
def Bn (n : Nat) := Quotient (wdS n)
theorem lr_app {n : Nat} {u w : List Int} (h : ∀ x ∈ u, Lr n x) (h' : ∀ x ∈ w, Lr n x) : ∀ x ∈ u ++ w, Lr n x := fun x hx => by
 rcases List.mem_append.1 hx with q | q
 · exact h x q
 · exact h' x q
def Bn.mk {n : Nat} (w : List Int) (h : ∀ x ∈ w, Lr n x) : Bn n := Quotient.mk (wdS n) ⟨w, h⟩
theorem Bn.sound {n : Nat} {a b : List Int} {ha : ∀ x ∈ a, Lr n x} {hb : ∀ x ∈ b, Lr n x} (h : BE n a b) : Bn.mk a ha = Bn.mk b hb := Quotient.sound (a := (⟨a, ha⟩ : Wd n)) (b := ⟨b, hb⟩) h
theorem Bn.exact {n : Nat} {a b : List Int} {ha : ∀ x ∈ a, Lr n x} {hb : ∀ x ∈ b, Lr n x} (h : Bn.mk a ha = Bn.mk b hb) : BE n a b := Quotient.exact (a := (⟨a, ha⟩ : Wd n)) (b := ⟨b, hb⟩) h
def Bn.mul {n : Nat} (a b : Bn n) : Bn n := Quotient.liftOn₂ a b (fun u v => Bn.mk (u.1 ++ v.1) (lr_app u.2 v.2)) (fun a b c d h h' => Bn.sound ((h.right b.1).tr (h'.left c.1)))
def Bn.inv {n : Nat} (a : Bn n) : Bn n := Quotient.liftOn a (fun u => Bn.mk (invL u.1) (invL_Lr u.2)) (fun a b h => Bn.sound (h.inv a.2 b.2))
instance bnG (n : Nat) : Grp (Bn n) where
 mul := Bn.mul
 one := Bn.mk [] (fun x hx => by simp at hx)
 inv := Bn.inv
 assoc a b c := by
  induction a using Quotient.inductionOn
  induction b using Quotient.inductionOn
  induction c using Quotient.inductionOn
  rename_i a b c
  apply Bn.sound
  show BE n ((a.1 ++ b.1) ++ c.1) (a.1 ++ (b.1 ++ c.1))
  rw [List.append_assoc]
  exact BE.re _
 one_mul a := by
  induction a using Quotient.inductionOn
  rename_i a
  exact Bn.sound (BE.re _)
 mul_one a := by
  induction a using Quotient.inductionOn
  rename_i a
  apply Bn.sound
  show BE n (a.1 ++ []) a.1
  rw [List.append_nil]
  exact BE.re _
 inv_mul a := by
  induction a using Quotient.inductionOn
  rename_i a
  exact Bn.sound (BE.inv_l a.1 a.2)
 mul_inv a := by
  induction a using Quotient.inductionOn
  rename_i a
  exact Bn.sound (BE.inv_r a.1 a.2)
theorem Bn.mk_inv {n : Nat} {a : List Int} {ha : ∀ x ∈ a, Lr n x} : (Bn.mk a ha)⁻¹ = Bn.mk (invL a) (invL_Lr ha) := rfl
def sg (n p : Nat) : Bn n := if h : p + 1 < n then Bn.mk [((p + 1 : Nat) : Int)] (fun x hx => by rw [List.mem_singleton.1 hx]; unfold Lr; omega) else 1
theorem sg_eq {n p : Nat} (h : p + 1 < n) : sg n p = Bn.mk [((p + 1 : Nat) : Int)] (fun x hx => by rw [List.mem_singleton.1 hx]; unfold Lr; omega) := dif_pos h
theorem sg_far {n p q : Nat} (h : p + 2 ≤ q) : sg n p * sg n q = sg n q * sg n p := by
 by_cases hq : q + 1 < n
 · rw [sg_eq hq, sg_eq (show p + 1 < n by omega)]
   exact Bn.sound (BE.fa [] [] p q h hq)
 · have : sg n q = 1 := dif_neg hq
   rw [this, Grp.mul_one, Grp.one_mul]
theorem sg_braid {n p : Nat} (h : p + 2 < n) : sg n p * (sg n (p + 1) * sg n p) = sg n (p + 1) * (sg n p * sg n (p + 1)) := by
 rw [sg_eq (show p + 1 < n by omega), sg_eq (show p + 1 + 1 < n by omega)]
 exact Bn.sound (BE.br [] [] p h)
def bd (n s : Nat) : Nat → Bn n
 | 0 => sg n s
 | d + 1 => sg n (s + d + 1) * (bd n s d * (sg n (s + d + 1))⁻¹)
theorem conj_mul {G : Type} [Grp G] (g a b : G) : (g * (a * g⁻¹)) * (g * (b * g⁻¹)) = g * (a * b * g⁻¹) := by
 simp only [Grp.assoc, inv_mul_l]
theorem com_conj {G : Type} [Grp G] {g a c : G} (h1 : g * c = c * g) (h2 : a * c = c * a) : (g * (a * g⁻¹)) * c = c * (g * (a * g⁻¹)) := by
 have h3 : g⁻¹ * c = c * g⁻¹ := by
  have : g * (g⁻¹ * c) = g * (c * g⁻¹) := by rw [mul_inv_l, ← Grp.assoc, h1, Grp.assoc, Grp.mul_inv, Grp.mul_one]
  exact cancel_l this
 rw [Grp.assoc, Grp.assoc, h3, ← Grp.assoc a, h2, Grp.assoc c, ← Grp.assoc g, h1, Grp.assoc]
theorem bd_far {n s p : Nat} : ∀ (d : Nat), s + d + 2 ≤ p → bd n s d * sg n p = sg n p * bd n s d
 | 0, h => sg_far (by omega)
 | d + 1, h => com_conj (sg_far (by omega)) (bd_far d (by omega))
theorem bd_braid {n s : Nat} : ∀ (d : Nat), s + d + 2 < n → sg n (s + d + 1) * (bd n s d * sg n (s + d + 1)) = bd n s d * (sg n (s + d + 1) * bd n s d)
 | 0, h => (sg_braid h).symm
 | d + 1, h => by
  have ih := bd_braid (n := n) (s := s) d (by omega)
  have hb := sg_braid (n := n) (p := s + d + 1) (by omega)
  have hf := bd_far (n := n) (s := s) (p := s + d + 2) d (by omega)
  rw [bd, show s + (d + 1) + 1 = s + d + 2 by omega]
  rw [show s + d + 1 + 1 = s + d + 2 by omega] at hb
  generalize sg n (s + d + 1) = r at *
  generalize sg n (s + d + 2) = t at *
  generalize bd n s d = b at *
  have e : r * (b * r⁻¹) = b⁻¹ * (r * b) := by
   apply cancel_l (a := b)
   rw [mul_inv_l]
   have h1 : b * (r * (b * r⁻¹)) = (b * (r * b)) * r⁻¹ := by simp only [Grp.assoc]
   rw [h1, ← ih]
   simp only [Grp.assoc, Grp.mul_inv, Grp.mul_one]
  have hf' : t * b⁻¹ = b⁻¹ * t := by
   apply cancel_l (a := b)
   rw [mul_inv_l, ← Grp.assoc, hf, Grp.assoc, Grp.mul_inv, Grp.mul_one]
  rw [e]
  have l : t * (b⁻¹ * (r * b) * t) = b⁻¹ * (t * (r * t) * b) := by
   have h2 : b * t = t * b := hf
   rw [← Grp.assoc t, ← Grp.assoc t, hf']
   simp only [Grp.assoc, h2]
  have r' : b⁻¹ * (r * b) * (t * (b⁻¹ * (r * b))) = b⁻¹ * (r * (t * r) * b) := by
   rw [← Grp.assoc t, hf']
   simp only [Grp.assoc, mul_inv_l]
  rw [l, r', hb]
theorem bd_three {n r : Nat} (d : Nat) : ∀ (e : Nat), r + d + 1 + e + 1 < n → bd n (r + d + 1) e * bd n r d = bd n r (d + 1 + e) * bd n (r + d + 1) e ∧ bd n (r + d + 1) e * bd n r d = bd n r d * bd n r (d + 1 + e)
 | 0, h => by
  have hb := bd_braid (n := n) (s := r) d (by omega)
  have e1 : bd n r (d + 1 + 0) = sg n (r + d + 1) * (bd n r d * (sg n (r + d + 1))⁻¹) := rfl
  have e2 : bd n (r + d + 1) 0 = sg n (r + d + 1) := rfl
  rw [e1, e2]
  generalize sg n (r + d + 1) = t at *
  generalize bd n r d = b at *
  constructor
  · simp only [Grp.assoc, Grp.inv_mul, Grp.mul_one]
  · have h1 : b * (t * (b * t⁻¹)) = (b * (t * b)) * t⁻¹ := by simp only [Grp.assoc]
    rw [h1, ← hb]
    simp only [Grp.assoc, Grp.mul_inv, Grp.mul_one]
 | e + 1, h => by
  obtain ⟨i1, i2⟩ := bd_three (n := n) (r := r) d e (by omega)
  have hf := bd_far (n := n) (s := r) (p := r + d + 1 + e + 1) d (by omega)
  have e1 : bd n r (d + 1 + (e + 1)) = sg n (r + d + 1 + e + 1) * (bd n r (d + 1 + e) * (sg n (r + d + 1 + e + 1))⁻¹) := by
   have q : bd n r (d + 1 + e + 1) = sg n (r + (d + 1 + e) + 1) * (bd n r (d + 1 + e) * (sg n (r + (d + 1 + e) + 1))⁻¹) := rfl
   rw [show r + (d + 1 + e) + 1 = r + d + 1 + e + 1 by omega] at q
   exact q
  have e2 : bd n (r + d + 1) (e + 1) = sg n (r + d + 1 + e + 1) * (bd n (r + d + 1) e * (sg n (r + d + 1 + e + 1))⁻¹) := rfl
  rw [e1, e2]
  generalize sg n (r + d + 1 + e + 1) = t at *
  have hc : bd n r d = t * (bd n r d * t⁻¹) := by
   rw [← Grp.assoc, ← hf, Grp.assoc, Grp.mul_inv, Grp.mul_one]
  constructor
  · have k : t * (bd n (r + d + 1) e * t⁻¹) * bd n r d = t * (bd n (r + d + 1) e * t⁻¹) * (t * (bd n r d * t⁻¹)) := by rw [← hc]
    rw [k, conj_mul, conj_mul, i1]
  · have k : t * (bd n (r + d + 1) e * t⁻¹) * bd n r d = t * (bd n (r + d + 1) e * t⁻¹) * (t * (bd n r d * t⁻¹)) := by rw [← hc]
    have k' : bd n r d * (t * (bd n r (d + 1 + e) * t⁻¹)) = (t * (bd n r d * t⁻¹)) * (t * (bd n r (d + 1 + e) * t⁻¹)) := by rw [← hc]
    rw [k, k', conj_mul, conj_mul, i2]
theorem bd_disj {n p s : Nat} (d : Nat) : ∀ (e : Nat), p + d + 2 ≤ s → bd n s e * bd n p d = bd n p d * bd n s e
 | 0, h => (bd_far d (by omega)).symm
 | e + 1, h => com_conj (bd_far d (by omega)).symm (bd_disj d e h)
theorem bd_nest {n s p : Nat} (d : Nat) : ∀ (e : Nat), s < p → p + d + 1 < s + e + 1 → s + e + 1 < n → bd n s e * bd n p d = bd n p d * bd n s e
 | 0, h1, h2, _ => by omega
 | e + 1, h1, h2, h3 => by
  by_cases h : p + d + 1 < s + e + 1
  · exact com_conj (by
     have := bd_far (n := n) (s := p) (p := s + e + 1) d (by omega)
     exact this.symm) (bd_nest d e h1 h (by omega))
  ·
   obtain ⟨f, rfl⟩ : ∃ f, p = s + f + 1 := ⟨p - s - 1, by omega⟩
   obtain rfl : e = f + 1 + d := by omega
   obtain ⟨t1, t2⟩ := bd_three (n := n) (r := s) f d (by omega)
   have hb := bd_braid (n := n) (s := s + f + 1) d (by omega)
   have hf := bd_far (n := n) (s := s) (p := s + f + 1 + d + 1) f (by omega)
   have e1 : bd n s (f + 1 + d + 1) = sg n (s + f + 1 + d + 1) * (bd n s (f + 1 + d) * (sg n (s + f + 1 + d + 1))⁻¹) := by
    have q : bd n s (f + 1 + d + 1) = sg n (s + (f + 1 + d) + 1) * (bd n s (f + 1 + d) * (sg n (s + (f + 1 + d) + 1))⁻¹) := rfl
    rw [show s + (f + 1 + d) + 1 = s + f + 1 + d + 1 by omega] at q
    exact q
   rw [e1]
   generalize sg n (s + f + 1 + d + 1) = t at *
   generalize bd n (s + f + 1) d = a at *
   generalize bd n s f = b at *
   generalize bd n s (f + 1 + d) = c at *
   have hc : c = a * (b * a⁻¹) := by
    have : c * a = a * (b * a⁻¹) * a := by rw [← t1]; simp only [Grp.assoc, Grp.inv_mul, Grp.mul_one]
    have h4 : c * a * a⁻¹ = a * (b * a⁻¹) * a * a⁻¹ := by rw [this]
    simpa only [Grp.assoc, Grp.mul_inv, Grp.mul_one] using h4
   have q1 : a * t * a = t * a * t := by simp only [Grp.assoc]; exact hb.symm
   rw [hc]
   have hti : t⁻¹ * a = a * (t * (a⁻¹ * t⁻¹)) := by
    apply cancel_l (a := t)
    rw [mul_inv_l]
    have : t * (a * (t * (a⁻¹ * t⁻¹))) = (t * (a * t)) * (a⁻¹ * t⁻¹) := by simp only [Grp.assoc]
    rw [this, hb]
    simp only [Grp.assoc, mul_inv_l, Grp.mul_inv, Grp.mul_one]
   have lhs : t * (a * (b * a⁻¹) * t⁻¹) * a = t * (a * (b * (t * (a⁻¹ * t⁻¹)))) := by
    simp only [Grp.assoc]
    rw [hti, inv_mul_l]
   have rhs : a * (t * (a * (b * a⁻¹) * t⁻¹)) = t * (a * (t * (b * (a⁻¹ * t⁻¹)))) := by
    have : a * (t * (a * (b * a⁻¹) * t⁻¹)) = (a * (t * a)) * (b * (a⁻¹ * t⁻¹)) := by simp only [Grp.assoc]
    rw [this, ← hb]
    simp only [Grp.assoc]
   rw [lhs, rhs]
   have hf2 : b * (t * (a⁻¹ * t⁻¹)) = t * (b * (a⁻¹ * t⁻¹)) := by rw [← Grp.assoc, hf, Grp.assoc]
   rw [hf2]
end Go.Ev.Yteclcmiopobnaaa
