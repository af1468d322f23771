/- Parts as braids: bands from the top down, and products. -/
import Derived.Test.YteclcmiopobnaaaWe
import Derived.Test.YteclcmiopobnaaaMx1
set_option linter.unusedVariables false
set_option linter.unusedSimpArgs false
namespace Go.Ev.Yteclcmiopobnaaa.P
open Go.Ev.Yteclcmiopobnaaa
open Go.Ev Go.Gar
def trf (a b x : Nat) : Nat := if x = a then b else if x = b then a else x
theorem trf_a (a b : Nat) : trf a b a = b := by simp [trf]
theorem trf_b (a b : Nat) : trf a b b = a := by unfold trf; by_cases h : b = a <;> simp [h]
theorem trf_o {a b x : Nat} (h : x ≠ a) (h' : x ≠ b) : trf a b x = x := by simp [trf, h, h']
theorem trf_trf (a b x : Nat) : trf a b (trf a b x) = x := by
 by_cases h : x = a
 · rw [h, trf_a, trf_b]
 · by_cases h' : x = b
   · rw [h', trf_b, trf_a]
   · rw [trf_o h h', trf_o h h']
def tau (n a b : Nat) : Pm n := if h : a < n ∧ b < n then ⟨trf a b, trf a b, trf_trf a b, trf_trf a b, fun x hx => trf_o (by omega) (by omega)⟩ else 1
theorem tau_f {n a b : Nat} (ha : a < n) (hb : b < n) (x : Nat) : (tau n a b).f x = trf a b x := by unfold tau; rw [dif_pos ⟨ha, hb⟩]
theorem tau_g {n a b : Nat} (ha : a < n) (hb : b < n) (x : Nat) : (tau n a b).g x = trf a b x := by unfold tau; rw [dif_pos ⟨ha, hb⟩]
theorem tau_tau {n a b : Nat} (ha : a < n) (hb : b < n) : tau n a b * tau n a b = 1 := Pm.ext fun x => by
 show (tau n a b).f ((tau n a b).f x) = x
 rw [tau_f ha hb, tau_f ha hb, trf_trf]
theorem tau_l {n a b : Nat} (ha : a < n) (hb : b < n) (x : Pm n) : tau n a b * (tau n a b * x) = x := by rw [← Grp.assoc, tau_tau ha hb, Grp.one_mul]
def Bd (n a b : Nat) : Bn n := bd n a (b - a - 1)
theorem Bd_three {n r s t : Nat} (h1 : r < s) (h2 : s < t) (h3 : t < n) : Bd n s t * Bd n r s = Bd n r t * Bd n s t ∧ Bd n s t * Bd n r s = Bd n r s * Bd n r t := by
 have h := bd_three (n := n) (r := r) (s - r - 1) (t - s - 1) (by omega)
 rw [show r + (s - r - 1) + 1 = s by omega, show s - r - 1 + 1 + (t - s - 1) = t - r - 1 by omega] at h
 exact h
theorem Bd_com {n a b m k : Nat} (hab : a < b) (hbk : b < k) (hmk : m < k) (hk : k < n) (h : b < m ∨ m < a) : Bd n m k * Bd n a b = Bd n a b * Bd n m k := by
 rcases h with h | h
 · exact bd_disj (b - a - 1) (k - m - 1) (by omega)
 · exact bd_nest (b - a - 1) (k - m - 1) h (by omega) (by omega)
def th (n : Nat) : Nat → Pm n → Bn n
 | 0, _ => 1
 | k + 1, x => if x.g k < k then Bd n (x.g k) k * th n k (tau n (x.g k) k * x) else th n k x
def Sup {n : Nat} (k : Nat) (x : Pm n) : Prop := ∀ z, k ≤ z → x.f z = z
theorem Sup.g {n k : Nat} {x : Pm n} (h : Sup k x) {z : Nat} (hz : k ≤ z) : x.g z = z := by
 have := x.gf z
 rw [h z hz] at this
 exact this
theorem Sup.g_lt {n k : Nat} {x : Pm n} (h : Sup k x) {z : Nat} (hz : z < k) : x.g z < k := by
 by_cases h' : x.g z < k
 · exact h'
 · have e := h (x.g z) (by omega)
   rw [x.fg] at e
   omega
theorem Sup.f_lt {n k : Nat} {x : Pm n} (h : Sup k x) {z : Nat} (hz : z < k) : x.f z < k := by
 by_cases h' : x.f z < k
 · exact h'
 · have e := h.g (z := x.f z) (by omega)
   rw [x.gf] at e
   omega
theorem Sup.down {n k : Nat} {x : Pm n} (h : Sup (k + 1) x) (hk : x.g k = k) : Sup k x := fun z hz => by
 by_cases e : z = k
 · subst e
   have := x.fg z
   rw [hk] at this
   exact this
 · exact h z (by omega)
def Inc {n : Nat} (x : Pm n) : Prop := ∀ z w, z < x.f z → Eo x z w → w < x.f z → w ≤ z
def Nc {n : Nat} (x : Pm n) : Prop := ∀ a b c d, a < b → b < c → c < d → Eo x a c → Eo x b d → Eo x a b
theorem Eo.fix {n : Nat} {x : Pm n} {k : Nat} (h : x.f k = k) {p q : Nat} (e : Eo x p q) : p = k ↔ q = k := by
 induction e with
 | re x => exact Iff.rfl
 | st z =>
  constructor
  · rintro rfl; exact h
  · intro e
    rw [← h] at e
    exact x.inj e
 | sy _ ih => exact ih.symm
 | tr _ _ i1 i2 => exact i1.trans i2
theorem Eo.sub {n : Nat} {x y : Pm n} (h : ∀ z, Eo y z (x.f z)) {p q : Nat} (e : Eo x p q) : Eo y p q := by
 induction e with
 | re x => exact .re x
 | st z => exact h z
 | sy _ ih => exact ih.sy
 | tr _ _ i1 i2 => exact i1.tr i2
structure Rem {n : Nat} (k m : Nat) (y y' : Pm n) : Prop where
 sup : Sup k y'
 sub : ∀ p q, Eo y' p q → Eo y p q
 keep : ∀ p q, Eo y p q → p ≠ k → q ≠ k → Eo y' p q
 inc : Inc y → Inc y'
 nc : Nc y → Nc y'
theorem rem {n k m : Nat} {y : Pm n} (hk : k < n) (hS : Sup (k + 1) y) (hm : m < k) (hy : y.f m = k) : Rem k m y (tau n m k * y) := by
 have hmn : m < n := by omega
 have f : ∀ z, (tau n m k * y).f z = y.f (trf m k z) := fun z => by
  show y.f ((tau n m k).f z) = _
  rw [tau_f hmn hk]
 have fm : (tau n m k * y).f m = y.f k := by rw [f, trf_a]
 have fk : (tau n m k * y).f k = k := by rw [f, trf_b, hy]
 have fo : ∀ z, z ≠ m → z ≠ k → (tau n m k * y).f z = y.f z := fun z h1 h2 => by rw [f, trf_o h1 h2]
 have hyk : y.f k ≠ k := fun h => by
  have := y.inj (hy.trans h.symm)
  omega
 have sub : ∀ p q, Eo (tau n m k * y) p q → Eo y p q := fun p q e => by
  refine Eo.sub (fun z => ?_) e
  by_cases h1 : z = m
  · rw [h1, fm]
    have := (Eo.st (s := y) m).tr (by rw [hy]; exact Eo.st (s := y) k)
    exact this
  · by_cases h2 : z = k
    · rw [h2, fk]; exact .re k
    · rw [fo z h1 h2]; exact .st z
 have key : ∀ p q, Eo y p q → Eo (tau n m k * y) (if p = k then m else p) (if q = k then m else q) := fun p q e => by
  induction e with
  | re x => exact .re _
  | st z =>
   by_cases h1 : z = m
   · rw [h1, if_neg (by omega), hy, if_pos rfl]
     exact .re m
   · by_cases h2 : z = k
     · rw [if_pos h2, h2, if_neg hyk, ← fm]
       exact .st m
     · have h3 : y.f z ≠ k := fun h => h1 (y.inj (h.trans hy.symm))
       rw [if_neg h2, if_neg h3, ← fo z h1 h2]
       exact .st z
  | sy _ ih => exact ih.sy
  | tr _ _ i1 i2 => exact i1.tr i2
 have keep : ∀ p q, Eo y p q → p ≠ k → q ≠ k → Eo (tau n m k * y) p q := fun p q e h1 h2 => by
  have := key p q e
  rw [if_neg h1, if_neg h2] at this
  exact this
 refine ⟨fun z hz => ?_, sub, keep, ?_, ?_⟩
 · by_cases h : z = k
   · rw [h, fk]
   · rw [fo z (by omega) h]
     exact hS z (by omega)
 · intro hI z w hz e hw
   by_cases h1 : z = m
   · subst h1
     rw [fm] at hz hw
     have hlt : y.f k < k := by
      have := hS.f_lt (z := k) (by omega)
      omega
     have e2 : Eo y z (y.f k) := (Eo.st (s := y) z).tr (by rw [hy]; exact Eo.st (s := y) k)
     have := hI z (y.f k) (by rw [hy]; exact hm) e2 (by rw [hy]; exact hlt)
     omega
   · by_cases h2 : z = k
     · rw [h2, fk] at hz; omega
     · rw [fo z h1 h2] at hz hw
       exact hI z w hz (sub _ _ e) hw
 · intro hN a b c d h1 h2 h3 e1 e2
   have hne : ∀ {p q}, Eo (tau n m k * y) p q → p ≠ q → p ≠ k ∧ q ≠ k := fun {p q} e hpq => by
    have := Eo.fix fk e
    constructor
    · intro h
      exact hpq (h.trans (this.1 h).symm)
    · intro h
      exact hpq ((this.2 h).trans h.symm)
   have k1 := hne e1 (by omega)
   have k2 := hne e2 (by omega)
   exact keep _ _ (hN a b c d h1 h2 h3 (sub _ _ e1) (sub _ _ e2)) k1.1 k2.1
theorem tau_conj {n a b m k : Nat} (ha : a < n) (hb : b < n) (hm : m < n) (hk : k < n) (hka : k ≠ a) (hkb : k ≠ b) : tau n (trf a b m) k * tau n a b = tau n a b * tau n m k := by
 have hm2 : trf a b m < n := by unfold trf; split; exact hb; split; exact ha; exact hm
 apply Pm.ext
 intro z
 show (tau n a b).f ((tau n (trf a b m) k).f z) = (tau n m k).f ((tau n a b).f z)
 rw [tau_f hm2 hk, tau_f ha hb, tau_f ha hb, tau_f hm hk]
 by_cases h1 : z = trf a b m
 · rw [h1, trf_a, trf_trf, trf_a, trf_o hka hkb]
 · by_cases h2 : z = k
   · rw [h2, trf_b, trf_trf, trf_o hka hkb, trf_b]
   · have h3 : trf a b z ≠ m := fun h => h1 (by rw [← h, trf_trf])
     have h4 : trf a b z ≠ k := fun h => h2 (by
      have : trf a b (trf a b z) = trf a b k := by rw [h]
      rw [trf_trf, trf_o hka hkb] at this
      exact this)
     rw [trf_o h1 h2, trf_o h3 h4]
theorem tau_three {n a m k : Nat} (ha : a < n) (hm : m < n) (hk : k < n) (h1 : a ≠ m) (h2 : m ≠ k) (h3 : a ≠ k) : tau n m k * (tau n a k * tau n m k) = tau n a m := by
 apply Pm.ext
 intro z
 show (tau n m k).f ((tau n a k).f ((tau n m k).f z)) = (tau n a m).f z
 rw [tau_f hm hk, tau_f ha hk, tau_f hm hk, tau_f ha hm]
 by_cases e1 : z = a
 · rw [e1, trf_o h1 h3, trf_a, trf_b, trf_a]
 · by_cases e2 : z = m
   · rw [e2, trf_a, trf_b, trf_o h1 h3, trf_b]
   · by_cases e3 : z = k
     · rw [e3, trf_b, trf_o h1.symm h2, trf_a, trf_o h3.symm h2.symm]
     · rw [trf_o e2 e3, trf_o e1 e3, trf_o e2 e3, trf_o e1 e2]
theorem th_band {n : Nat} : ∀ (k a b : Nat) (x : Pm n), k ≤ n → a < b → b < k → Sup k x → Inc (tau n a b * x) → Nc (tau n a b * x) → (∀ p q, Eo x p q → Eo (tau n a b * x) p q) → Eo (tau n a b * x) a b →
  th n k (tau n a b * x) = Bd n a b * th n k x
 | 0, a, b, x, _, _, hb, _, _, _, _, _ => by omega
 | k + 1, a, b, x, hn, hab, hb, hS, hI, hN, hE, hab2 => by
  have hk : k < n := by omega
  have han : a < n := by omega
  have hbn : b < n := by omega
  have yf : ∀ z, (tau n a b * x).f z = x.f (trf a b z) := fun z => by
   show x.f ((tau n a b).f z) = _
   rw [tau_f han hbn]
  have yg : ∀ z, (tau n a b * x).g z = trf a b (x.g z) := fun z => by
   show (tau n a b).g (x.g z) = _
   rw [tau_g han hbn]
  have hSy : Sup (k + 1) (tau n a b * x) := fun z hz => by rw [yf, trf_o (by omega) (by omega)]; exact hS z hz
  have hg : x.g k < k + 1 := hS.g_lt (by omega)
  by_cases hbk : b = k
  · subst hbk
    by_cases hxk : x.g b = b
    ·
     have e1 : (tau n a b * x).g b = a := by rw [yg, hxk, trf_b]
     rw [th, e1, if_pos hab, tau_l han hbn, th, if_neg (by omega)]
    · have hm : x.g b < b := by omega
      have fm : x.f (x.g b) = b := x.fg b
      have hma : x.g b ≠ a := fun h => by
       have e1 : (tau n a b * x).f b = b := by rw [yf, trf_b, ← h, fm]
       have := (Eo.fix e1 hab2).2 rfl
       omega
      have e1 : (tau n a b * x).g b = x.g b := by rw [yg, trf_o hma (by omega)]
      have ym : (tau n a b * x).f (x.g b) = b := by rw [yf, trf_o hma (by omega), fm]
      have ham : a < x.g b := by
       have := hI (x.g b) a (by rw [ym]; exact hm) (by
        have s1 : Eo (tau n a b * x) (x.g b) b := by
         have := Eo.st (s := tau n a b * x) (x.g b)
         rw [ym] at this
         exact this
        exact s1.tr hab2.sy) (by rw [ym]; exact hab)
       omega
      have R := rem hk hSy hm ym
      have Rx := rem hk hS hm fm
      have e2 : tau n (x.g b) b * (tau n a b * x) = tau n a (x.g b) * (tau n (x.g b) b * x) := by
       have h3 := tau_three (n := n) (a := a) (m := x.g b) (k := b) han (by omega) hbn (by omega) (by omega) (by omega)
       rw [← h3]
       simp only [Grp.assoc]
       rw [tau_l (by omega) hbn]
      rw [th, e1, if_pos hm, th, if_pos hm, e2]
      rw [e2] at R
      rw [th_band b a (x.g b) (tau n (x.g b) b * x) (by omega) ham hm Rx.sup (R.inc hI) (R.nc hN) (fun p q e => by
       have e5 := Rx.sub p q e
       have e6 := hE p q e5
       have fk : (tau n (x.g b) b * x).f b = b := Rx.sup b (Nat.le_refl _)
       have := Eo.fix fk e
       by_cases hp : p = b
       · rw [hp, this.1 hp]; exact .re _
       · exact R.keep p q e6 hp (fun h => hp (this.2 h))) (R.keep _ _ (by
       have s1 : Eo (tau n a b * x) (x.g b) b := by
        have := Eo.st (s := tau n a b * x) (x.g b)
        rw [ym] at this
        exact this
       exact hab2.tr s1.sy) (by omega) (by omega))]
      rw [← Grp.assoc, (Bd_three ham hm hk).1, Grp.assoc]
  · have hbk' : b < k := by omega
    by_cases hxk : x.g k = k
    · have e1 : (tau n a b * x).g k = k := by rw [yg, hxk, trf_o (by omega) (by omega)]
      rw [th, e1, if_neg (by omega), th, hxk, if_neg (by omega)]
      exact th_band k a b x (by omega) hab hbk' (hS.down hxk) hI hN hE hab2
    · have hm : x.g k < k := by omega
      have fm : x.f (x.g k) = k := x.fg k
      have hm2 : trf a b (x.g k) < k := by unfold trf; split; exact hbk'; split; omega; exact hm
      have e1 : (tau n a b * x).g k = trf a b (x.g k) := yg k
      have ym : (tau n a b * x).f (trf a b (x.g k)) = k := by rw [yf, trf_trf, fm]
      have R := rem hk hSy hm2 ym
      have Rx := rem hk hS hm fm
      have e2 : tau n (trf a b (x.g k)) k * (tau n a b * x) = tau n a b * (tau n (x.g k) k * x) := by
       rw [← Grp.assoc, tau_conj han hbn (by omega) hk (by omega) (by omega), Grp.assoc]
      rw [th, e1, if_pos hm2, th, if_pos hm, e2]
      rw [e2] at R
      rw [th_band k a b (tau n (x.g k) k * x) (by omega) hab hbk' Rx.sup (R.inc hI) (R.nc hN) (fun p q e => by
       have e5 := Rx.sub p q e
       have e6 := hE p q e5
       have fk : (tau n (x.g k) k * x).f k = k := Rx.sup k (Nat.le_refl _)
       have := Eo.fix fk e
       by_cases hp : p = k
       · rw [hp, this.1 hp]; exact .re _
       · exact R.keep p q e6 hp (fun h => hp (this.2 h))) (R.keep _ _ hab2 (by omega) (by omega))]
      have s1 : Eo (tau n a b * x) (trf a b (x.g k)) k := by
       have := Eo.st (s := tau n a b * x) (trf a b (x.g k))
       rw [ym] at this
       exact this
      by_cases c1 : x.g k = a
      · rw [c1, trf_a, ← Grp.assoc, ← Grp.assoc, (Bd_three hab hbk' hk).2]
      · by_cases c2 : x.g k = b
        · exfalso
          rw [c2, trf_b] at s1 ym
          have := hI a b (by rw [ym]; omega) hab2 (by rw [ym]; exact hbk')
          omega
        · rw [trf_o c1 c2] at s1 ym ⊢
          rw [← Grp.assoc, ← Grp.assoc, Bd_com hab hbk' hm hk]
          by_cases c3 : b < x.g k
          · exact .inl c3
          · right
            by_cases c4 : x.g k < a
            · exact c4
            · exfalso
              have e7 := hN a (x.g k) b k (by omega) (by omega) hbk' hab2 s1
              have := hI (x.g k) b (by rw [ym]; exact hm) (e7.sy.tr hab2) (by rw [ym]; exact hbk')
              omega
end Go.Ev.Yteclcmiopobnaaa.P
