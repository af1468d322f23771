/- Permutations as braids, and normal forms: words of one normal form are one braid, and the other way. -/
import Derived.Test.YteclcmiopobnaaaMx1
import Derived.Test.YteclcmiopobnaaaWc
set_option linter.unusedVariables false
set_option linter.unusedSimpArgs false
namespace Go.Ev.Yteclcmiopobnaaa
open Go.Ev Go.Gar
theorem sN_join {n : Nat} (h2 : 2 ≤ n) {u s : Pm n} (h : Pm.le u s) : prod (sN u) (sN (u⁻¹ * s)) = sN s := by
 rw [sN, sN, mk_mk h2]
 exact mk_join h2 0 h
theorem sN_left {n p : Nat} (h2 : 2 ≤ n) (h : p + 1 < n) {s : Pm n} (hs : s.f (p + 1) < s.f p) : prod (sN (Pm.swap n p h)) (sN (Pm.swap n p h * s)) = sN s := by
 have := sN_join h2 (swap_le h hs)
 rw [swap_inv] at this
 exact this
theorem step_prod {n : Nat} (h2 : 2 ≤ n) (v : Nm n) (x : Int) : stepN v x = prod v (gx n x) := stepN_gx h2 v x
theorem nOf_BE {n : Nat} (h2 : 2 ≤ n) {a b : List Int} (h : BE n a b) : nOf n a = nOf n b := by
 refine h.fold (P := fun v : Nm n => (Pm.lat n).Proper v.2) (f := stepN) (fun s x hs => by rw [step_prod h2]; exact prod_P h2 _ _) ?_ ?_ ?_ (0, []) Lat.Proper.nil
 · intro s x hs hx
   rw [step_prod h2, step_prod h2, prod_assoc h2, gx_inv h2 hx.1, prod_e h2 hs]
 · intro s i j hs hij hj
   have hi : i + 1 < n := by omega
   rw [step_prod h2, step_prod h2, step_prod h2, step_prod h2, prod_assoc h2, prod_assoc h2, gx_pos hi, gx_pos hj]
   have c : Pm.swap n i hi * Pm.swap n j hj = Pm.swap n j hj * Pm.swap n i hi := by
    apply Pm.ext
    intro x
    show Pm.sf j (Pm.sf i x) = Pm.sf i (Pm.sf j x)
    unfold Pm.sf
    repeat' split
    all_goals omega
   have e1 := sN_left h2 hi (s := Pm.swap n i hi * Pm.swap n j hj) (by
    show Pm.sf j (Pm.sf i (i + 1)) < Pm.sf j (Pm.sf i i)
    unfold Pm.sf
    simp
    repeat' split
    all_goals omega)
   have e2 := sN_left h2 hj (s := Pm.swap n j hj * Pm.swap n i hi) (by
    show Pm.sf i (Pm.sf j (j + 1)) < Pm.sf i (Pm.sf j j)
    unfold Pm.sf
    simp
    repeat' split
    all_goals omega)
   rw [← Grp.assoc, swap_swap, Grp.one_mul] at e1 e2
   rw [e1, e2, c]
 · intro s i hs hi
   have h1 : i + 1 < n := by omega
   have hi' : i + 1 + 1 < n := hi
   have g1 : gx n ((i + 2 : Nat) : Int) = sN (Pm.swap n (i + 1) hi') := gx_pos hi'
   rw [step_prod h2, step_prod h2, step_prod h2, step_prod h2, step_prod h2, step_prod h2, prod_assoc h2, prod_assoc h2, prod_assoc h2, prod_assoc h2, g1, gx_pos h1]
   have f1 : Pm.sf i i = i + 1 := by simp [Pm.sf]
   have f2 : Pm.sf (i + 1) i = i := by unfold Pm.sf; rw [if_neg (by omega), if_neg (by omega)]
   have f3 : Pm.sf i (i + 1) = i := by unfold Pm.sf; rw [if_neg (by omega), if_pos rfl]
   have f4 : Pm.sf (i + 1) (i + 1) = i + 2 := by simp [Pm.sf]
   have f5 : Pm.sf (i + 1) (i + 2) = i + 1 := by unfold Pm.sf; rw [if_neg (by omega), if_pos rfl]
   have f6 : Pm.sf i (i + 2) = i + 2 := by unfold Pm.sf; rw [if_neg (by omega), if_neg (by omega)]
   have b : Pm.swap n i h1 * (Pm.swap n (i + 1) hi' * Pm.swap n i h1) = Pm.swap n (i + 1) hi' * (Pm.swap n i h1 * Pm.swap n (i + 1) hi') := by
    apply Pm.ext
    intro x
    show Pm.sf i (Pm.sf (i + 1) (Pm.sf i x)) = Pm.sf (i + 1) (Pm.sf i (Pm.sf (i + 1) x))
    by_cases x1 : x = i
    · subst x1; simp only [f1, f2, f3, f4, f5, f6]
    · by_cases x2 : x = i + 1
      · subst x2; simp only [f1, f2, f3, f4, f5, f6]
      · by_cases x3 : x = i + 2
        · subst x3; simp only [f1, f2, f3, f4, f5, f6]
        · have f7 : Pm.sf i x = x := by unfold Pm.sf; rw [if_neg x1, if_neg x2]
          have f8 : Pm.sf (i + 1) x = x := by unfold Pm.sf; rw [if_neg x2, if_neg x3]
          simp only [f7, f8]
   have a1 := sN_left h2 hi' (s := Pm.swap n (i + 1) hi' * Pm.swap n i h1) (by
    show Pm.sf i (Pm.sf (i + 1) (i + 1 + 1)) < Pm.sf i (Pm.sf (i + 1) (i + 1))
    rw [f4, f5, f3, f6]; omega)
   have a2 := sN_left h2 h1 (s := Pm.swap n i h1 * (Pm.swap n (i + 1) hi' * Pm.swap n i h1)) (by
    show Pm.sf i (Pm.sf (i + 1) (Pm.sf i (i + 1))) < Pm.sf i (Pm.sf (i + 1) (Pm.sf i i))
    rw [f3, f2, f1, f4, f6]; omega)
   have a3 := sN_left h2 h1 (s := Pm.swap n i h1 * Pm.swap n (i + 1) hi') (by
    show Pm.sf (i + 1) (Pm.sf i (i + 1)) < Pm.sf (i + 1) (Pm.sf i i)
    rw [f3, f2, f1, f4]; omega)
   have a4 := sN_left h2 hi' (s := Pm.swap n (i + 1) hi' * (Pm.swap n i h1 * Pm.swap n (i + 1) hi')) (by
    show Pm.sf (i + 1) (Pm.sf i (Pm.sf (i + 1) (i + 1 + 1))) < Pm.sf (i + 1) (Pm.sf i (Pm.sf (i + 1) (i + 1)))
    rw [f4, f5, f3, f6, f2, f5]; omega)
   rw [← Grp.assoc, swap_swap, Grp.one_mul] at a1 a2 a3 a4
   rw [a1, a2, a3, a4, b]
def cy (n m : Nat) : Nat → Bn n
 | 0 => 1
 | d + 1 => cy n m d * sg n (m + d)
theorem cy_front {n m : Nat} : ∀ d, cy n m (d + 1) = sg n m * cy n (m + 1) d
 | 0 => by
  show 1 * sg n (m + 0) = sg n m * 1
  rw [Grp.one_mul, Grp.mul_one]
  rfl
 | d + 1 => by
  show cy n m (d + 1) * sg n (m + (d + 1)) = sg n m * (cy n (m + 1) d * sg n (m + 1 + d))
  rw [cy_front d, Grp.assoc, show m + (d + 1) = m + 1 + d by omega]
theorem cy_far {n m p : Nat} : ∀ d, p + 2 ≤ m → sg n p * cy n m d = cy n m d * sg n p
 | 0, _ => by
  show sg n p * 1 = 1 * sg n p
  rw [Grp.one_mul, Grp.mul_one]
 | d + 1, h => by
  show sg n p * (cy n m d * sg n (m + d)) = cy n m d * sg n (m + d) * sg n p
  rw [← Grp.assoc, cy_far d h, Grp.assoc, Grp.assoc, sg_far (show p + 2 ≤ m + d by omega)]
theorem cy_in {n m : Nat} : ∀ (d p : Nat), m ≤ p → p + 1 < m + d → m + d < n → sg n (p + 1) * cy n m d = cy n m d * sg n p
 | 0, p, h1, h2, _ => by omega
 | d + 1, p, h1, h2, h3 => by
  show sg n (p + 1) * (cy n m d * sg n (m + d)) = cy n m d * sg n (m + d) * sg n p
  by_cases h : p + 1 < m + d
  · rw [← Grp.assoc, cy_in d p h1 h (by omega), Grp.assoc, Grp.assoc, sg_far (show p + 2 ≤ m + d by omega)]
  · obtain ⟨e, rfl⟩ : ∃ e, d = e + 1 := ⟨d - 1, by omega⟩
    obtain rfl : p = m + e := by omega
    show sg n (m + e + 1) * (cy n m e * sg n (m + e) * sg n (m + (e + 1))) = cy n m e * sg n (m + e) * sg n (m + (e + 1)) * sg n (m + e)
    have far : sg n (m + e + 1) * cy n m e = cy n m e * sg n (m + e + 1) := by
     have : ∀ f, f ≤ e → sg n (m + e + 1) * cy n m f = cy n m f * sg n (m + e + 1) := by
      intro f
      induction f with
      | zero =>
       intro _
       show sg n (m + e + 1) * 1 = 1 * sg n (m + e + 1)
       rw [Grp.one_mul, Grp.mul_one]
      | succ f ih =>
       intro hf
       show sg n (m + e + 1) * (cy n m f * sg n (m + f)) = cy n m f * sg n (m + f) * sg n (m + e + 1)
       rw [← Grp.assoc, ih (by omega), Grp.assoc, Grp.assoc, sg_far (show m + f + 2 ≤ m + e + 1 by omega)]
     exact this e (Nat.le_refl _)
    rw [Grp.assoc (cy n m e), ← Grp.assoc (sg n (m + e + 1)), far, show m + (e + 1) = m + e + 1 by omega]
    have hb := sg_braid (n := n) (p := m + e) (by omega)
    simp only [Grp.assoc]
    rw [hb]
def cyf (m k x : Nat) : Nat := if x = m then k else if m < x ∧ x ≤ k then x - 1 else x
def cyg (m k x : Nat) : Nat := if x = k then m else if m ≤ x ∧ x < k then x + 1 else x
theorem cy_gf {m k : Nat} (h : m ≤ k) (x : Nat) : cyg m k (cyf m k x) = x := by
 unfold cyf cyg
 repeat' split
 all_goals omega
theorem cy_fg {m k : Nat} (h : m ≤ k) (x : Nat) : cyf m k (cyg m k x) = x := by
 unfold cyf cyg
 repeat' split
 all_goals omega
def cyI (n m k : Nat) : Pm n := if h : m ≤ k ∧ k < n then ⟨cyg m k, cyf m k, cy_fg h.1, cy_gf h.1, fun x hx => by unfold cyg; rw [if_neg (by omega), if_neg (by omega)]⟩ else 1
theorem cyI_f {n m k : Nat} (h : m ≤ k) (hk : k < n) (x : Nat) : (cyI n m k).f x = cyg m k x := by unfold cyI; rw [dif_pos ⟨h, hk⟩]
def tc (n : Nat) : Nat → Pm n → Bn n
 | 0, _ => 1
 | k + 1, s => cy n (s.g k) (k - s.g k) * tc n k (cyI n (s.g k) k * s)
def Sp {n : Nat} (k : Nat) (x : Pm n) : Prop := ∀ z, k ≤ z → x.f z = z
theorem Sp.g {n k : Nat} {x : Pm n} (h : Sp k x) {z : Nat} (hz : k ≤ z) : x.g z = z := by
 have := x.gf z
 rw [h z hz] at this
 exact this
theorem Sp.g_lt {n k : Nat} {x : Pm n} (h : Sp k x) {z : Nat} (hz : z < k) : x.g z < k := by
 by_cases h' : x.g z < k
 · exact h'
 · have e := h (x.g z) (by omega)
   rw [x.fg] at e
   omega
theorem Sp.f_lt {n k : Nat} {x : Pm n} (h : Sp k x) {z : Nat} (hz : z < k) : x.f z < k := by
 by_cases h' : x.f z < k
 · exact h'
 · have e := h.g (z := x.f z) (by omega)
   rw [x.gf] at e
   omega
theorem cyI_sp {n k : Nat} {s : Pm n} (hk : k < n) (hS : Sp (k + 1) s) : Sp k (cyI n (s.g k) k * s) := fun z hz => by
 have hm : s.g k ≤ k := by have := hS.g_lt (z := k) (by omega); omega
 show s.f ((cyI n (s.g k) k).f z) = z
 rw [cyI_f hm hk]
 by_cases h : z = k
 · rw [h]
   unfold cyg
   rw [if_pos rfl, s.fg]
 · unfold cyg
   rw [if_neg h, if_neg (by omega)]
   exact hS z (by omega)
theorem tc_left {n : Nat} : ∀ (k p : Nat) (s : Pm n) (h : p + 1 < n), k ≤ n → p + 1 < k → Sp k s → s.f p < s.f (p + 1) → tc n k (Pm.swap n p h * s) = sg n p * tc n k s
 | 0, p, s, h, _, h2, _, _ => by omega
 | k + 1, p, s, h, hkn, hpk, hS, hlt => by
  have hk : k < n := by omega
  have hm : s.g k ≤ k := by have := hS.g_lt (z := k) (by omega); omega
  have fm : s.f (s.g k) = k := s.fg k
  have yg : (Pm.swap n p h * s).g k = Pm.sf p (s.g k) := rfl
  have hSy : Sp (k + 1) (Pm.swap n p h * s) := fun z hz => by
   show s.f (Pm.sf p z) = z
   rw [show Pm.sf p z = z by unfold Pm.sf; rw [if_neg (by omega), if_neg (by omega)]]
   exact hS z hz
  have hflt : s.f (p + 1) < k + 1 := hS.f_lt (by omega)
  have hmp : s.g k ≠ p := fun e => by
   rw [e] at fm
   omega
  rw [tc, tc, yg]
  by_cases e1 : s.g k = p + 1
  · rw [e1]
    have e2 : Pm.sf p (p + 1) = p := by unfold Pm.sf; rw [if_neg (by omega), if_pos rfl]
    rw [e2, show k - p = (k - (p + 1)) + 1 by omega, cy_front, Grp.assoc]
    congr 2
    congr 1
    apply Pm.ext
    intro z
    show s.f (Pm.sf p ((cyI n p k).f z)) = s.f ((cyI n (p + 1) k).f z)
    rw [cyI_f (by omega) hk, cyI_f (by omega) hk]
    congr 1
    unfold cyg Pm.sf
    repeat' split
    all_goals omega
  · have e2 : Pm.sf p (s.g k) = s.g k := by unfold Pm.sf; rw [if_neg hmp, if_neg e1]
    rw [e2]
    have hS' := cyI_sp hk hS
    by_cases c : p + 1 < s.g k
    ·
     have q : cyI n (s.g k) k * (Pm.swap n p h * s) = Pm.swap n p h * (cyI n (s.g k) k * s) := by
      apply Pm.ext
      intro z
      show s.f (Pm.sf p ((cyI n (s.g k) k).f z)) = s.f ((cyI n (s.g k) k).f (Pm.sf p z))
      rw [cyI_f hm hk, cyI_f hm hk]
      congr 1
      unfold cyg Pm.sf
      repeat' split
      all_goals omega
     have l : (cyI n (s.g k) k * s).f p < (cyI n (s.g k) k * s).f (p + 1) := by
      show s.f ((cyI n (s.g k) k).f p) < s.f ((cyI n (s.g k) k).f (p + 1))
      rw [cyI_f hm hk, cyI_f hm hk]
      have x1 : cyg (s.g k) k p = p := by unfold cyg; rw [if_neg (by omega), if_neg (by omega)]
      have x2 : cyg (s.g k) k (p + 1) = p + 1 := by unfold cyg; rw [if_neg (by omega), if_neg (by omega)]
      rw [x1, x2]
      exact hlt
     rw [q, tc_left k p _ h (by omega) (by omega) hS' l, ← Grp.assoc, ← Grp.assoc, cy_far _ (by omega)]
    ·
     have hmlt : s.g k < p := by omega
     obtain ⟨r, rfl⟩ : ∃ r, p = r + 1 := ⟨p - 1, by omega⟩
     have hr : r + 1 < n := by omega
     have q : cyI n (s.g k) k * (Pm.swap n (r + 1) h * s) = Pm.swap n r hr * (cyI n (s.g k) k * s) := by
      apply Pm.ext
      intro z
      show s.f (Pm.sf (r + 1) ((cyI n (s.g k) k).f z)) = s.f ((cyI n (s.g k) k).f (Pm.sf r z))
      rw [cyI_f hm hk, cyI_f hm hk]
      congr 1
      unfold cyg Pm.sf
      repeat' split
      all_goals omega
     have l : (cyI n (s.g k) k * s).f r < (cyI n (s.g k) k * s).f (r + 1) := by
      show s.f ((cyI n (s.g k) k).f r) < s.f ((cyI n (s.g k) k).f (r + 1))
      rw [cyI_f hm hk, cyI_f hm hk]
      have x1 : cyg (s.g k) k r = r + 1 := by unfold cyg; rw [if_neg (by omega), if_pos ⟨by omega, by omega⟩]
      have x2 : cyg (s.g k) k (r + 1) = r + 1 + 1 := by unfold cyg; rw [if_neg (by omega), if_pos ⟨by omega, by omega⟩]
      rw [x1, x2]
      exact hlt
     rw [q, tc_left k r _ hr (by omega) (by omega) hS' l, ← Grp.assoc, ← Grp.assoc, cy_in _ r (by omega) (by omega) (by omega)]
theorem sp_n {n : Nat} (x : Pm n) : Sp n x := fun z hz => x.out z hz
theorem tc_one {n : Nat} : ∀ k, tc n k (1 : Pm n) = 1
 | 0 => rfl
 | k + 1 => by
  have e : (1 : Pm n).g k = k := rfl
  rw [tc, e, Nat.sub_self]
  have q : cyI n k k * (1 : Pm n) = 1 := by
   apply Pm.ext
   intro z
   show (cyI n k k).f z = z
   by_cases hk : k < n
   · rw [cyI_f (Nat.le_refl _) hk]
     unfold cyg
     repeat' split
     all_goals omega
   · unfold cyI
     rw [dif_neg (by omega)]
     rfl
  rw [q, tc_one k]
  exact Grp.mul_one _
theorem tc_swap_left {n p : Nat} (h : p + 1 < n) {s : Pm n} (hs : s.f p < s.f (p + 1)) : tc n n (Pm.swap n p h * s) = sg n p * tc n n s := tc_left n p s h (Nat.le_refl _) h (sp_n s) hs
theorem tc_swap {n p : Nat} (h : p + 1 < n) : tc n n (Pm.swap n p h) = sg n p := by
 have := tc_swap_left h (s := (1 : Pm n)) (by simp)
 rw [Grp.mul_one, tc_one, Grp.mul_one] at this
 exact this
theorem tc_mul {n : Nat} : ∀ (K : Nat) (x c : Pm n), Pm.cnt x⁻¹ < K → (Pm.lat n).le c ((Pm.lat n).K x) → tc n n (x * c) = tc n n x * tc n n c := by
 intro K
 induction K with
 | zero => intro x c h; omega
 | succ K ih =>
  intro x c hK hle
  cases hb : begL x n with
  | nil => rw [begL_nil hb, Grp.one_mul, tc_one, Grp.one_mul]
  | cons z m =>
   obtain ⟨p, hp, hs, rfl⟩ := begL_first hb
   have lx := swap_le hp hs
   obtain ⟨_, lxy⟩ := Lat.P1 (Γ := Pm.lat n) (x := x) (y := c) trivial trivial hle
   have ly : Pm.le (Pm.swap n p hp) (x * c) := fun i j hij h => lxy i j hij (lx i j hij h)
   have hy : (x * c).f (p + 1) < (x * c).f p := lxy p (p + 1) (by omega) hs
   have l1 := (Lat.P0 (Γ := Pm.lat n) (x := Pm.swap n p hp) (y := x) trivial trivial lx).2
   have l2 := (Lat.P0 (Γ := Pm.lat n) (x := Pm.swap n p hp) (y := x * c) trivial trivial ly).2
   have lX := (Lat.P2 (Γ := Pm.lat n) (v := Pm.swap n p hp) (x := (Pm.swap n p hp)⁻¹ * x) (y := (Pm.swap n p hp)⁻¹ * (x * c)) trivial trivial trivial l1 l2).1
   rw [mul_inv_l, mul_inv_l] at lX
   have l3 := (Lat.P0 (Γ := Pm.lat n) (x := (Pm.swap n p hp)⁻¹ * x) (y := (Pm.swap n p hp)⁻¹ * (x * c)) trivial trivial (lX lxy)).2
   have e1 : ((Pm.swap n p hp)⁻¹ * x)⁻¹ * ((Pm.swap n p hp)⁻¹ * (x * c)) = c := by
    rw [← Grp.assoc (Pm.swap n p hp)⁻¹, inv_mul_l]
   rw [e1, swap_inv] at l3
   have i := ih (Pm.swap n p hp * x) c (by have := swap_cnt hp hs; omega) l3
   have f1 : (Pm.swap n p hp * x).f p < (Pm.swap n p hp * x).f (p + 1) := by
    show x.f (Pm.sf p p) < x.f (Pm.sf p (p + 1))
    rw [show Pm.sf p p = p + 1 by simp [Pm.sf], show Pm.sf p (p + 1) = p by unfold Pm.sf; rw [if_neg (by omega), if_pos rfl]]
    exact hs
   have f2 : (Pm.swap n p hp * (x * c)).f p < (Pm.swap n p hp * (x * c)).f (p + 1) := by
    show (x * c).f (Pm.sf p p) < (x * c).f (Pm.sf p (p + 1))
    rw [show Pm.sf p p = p + 1 by simp [Pm.sf], show Pm.sf p (p + 1) = p by unfold Pm.sf; rw [if_neg (by omega), if_pos rfl]]
    exact hy
   have t1 := tc_swap_left hp f1
   have t2 := tc_swap_left hp f2
   rw [← Grp.assoc, swap_swap, Grp.one_mul] at t1 t2
   rw [t2, t1, ← Grp.assoc (Pm.swap n p hp), i, Grp.assoc]
theorem tc_mul' {n : Nat} {x c : Pm n} (h : (Pm.lat n).le c ((Pm.lat n).K x)) : tc n n (x * c) = tc n n x * tc n n c := tc_mul _ x c (Nat.lt_succ_self _) h
theorem tc_div {n : Nat} {c y : Pm n} (h : (Pm.lat n).le c y) : tc n n y = tc n n c * tc n n (c⁻¹ * y) := by
 have h3 := (Lat.P0 (Γ := Pm.lat n) (x := c) (y := y) trivial trivial h).2
 have := tc_mul' h3
 rw [mul_inv_l] at this
 exact this
def pwG {G : Type} [Grp G] (g : G) : Nat → G
 | 0 => 1
 | k + 1 => pwG g k * g
theorem pwG_succ' {G : Type} [Grp G] (g : G) : ∀ k, pwG g (k + 1) = g * pwG g k
 | 0 => by
  show 1 * g = g * 1
  rw [Grp.one_mul, Grp.mul_one]
 | k + 1 => by
  show pwG g (k + 1) * g = g * (pwG g k * g)
  rw [pwG_succ' g k, Grp.assoc]
def zpG {G : Type} [Grp G] (g : G) (p : Int) : G := if 0 ≤ p then pwG g p.toNat else (pwG g (-p).toNat)⁻¹
theorem zpG_succ {G : Type} [Grp G] (g : G) (p : Int) : zpG g (p + 1) = zpG g p * g := by
 unfold zpG
 by_cases h : 0 ≤ p
 · rw [if_pos h, if_pos (by omega), show (p + 1).toNat = p.toNat + 1 by omega]
   rfl
 · rw [if_neg h]
   obtain ⟨k, hk⟩ : ∃ k : Nat, (-p).toNat = k + 1 := ⟨(-p).toNat - 1, by omega⟩
   rw [hk, pwG_succ', mul_inv_rev, Grp.assoc, Grp.inv_mul, Grp.mul_one]
   by_cases h' : 0 ≤ p + 1
   · have : k = 0 := by omega
     subst this
     rw [if_pos h', show (p + 1).toNat = 0 by omega]
     show (1 : G) = (1 : G)⁻¹
     exact inv_one.symm
   · rw [if_neg h', show (-(p + 1)).toNat = k by omega]
theorem zpG_add {G : Type} [Grp G] (g : G) (p : Int) : ∀ k : Nat, zpG g (p + k) = zpG g p * pwG g k
 | 0 => by rw [Int.natCast_zero, Int.add_zero, pwG, Grp.mul_one]
 | k + 1 => by rw [show p + ((k + 1 : Nat) : Int) = p + (k : Int) + 1 by omega, zpG_succ, zpG_add g p k, pwG, Grp.assoc]
def Wc {n : Nat} : List (Pm n) → Bn n
 | [] => 1
 | s :: A => tc n n s * Wc A
theorem Wc_app {n : Nat} : ∀ (A B : List (Pm n)), Wc (A ++ B) = Wc A * Wc B
 | [], B => (Grp.one_mul _).symm
 | s :: A, B => by rw [List.cons_append, Wc, Wc_app A B, Wc, Grp.assoc]
theorem Wc_L {n : Nat} : ∀ (A : List (Pm n)) (t : Pm n), Wc ((Pm.lat n).L t A) = tc n n t * Wc A
 | [], t => rfl
 | a :: A, t => by
  have C := Lat.cut (Γ := Pm.lat n) (t := t) (a := a) trivial trivial
  have e : (Pm.lat n).L t (a :: A) = (t * (Pm.lat n).meet ((Pm.lat n).K t) a) :: (Pm.lat n).L (((Pm.lat n).meet ((Pm.lat n).K t) a)⁻¹ * a) A := rfl
  rw [e, Wc, Wc_L A, tc_mul' C.c_K, Wc, tc_div C.c_a]
  simp only [Grp.assoc]
theorem Wc_nf {n : Nat} : ∀ (X : List (Pm n)), Wc ((Pm.lat n).nf X) = Wc X
 | [] => rfl
 | a :: X => by rw [Lat.nf_cons, Wc_L, Wc_nf X, Wc]
theorem Wc_ones {n : Nat} : ∀ j, Wc (Lat.ones j : List (Pm n)) = 1
 | 0 => rfl
 | j + 1 => by
  show tc n n 1 * Wc (Lat.ones j) = 1
  rw [tc_one, Wc_ones j, Grp.mul_one]
theorem Wc_Ds {n : Nat} : ∀ j, Wc ((Pm.lat n).Ds j) = pwG (tc n n (Pm.half n)) j
 | 0 => rfl
 | j + 1 => by
  show tc n n (Pm.half n) * Wc ((Pm.lat n).Ds j) = _
  rw [Wc_Ds j, pwG_succ']
def Wn {n : Nat} (v : Nm n) : Bn n := zpG (tc n n (Pm.half n)) v.1 * Wc v.2
theorem Wn_mk {n : Nat} (h2 : 2 ≤ n) (p : Int) (X : List (Pm n)) : Wn (mk p X) = zpG (tc n n (Pm.half n)) p * Wc X := by
 obtain ⟨j, e, hP, _⟩ := Lat.norm_spec (Γ := Pm.lat n) (half_ne h2) (allS X)
 have h := Wc_nf X
 rw [e, Wc_app, Wc_app, Wc_ones, Wc_Ds, Grp.mul_one] at h
 show zpG _ (p + (((Pm.lat n).norm X).1 : Nat)) * Wc ((Pm.lat n).norm X).2 = _
 rw [zpG_add, Grp.assoc, h]
theorem tc_K {n : Nat} (x : Pm n) : tc n n x * tc n n ((Pm.lat n).K x) = tc n n (Pm.half n) := by
 rw [← tc_mul' ((Pm.lat n).refl trivial), x_K]
theorem tc_lft {n : Nat} (x : Pm n) : tc n n (Pm.half n * x⁻¹) * tc n n x = tc n n (Pm.half n) := by
 have := tc_K (Pm.half n * x⁻¹)
 rw [K_left] at this
 exact this
theorem tc_trn {n : Nat} (x : Pm n) : tc n n (trn x) * tc n n (Pm.half n) = tc n n (Pm.half n) * tc n n x := by
 have e : (Pm.lat n).K (trn x) = Pm.half n * x⁻¹ := by
  show (trn x)⁻¹ * Pm.half n = _
  unfold trn
  simp only [mul_inv_rev, Pm.half_inv, Grp.assoc, Pm.half_half, Grp.mul_one]
 have h := tc_K (trn x)
 rw [e] at h
 have h' := tc_lft x
 rw [← h', ← Grp.assoc, h, h']
theorem Wc_trn {n : Nat} : ∀ (A : List (Pm n)), Wc (A.map trn) * tc n n (Pm.half n) = tc n n (Pm.half n) * Wc A
 | [] => by rw [List.map_nil, Wc, Grp.one_mul, Grp.mul_one]
 | a :: A => by rw [List.map_cons, Wc, Grp.assoc, Wc_trn A, ← Grp.assoc, tc_trn, Wc, Grp.assoc]
theorem lrOne {n : Nat} {x : Int} (h : Lr n x) : ∀ y ∈ [x], Lr n y := fun y hy => by rw [List.mem_singleton.1 hy]; exact h
theorem Wn_step {n : Nat} (h2 : 2 ≤ n) (v : Nm n) {x : Int} (hx : Lr n x) : Wn (stepN v x) = Wn v * Bn.mk [x] (lrOne hx) := by
 have hx' := hx
 unfold Lr at hx'
 have hp : x.natAbs - 1 + 1 < n := by omega
 unfold stepN
 rw [swapN_eq hp]
 by_cases h : 0 < x
 · have es : Bn.mk [x] (lrOne hx) = sg n (x.natAbs - 1) := by
    rw [sg_eq hp]
    congr 1
    rw [show ((x.natAbs - 1 + 1 : Nat) : Int) = x by omega]
   rw [if_pos h, Wn_mk h2, Wc_app, Wc, Wc, Grp.mul_one, tc_swap hp, es, ← Grp.assoc]
   rfl
 · have es : Bn.mk [x] (lrOne hx) = (sg n (x.natAbs - 1))⁻¹ := by
    rw [sg_eq hp, Bn.mk_inv]
    congr 1
    show [x] = [-((x.natAbs - 1 + 1 : Nat) : Int)]
    rw [show -((x.natAbs - 1 + 1 : Nat) : Int) = x by omega]
   rw [if_neg h, Wn_mk h2, Wc_app, Wc, Wc, Grp.mul_one, es]
   have hl := tc_lft (Pm.swap n (x.natAbs - 1) hp)
   rw [tc_swap hp] at hl
   have e1 : tc n n (Pm.half n * (Pm.swap n (x.natAbs - 1) hp)⁻¹) = tc n n (Pm.half n) * (sg n (x.natAbs - 1))⁻¹ := by
    rw [← hl, Grp.assoc, Grp.mul_inv, Grp.mul_one]
   rw [e1, ← Grp.assoc (Wc _), Wc_trn]
   have e2 : zpG (tc n n (Pm.half n)) v.1 = zpG (tc n n (Pm.half n)) (v.1 - 1) * tc n n (Pm.half n) := by
    rw [← zpG_succ, show v.1 - 1 + 1 = v.1 by omega]
   show _ = zpG (tc n n (Pm.half n)) v.1 * Wc v.2 * _
   rw [e2]
   simp only [Grp.assoc]
theorem Wn_fold {n : Nat} (h2 : 2 ≤ n) : ∀ (w : List Int) (hw : ∀ x ∈ w, Lr n x) (v : Nm n), Wn (w.foldl stepN v) = Wn v * Bn.mk w hw
 | [], hw, v => (Grp.mul_one _).symm
 | x :: w, hw, v => by
  have hx := hw x List.mem_cons_self
  have ih := Wn_fold h2 w (fun y hy => hw y (List.mem_cons_of_mem _ hy)) (stepN v x)
  rw [List.foldl_cons, ih, Wn_step h2 v hx, Grp.assoc]
  rfl
theorem Wn_nOf {n : Nat} (h2 : 2 ≤ n) (w : List Int) (hw : ∀ x ∈ w, Lr n x) : Wn (nOf n w) = Bn.mk w hw := by
 have h := Wn_fold h2 w hw (0, [])
 have e : Wn ((0, []) : Nm n) = 1 := by
  show zpG _ 0 * 1 = 1
  rw [Grp.mul_one]
  rfl
 rw [e, Grp.one_mul] at h
 exact h
theorem BE_of_nOf {n : Nat} (h2 : 2 ≤ n) {a b : List Int} (ha : ∀ x ∈ a, Lr n x) (hb : ∀ x ∈ b, Lr n x) (h : nOf n a = nOf n b) : BE n a b := by
 have e1 := Wn_nOf h2 a ha
 have e2 := Wn_nOf h2 b hb
 rw [h, e2] at e1
 exact (Bn.exact e1).sy
end Go.Ev.Yteclcmiopobnaaa
