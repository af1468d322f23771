/- Parts as braids: products of parts, dual forms, and that words of one dual form are one braid. -/
import Derived.Test.YteclcmiopobnaaaMp19
import Derived.Test.YteclcmiopobnaaaWe
set_option linter.unusedVariables false
set_option linter.unusedSimpArgs false
namespace Go.Ev.Yteclcmiopobnaaa.P
open Go.Ev.Yteclcmiopobnaaa
open Go.Ev Go.Gar
theorem isP_tau {n a b : Nat} (hab : a < b) (hb : b < n) : isP (tau n a b) := by
 refine ⟨fun x => if x = b then a else x, fun x hx => ?_, ?_, fun x hx => ?_⟩
 · by_cases h1 : x = b
   · rw [if_pos h1, if_neg (by omega)]
     exact ⟨by omega, rfl⟩
   · rw [if_neg h1, if_neg h1]
     exact ⟨Nat.le_refl _, rfl⟩
 · rw [Bool.eq_false_iff]
   intro hc
   obtain ⟨u, v, c, y, h1, h2, h3, h4, e1, e2, e3⟩ := (crs_iff n _).1 hc
   simp only at e1 e2 e3
   split at e1 <;> split at e1 <;> (try omega) <;> split at e2 <;> (try split at e2) <;> omega
 · rw [tau_f (by omega) hb]
   unfold trf
   rcases mdf_spec (g := fun x => if x = b then a else x) hx with ⟨k, k1, k2, k3, k4, k5⟩ | ⟨k1, k2⟩
   · rw [k5]
     have k3' : (if k = b then a else k) = (if x = b then a else x) := k3
     split at k3' <;> split at k3' <;> split <;> (try split) <;> omega
   · rw [k2]
     show (if x = a then b else if x = b then a else x) = if x = b then a else x
     by_cases h1 : x = a
     · have h2 : (if b = b then a else b) ≠ (if x = b then a else x) := k1 b (by omega) hb
       rw [if_pos rfl, if_neg (by omega)] at h2
       exact absurd h1.symm h2
     · rw [if_neg h1]
theorem isP_inc {n : Nat} {x : Pm n} (h : isP x) : Inc x := by
 obtain ⟨g, hg⟩ := h
 intro z w hz e hw
 have hzn : z < n := by
  apply Classical.byContradiction
  intro hn
  rw [x.out z (by omega)] at hz
  omega
 have eo := (Lb.eo hg.lb z w).1 e
 rw [hg.f z hzn] at hz hw
 rcases eo with rfl | ⟨_, hwn, he⟩
 · exact Nat.le_refl _
 · rcases mdf_spec (g := g) hzn with ⟨k, k1, k2, k3, k4, k5⟩ | ⟨k1, k2⟩
   · rw [k5] at hw
     apply Classical.byContradiction
     intro hn
     exact k4 w (by omega) hw he.symm
   · have := (hg.can z hzn).1
     omega
theorem isP_nc {n : Nat} {x : Pm n} (h : isP x) : Nc x := by
 obtain ⟨g, hg⟩ := h
 intro a b c d h1 h2 h3 e1 e2
 rcases (Lb.eo hg.lb a c).1 e1 with h | ⟨ha, hc, f1⟩
 · omega
 rcases (Lb.eo hg.lb b d).1 e2 with h | ⟨hb, hd, f2⟩
 · omega
 refine (Lb.eo hg.lb a b).2 (.inr ⟨ha, hb, ?_⟩)
 apply Classical.byContradiction
 intro hne
 have := hg.nc
 rw [Bool.eq_false_iff] at this
 exact this ((crs_iff n g).2 ⟨a, b, c, d, h1, h2, h3, hd, f1, f2, hne⟩)
theorem tau_le {n a b : Nat} (ha : a < n) (hb : b < n) {y : Pm n} (h : Eo y a b) : leP (tau n a b) y := fun p q e => by
 refine Eo.sub (fun z => ?_) e
 rw [tau_f ha hb]
 by_cases h1 : z = a
 · rw [h1, trf_a]; exact h
 · by_cases h2 : z = b
   · rw [h2, trf_b]; exact h.sy
   · rw [trf_o h1 h2]; exact .re z
theorem tau_inv {n a b : Nat} (ha : a < n) (hb : b < n) : (tau n a b)⁻¹ = tau n a b := Pm.ext fun x => by
 show (tau n a b).g x = (tau n a b).f x
 rw [tau_f ha hb, tau_g ha hb]
theorem sup_n {n : Nat} (x : Pm n) : Sup n x := fun z hz => x.out z hz
theorem th_sup {n : Nat} {k : Nat} {x : Pm n} (h : Sup k x) : ∀ K, k ≤ K → th n K x = th n k x
 | 0, hk => by obtain rfl : k = 0 := by omega
               rfl
 | K + 1, hk => by
  by_cases e : k = K + 1
  · rw [e]
  · have hg : x.g K = K := h.g (by omega)
    rw [th, hg, if_neg (by omega), th_sup h K (by omega)]
theorem th_one {n : Nat} (K : Nat) : th n K (1 : Pm n) = 1 := th_sup (k := 0) (fun z _ => rfl) K (by omega)
theorem th_mul {n : Nat} (h1 : 1 ≤ n) : ∀ (k : Nat), k ≤ n → ∀ (x c : Pm n), isP x → isP c → leP c ((latP n h1).K x) → Sup k x → th n n (x * c) = th n k x * th n n c
 | 0, _, x, c, _, _, _, hS => by
  have : x = 1 := Pm.ext fun z => hS z (by omega)
  subst this
  rw [Grp.one_mul, th, Grp.one_mul]
 | k + 1, hk, x, c, hx, hc, hle, hS => by
  have hkn : k < n := by omega
  have hg : x.g k < k + 1 := hS.g_lt (by omega)
  by_cases hm : x.g k < k
  · have hmn : x.g k < n := by omega
    have fm : x.f (x.g k) = k := x.fg k
    have eo : Eo x (x.g k) k := by
     have := Eo.st (s := x) (x.g k)
     rw [fm] at this
     exact this
    have ht := isP_tau hm hkn
    have lt := tau_le hmn hkn eo
    obtain ⟨hx', lx'⟩ := Lat.P0 (Γ := latP n h1) ht hx lt
    obtain ⟨hy, lxy⟩ := Lat.P1 (Γ := latP n h1) hx hc hle
    have lty : leP (tau n (x.g k) k) (x * c) := fun p q e => lxy p q (lt p q e)
    obtain ⟨hX, lX⟩ := Lat.P0 (Γ := latP n h1) ht hy lty
    have eX : (tau n (x.g k) k)⁻¹ * (x * c) = ((tau n (x.g k) k)⁻¹ * x) * c := by rw [Grp.assoc]
    have lX' : leP ((tau n (x.g k) k)⁻¹ * x) ((tau n (x.g k) k)⁻¹ * (x * c)) := by
     have := (Lat.P2 (Γ := latP n h1) ht hx' hX lx' lX).1
     rw [mul_inv_l, mul_inv_l] at this
     exact this lxy
    have hcc := (Lat.P0 (Γ := latP n h1) hx' hX lX').2
    rw [eX, inv_mul_l] at hcc
    have R := rem hkn hS hm fm
    have lXy : leP ((tau n (x.g k) k)⁻¹ * (x * c)) (x * c) := by
     obtain ⟨g1, q1⟩ := ht
     obtain ⟨g2, q2⟩ := hy
     exact rel_le q1 q2 lty
    have ti := tau_inv (n := n) hmn hkn
    rw [ti] at hx' lXy hcc hX
    have ih := th_mul h1 k (by omega) (tau n (x.g k) k * x) c hx' hc hcc R.sup
    have tl := tau_l hmn hkn (x * c)
    have B := th_band n (x.g k) k (tau n (x.g k) k * (x * c)) (Nat.le_refl _) hm hkn (sup_n _) (by rw [tl]; exact isP_inc hy) (by rw [tl]; exact isP_nc hy) (by rw [tl]; exact lXy) (by rw [tl]; exact lxy _ _ eo)
    rw [tl] at B
    rw [B, ← Grp.assoc (tau n (x.g k) k) x c, ih, th, if_pos hm, Grp.assoc]
  · have hgk : x.g k = k := by omega
    rw [th_mul h1 k (by omega) x c hx hc hle (hS.down hgk), th, if_neg hm]
theorem th_mul' {n : Nat} (h1 : 1 ≤ n) {x c : Pm n} (hx : isP x) (hc : isP c) (hle : (latP n h1).le c ((latP n h1).K x)) : th n n (x * c) = th n n x * th n n c := th_mul h1 n (Nat.le_refl _) x c hx hc hle (sup_n x)
theorem th_div {n : Nat} (h1 : 1 ≤ n) {c y : Pm n} (hc : isP c) (hy : isP y) (h : (latP n h1).le c y) : th n n y = th n n c * th n n (c⁻¹ * y) := by
 obtain ⟨h2, h3⟩ := Lat.P0 (Γ := latP n h1) hc hy h
 have := th_mul' h1 hc h2 h3
 rw [mul_inv_l] at this
 exact this
theorem th_swap {n p : Nat} (h : p + 1 < n) : th n n (Pm.swap n p h) = sg n p := by
 have e : Pm.swap n p h = tau n p (p + 1) * 1 := by
  rw [Grp.mul_one]
  apply Pm.ext
  intro z
  rw [tau_f (by omega) h]
  rfl
 have ht := isP_tau (show p < p + 1 by omega) h
 have eo : Eo (tau n p (p + 1) * 1) p (p + 1) := by
  rw [Grp.mul_one]
  have := Eo.st (s := tau n p (p + 1)) p
  rw [tau_f (by omega) h, trf_a] at this
  exact this
 rw [e, th_band n p (p + 1) 1 (Nat.le_refl _) (by omega) h (sup_n _) (by rw [Grp.mul_one]; exact isP_inc ht) (by rw [Grp.mul_one]; exact isP_nc ht) (fun a b e => Eo.sub (fun z => Eo.re z) e) eo, th_one, Grp.mul_one]
 show bd n p (p + 1 - p - 1) = _
 rw [show p + 1 - p - 1 = 0 by omega]
 rfl
def pw {G : Type} [Grp G] (g : G) : Nat → G
 | 0 => 1
 | k + 1 => pw g k * g
theorem pw_succ' {G : Type} [Grp G] (g : G) : ∀ k, pw g (k + 1) = g * pw g k
 | 0 => by
  show 1 * g = g * 1
  rw [Grp.one_mul, Grp.mul_one]
 | k + 1 => by
  show pw g (k + 1) * g = g * (pw g k * g)
  rw [pw_succ' g k, Grp.assoc]
def zp {G : Type} [Grp G] (g : G) (p : Int) : G := if 0 ≤ p then pw g p.toNat else (pw g (-p).toNat)⁻¹
theorem zp_zero {G : Type} [Grp G] (g : G) : zp g 0 = 1 := rfl
theorem zp_succ {G : Type} [Grp G] (g : G) (p : Int) : zp g (p + 1) = zp g p * g := by
 unfold zp
 by_cases h : 0 ≤ p
 · rw [if_pos h, if_pos (by omega), show (p + 1).toNat = p.toNat + 1 by omega]
   rfl
 · rw [if_neg h]
   obtain ⟨k, hk⟩ : ∃ k : Nat, (-p).toNat = k + 1 := ⟨(-p).toNat - 1, by omega⟩
   rw [hk, pw_succ', mul_inv_rev, Grp.assoc, Grp.inv_mul, Grp.mul_one]
   by_cases h' : 0 ≤ p + 1
   · have : k = 0 := by omega
     subst this
     rw [if_pos h', show (p + 1).toNat = 0 by omega]
     show (1 : G) = (1 : G)⁻¹
     exact inv_one.symm
   · rw [if_neg h', show (-(p + 1)).toNat = k by omega]
theorem zp_add {G : Type} [Grp G] (g : G) (p : Int) : ∀ k : Nat, zp g (p + k) = zp g p * pw g k
 | 0 => by rw [Int.natCast_zero, Int.add_zero, pw, Grp.mul_one]
 | k + 1 => by rw [show p + ((k + 1 : Nat) : Int) = p + (k : Int) + 1 by omega, zp_succ, zp_add g p k, pw, Grp.assoc]
def Wt {n : Nat} : List (Pm n) → Bn n
 | [] => 1
 | s :: A => th n n s * Wt A
theorem Wt_app {n : Nat} : ∀ (A B : List (Pm n)), Wt (A ++ B) = Wt A * Wt B
 | [], B => (Grp.one_mul _).symm
 | s :: A, B => by rw [List.cons_append, Wt, Wt_app A B, Wt, Grp.assoc]
theorem Wt_L {n : Nat} (h1 : 1 ≤ n) : ∀ {A : List (Pm n)} {t : Pm n}, isP t → (latP n h1).AllS A → Wt ((latP n h1).L t A) = th n n t * Wt A
 | [], t, _, _ => rfl
 | a :: A, t, ht, hA => by
  have C := Lat.cut (Γ := latP n h1) ht hA.head
  have e : (latP n h1).L t (a :: A) = (t * (latP n h1).meet ((latP n h1).K t) a) :: (latP n h1).L (((latP n h1).meet ((latP n h1).K t) a)⁻¹ * a) A := rfl
  rw [e, Wt, Wt_L h1 C.S_r hA.tail, th_mul' h1 ht C.S_c C.c_K, Wt, th_div h1 C.S_c hA.head C.c_a]
  simp only [Grp.assoc]
theorem Wt_nf {n : Nat} (h1 : 1 ≤ n) : ∀ {X : List (Pm n)}, (latP n h1).AllS X → Wt ((latP n h1).nf X) = Wt X
 | [], _ => rfl
 | a :: X, h => by rw [Lat.nf_cons, Wt_L h1 h.head (Lat.nf_S h.tail), Wt_nf h1 h.tail, Wt]
theorem Wt_ones {n : Nat} : ∀ j, Wt (Lat.ones j : List (Pm n)) = 1
 | 0 => rfl
 | j + 1 => by
  show th n n 1 * Wt (Lat.ones j) = 1
  rw [th_one, Wt_ones j, Grp.mul_one]
theorem Wt_Ds {n : Nat} (h1 : 1 ≤ n) : ∀ j, Wt ((latP n h1).Ds j) = pw (th n n (whP n)) j
 | 0 => rfl
 | j + 1 => by
  show th n n (whP n) * Wt ((latP n h1).Ds j) = _
  rw [Wt_Ds h1 j, pw_succ']
noncomputable def Wb {n : Nat} (v : Nm n) : Bn n := zp (th n n (whP n)) v.1 * Wt v.2
theorem Wb_mk {n : Nat} (h2 : 2 ≤ n) {h1 : 1 ≤ n} (p : Int) {X : List (Pm n)} (hX : (latP n h1).AllS X) : Wb (mk h1 p X) = zp (th n n (whP n)) p * Wt X := by
 obtain ⟨j, e, hP, _⟩ := Lat.norm_spec (Γ := latP n h1) (whP_ne h2) hX
 have h := Wt_nf h1 hX
 rw [e, Wt_app, Wt_app, Wt_ones, Wt_Ds, Grp.mul_one] at h
 show zp _ (p + (((latP n h1).norm X).1 : Nat)) * Wt ((latP n h1).norm X).2 = _
 rw [zp_add, Grp.assoc, h]
theorem th_K {n : Nat} (h1 : 1 ≤ n) {x : Pm n} (hx : isP x) : th n n x * th n n ((latP n h1).K x) = th n n (whP n) := by
 have hk : isP ((latP n h1).K x) := Lat.SK (Γ := latP n h1) hx
 rw [← th_mul' h1 hx hk ((latP n h1).refl hk)]
 congr 1
 exact mul_inv_l _ _
theorem th_left {n : Nat} (h1 : 1 ≤ n) {x : Pm n} (hx : isP x) : th n n (whP n * x⁻¹) * th n n x = th n n (whP n) := by
 have hl := isP_left h1 hx
 have e : (latP n h1).K (whP n * x⁻¹) = x := by
  show (whP n * x⁻¹)⁻¹ * whP n = x
  simp only [mul_inv_rev, inv_inv, Grp.assoc, Grp.inv_mul, Grp.mul_one]
 have := th_K h1 hl
 rw [e] at this
 exact this
theorem th_T {n : Nat} (h1 : 1 ≤ n) {x : Pm n} (hx : isP x) : th n n (T x) * th n n (whP n) = th n n (whP n) * th n n x := by
 have hT : isP (T x) := (T_auto n h1).S x hx
 have e : (latP n h1).K (T x) = whP n * x⁻¹ := by
  show (T x)⁻¹ * whP n = _
  unfold T
  simp only [mul_inv_rev, inv_inv, Grp.assoc, Grp.inv_mul, Grp.mul_one]
 have h := th_K h1 hT
 rw [e] at h
 have h' := th_left h1 hx
 rw [← h', ← Grp.assoc, h, h']
theorem Wt_T {n : Nat} (h1 : 1 ≤ n) : ∀ {A : List (Pm n)}, (latP n h1).AllS A → Wt (A.map T) * th n n (whP n) = th n n (whP n) * Wt A
 | [], _ => by rw [List.map_nil, Wt, Grp.one_mul, Grp.mul_one]
 | a :: A, h => by
  rw [List.map_cons, Wt, Grp.assoc, Wt_T h1 h.tail, ← Grp.assoc, th_T h1 h.head, Wt, Grp.assoc]
theorem lr1 {n : Nat} {x : Int} (h : Lr n x) : ∀ y ∈ [x], Lr n y := fun y hy => by rw [List.mem_singleton.1 hy]; exact h
theorem Wb_step {n : Nat} (h2 : 2 ≤ n) {h1 : 1 ≤ n} {v : Nm n} (hP : (latP n h1).Proper v.2) {x : Int} (hx : Lr n x) : Wb (stepD h1 v x) = Wb v * Bn.mk [x] (lr1 hx) := by
 have hx' := hx
 unfold Lr at hx'
 have hp : x.natAbs - 1 + 1 < n := by omega
 by_cases h : 0 < x
 · have es : Bn.mk [x] (lr1 hx) = sg n (x.natAbs - 1) := by
    rw [sg_eq hp]
    congr 1
    rw [show ((x.natAbs - 1 + 1 : Nat) : Int) = x by omega]
   rw [step_pos v h hp, Wb_mk h2 _ (snoc_S hP.S (isP_swap hp)), Wt_app, Wt, Wt, Grp.mul_one, th_swap hp, es, ← Grp.assoc]
   rfl
 · have es : Bn.mk [x] (lr1 hx) = (sg n (x.natAbs - 1))⁻¹ := by
    rw [sg_eq hp, Bn.mk_inv]
    congr 1
    show [x] = [-((x.natAbs - 1 + 1 : Nat) : Int)]
    rw [show -((x.natAbs - 1 + 1 : Nat) : Int) = x by omega]
   have hs := isP_swap hp
   rw [step_neg v h hp, Wb_mk h2 _ (snoc_S ((T_auto n h1).AllS hP.S) (isP_left h1 hs)), Wt_app, Wt, Wt, Grp.mul_one, es]
   have hl := th_left h1 hs
   rw [th_swap hp] at hl
   have e1 : th n n (whP n * (Pm.swap n (x.natAbs - 1) hp)⁻¹) = th n n (whP n) * (sg n (x.natAbs - 1))⁻¹ := by
    rw [← hl, Grp.assoc, Grp.mul_inv, Grp.mul_one]
   rw [e1, ← Grp.assoc (Wt _), Wt_T h1 hP.S]
   have e2 : zp (th n n (whP n)) v.1 = zp (th n n (whP n)) (v.1 - 1) * th n n (whP n) := by
    rw [← zp_succ, show v.1 - 1 + 1 = v.1 by omega]
   show _ = zp (th n n (whP n)) v.1 * Wt v.2 * _
   rw [e2]
   simp only [Grp.assoc]
theorem Wb_fold {n : Nat} (h2 : 2 ≤ n) {h1 : 1 ≤ n} : ∀ (w : List Int) (hw : ∀ x ∈ w, Lr n x) (v : Nm n), (latP n h1).Proper v.2 → Wb (w.foldl (stepD h1) v) = Wb v * Bn.mk w hw
 | [], hw, v, _ => (Grp.mul_one _).symm
 | x :: w, hw, v, hP => by
  have hx := hw x List.mem_cons_self
  have ih := Wb_fold h2 w (fun y hy => hw y (List.mem_cons_of_mem _ hy)) (stepD h1 v x) (stepD_P h2 hP x)
  rw [List.foldl_cons, ih, Wb_step h2 hP hx, Grp.assoc]
  rfl
theorem Wb_dOf {n : Nat} (h2 : 2 ≤ n) {h1 : 1 ≤ n} (w : List Int) (hw : ∀ x ∈ w, Lr n x) : Wb (dOf n h1 w) = Bn.mk w hw := by
 have h := Wb_fold h2 (h1 := h1) w hw (0, []) Lat.Proper.nil
 have e : Wb ((0, []) : Nm n) = 1 := by
  show zp _ 0 * 1 = 1
  rw [zp_zero, Grp.mul_one]
 rw [e, Grp.one_mul] at h
 exact h
theorem BE_of_dOf {n : Nat} (h2 : 2 ≤ n) {h1 : 1 ≤ n} {a b : List Int} (ha : ∀ x ∈ a, Lr n x) (hb : ∀ x ∈ b, Lr n x) (h : dOf n h1 a = dOf n h1 b) : BE n a b := by
 have e1 := Wb_dOf h2 (h1 := h1) a ha
 have e2 := Wb_dOf h2 (h1 := h1) b hb
 rw [h, e2] at e1
 exact (Bn.exact e1).sy
end Go.Ev.Yteclcmiopobnaaa.P
