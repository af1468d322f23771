/- Dual forms and the braid relations: words that one relation apart have one dual form. -/
import Derived.Test.YteclcmiopobnaaaMp16
set_option linter.unusedVariables false
set_option linter.unusedSimpArgs false
namespace Go.Ev.Yteclcmiopobnaaa.P
open Go.Ev.Yteclcmiopobnaaa
open Go.Ev Go.Gar
theorem mkp_nf {n : Nat} {h1 : 1 ≤ n} (p : Int) {X Y : List (Pm n)} (hX : (latP n h1).AllS X) (hY : (latP n h1).AllS Y) (h : (latP n h1).nf X = (latP n h1).nf Y) : mk h1 p X = mk h1 p Y := by
  unfold mk
  rw [← Lat.norm_nf hX, h, Lat.norm_nf hY]
theorem mkp_app {n : Nat} (h2 : 2 ≤ n) {h1 : 1 ≤ n} (p : Int) {X Y : List (Pm n)} (hX : (latP n h1).AllS X) (hY : (latP n h1).AllS Y) : mk h1 p (X ++ Y) = mk h1 (mk h1 p X).1 ((mk h1 p X).2 ++ Y) := by
  have h := Lat.norm_app (whP_ne h2) hX hY
  simp only [mk, h, Int.natCast_add, Int.add_assoc]
theorem mkp_T {n : Nat} (h2 : 2 ≤ n) {h1 : 1 ≤ n} (p : Int) {X Y : List (Pm n)} (hX : (latP n h1).AllS X) (hY : (latP n h1).AllS Y) :
    mk h1 (p + (((latP n h1).norm X).1 : Nat)) (((latP n h1).norm X).2.map T ++ Y) = mk h1 p (X.map T ++ Y) := by
  have hA := (T_auto n h1)
  have e := hA.norm (whP_ne h2) hX
  rw [mkp_app h2 p (hA.AllS hX) hY]
  have e1 : mk h1 p (X.map T) = (p + (((latP n h1).norm X).1 : Nat), ((latP n h1).norm X).2.map T) := by
    simp only [mk]
    have e' : (latP n h1).norm (X.map T) = (((latP n h1).norm X).1, ((latP n h1).norm X).2.map T) := e
    rw [e']
  rw [e1]
/-- The whole moved to the front. -/
theorem nfp_D1 {n : Nat} {h1 : 1 ≤ n} {x : Pm n} (hx : isP x) {Y : List (Pm n)} (hY : (latP n h1).AllS Y) : (latP n h1).nf (T x :: whP n :: Y) = (latP n h1).nf (whP n :: x :: Y) := by
  have hT : isP (T x) := (T_auto n h1).S x hx
  have hD : isP (whP n) := (latP n h1).S_D
  have hm := Lat.nf_move (Γ := latP n h1) (p := []) (q := Y) (x := T x) (y := whP n) (c := (latP n h1).K (T x)) hT hD (Lat.SK hT) ((latP n h1).refl (Lat.SK hT)) ((latP n h1).le_D (Lat.SK hT)) hY
  have e1 : T x * (latP n h1).K (T x) = whP n := mul_inv_l _ _
  have e2 : ((latP n h1).K (T x))⁻¹ * whP n = x := by
    show ((T x)⁻¹ * whP n)⁻¹ * whP n = x
    unfold T
    simp only [mul_inv_rev, inv_inv, Grp.assoc, inv_mul_l, Grp.inv_mul, Grp.mul_one]
  rw [e1, e2] at hm
  exact hm
theorem nfp_D {n : Nat} {h1 : 1 ≤ n} : ∀ {X Y : List (Pm n)}, (latP n h1).AllS X → (latP n h1).AllS Y → (latP n h1).nf (X.map T ++ whP n :: Y) = (latP n h1).nf (whP n :: (X ++ Y))
  | [], Y, _, _ => rfl
  | x :: X, Y, hX, hY => by
    have ih := nfp_D hX.tail hY
    rw [List.map_cons, List.cons_append, Lat.nf_cons, ih, ← Lat.nf_cons]
    exact nfp_D1 hX.head (hX.tail.app hY)
theorem mkp_back {n : Nat} (h2 : 2 ≤ n) {h1 : 1 ≤ n} (p : Int) {A : List (Pm n)} (hP : (latP n h1).Proper A) {X : List (Pm n)} (hX : (latP n h1).AllS X) (h : (latP n h1).nf X = (latP n h1).nf (A.map T ++ [whP n, 1])) : mk h1 (p - 1) X = (p, A) := by
  have hD : isP (whP n) := (latP n h1).S_D
  have h0 : (latP n h1).AllS [(1 : Pm n)] := Lat.AllS.cons (latP n h1).S_one Lat.AllS.nil
  have hA := (T_auto n h1).AllS hP.S
  have hd : (latP n h1).AllS [whP n, 1] := Lat.AllS.cons hD h0
  have e := nfp_D hP.S h0
  rw [← h] at e
  have hW := Lat.Wd_D (Lat.nf_Wd (hP.S.app h0)) (Lat.nf_S (hP.S.app h0))
  have e2 : (latP n h1).nf (A ++ [1]) = A ++ [1] := by
    have := Lat.nf_ones (Γ := latP n h1) (X := A) (Y := []) 1 hP.S Lat.AllS.nil
    simp only [List.append_nil] at this
    rw [Lat.nf_fix hP.W] at this
    exact this
  have e3 : (latP n h1).nf (whP n :: (A ++ [1])) = (latP n h1).Ds 1 ++ A ++ Lat.ones 1 := by
    have := Lat.nf_Ds (Γ := latP n h1) 1 (Y := A ++ [1]) (hP.S.app h0)
    rw [e2] at this
    simp only [List.append_assoc]
    exact this
  rw [e3] at e
  have hn := Lat.norm_of (whP_ne h2) e hP
  simp only [mk, hn]
  rw [show p - 1 + ((1 : Nat) : Int) = p by omega]
theorem snoc2 {n : Nat} {h1 : 1 ≤ n} {A : List (Pm n)} (hA : (latP n h1).AllS A) {s t : Pm n} (hs : isP s) (ht : isP t) : (latP n h1).AllS (A ++ [s, t]) := hA.app (Lat.AllS.cons hs (Lat.AllS.cons ht Lat.AllS.nil))
theorem step_pos {n : Nat} {h1 : 1 ≤ n} (v : Nm n) {x : Int} (hx : 0 < x) (hp : x.natAbs - 1 + 1 < n) : stepD h1 v x = mk h1 v.1 (v.2 ++ [Pm.swap n (x.natAbs - 1) hp]) := by
  rw [stepD, if_pos hx, swapN_eq hp]
theorem step_neg {n : Nat} {h1 : 1 ≤ n} (v : Nm n) {x : Int} (hx : ¬ 0 < x) (hp : x.natAbs - 1 + 1 < n) : stepD h1 v x = mk h1 (v.1 - 1) (v.2.map T ++ [whP n * (Pm.swap n (x.natAbs - 1) hp)⁻¹]) := by
  rw [stepD, if_neg hx, swapN_eq hp]
/-- R1: a letter and its inverse. -/
theorem rel_free {n : Nat} (h2 : 2 ≤ n) {h1 : 1 ≤ n} {v : Nm n} (hP : (latP n h1).Proper v.2) {x : Int} (hx : x ≠ 0 ∧ 1 - (n : Int) ≤ x ∧ x ≤ (n : Int) - 1) : stepD h1 (stepD h1 v x) (-x) = v := by
  have hp : x.natAbs - 1 + 1 < n := by omega
  have hp' : (-x).natAbs - 1 + 1 < n := by omega
  have en : (-x).natAbs - 1 = x.natAbs - 1 := by omega
  have hs := isP_swap hp
  have hl := isP_left h1 hs
  have hD : isP (whP n) := (latP n h1).S_D
  by_cases h : 0 < x
  · have es : Pm.swap n ((-x).natAbs - 1) hp' = Pm.swap n (x.natAbs - 1) hp := by simp only [en]
    rw [step_neg _ (by omega) hp', es, step_pos _ h hp]
    generalize Pm.swap n (x.natAbs - 1) hp = s at hs hl
    have h0 := snoc_S hP.S hs
    have e := mkp_T h2 (v.1 - 1) h0 (Y := [whP n * s⁻¹]) (Lat.AllS.cons hl Lat.AllS.nil)
    have e1 : (mk h1 v.1 (v.2 ++ [s])).1 - 1 = v.1 - 1 + (((latP n h1).norm (v.2 ++ [s])).1 : Nat) := by
      show v.1 + _ - 1 = _
      omega
    rw [e1]
    refine e.trans ?_
    have hT : isP (T s) := (T_auto n h1).S s hs
    apply mkp_back h2 v.1 hP
    · rw [List.map_append]
      exact (((T_auto n h1).AllS hP.S).app (Lat.AllS.cons hT Lat.AllS.nil)).app (Lat.AllS.cons hl Lat.AllS.nil)
    · have hm := Lat.nf_move (Γ := latP n h1) (p := v.2.map T) (q := []) (x := T s) (y := whP n * s⁻¹) (c := whP n * s⁻¹) hT hl hl (by
        have e5 : (latP n h1).K (T s) = whP n * s⁻¹ := by
          show (T s)⁻¹ * whP n = _
          unfold T
          simp only [mul_inv_rev, inv_inv, Grp.assoc, Grp.inv_mul, Grp.mul_one]
        rw [e5]
        exact (latP n h1).refl hl) ((latP n h1).refl hl) Lat.AllS.nil
      have e6 : T s * (whP n * s⁻¹) = whP n := by
        unfold T
        simp only [Grp.assoc, inv_mul_l, Grp.mul_inv, Grp.mul_one]
      rw [e6, Grp.inv_mul] at hm
      rw [List.map_append, List.append_assoc]
      exact hm
  · have es : Pm.swap n ((-x).natAbs - 1) hp' = Pm.swap n (x.natAbs - 1) hp := by simp only [en]
    rw [step_pos _ (by omega) hp', es, step_neg _ h hp]
    generalize Pm.swap n (x.natAbs - 1) hp = s at hs hl
    have hA := (T_auto n h1).AllS hP.S
    have h0 := snoc_S hA hl
    rw [← mkp_app h2 (v.1 - 1) h0 (Lat.AllS.cons hs Lat.AllS.nil)]
    apply mkp_back h2 v.1 hP (h0.app (Lat.AllS.cons hs Lat.AllS.nil))
    have hm := Lat.nf_move (Γ := latP n h1) (p := v.2.map T) (q := []) (x := whP n * s⁻¹) (y := s) (c := s) hl hs hs (by
      have e5 : (latP n h1).K (whP n * s⁻¹) = s := by
        show (whP n * s⁻¹)⁻¹ * whP n = _
        simp only [mul_inv_rev, inv_inv, Grp.assoc, Grp.inv_mul, Grp.mul_one]
      rw [e5]
      exact (latP n h1).refl hs) ((latP n h1).refl hs) Lat.AllS.nil
    rw [inv_mul_r, Grp.inv_mul] at hm
    rw [List.append_assoc]
    exact hm
/-! ### orbits of products -/
theorem eo_swap {n p : Nat} (h : p + 1 < n) {a : Pm n} (ha : Eo a p (p + 1)) : leP (Pm.swap n p h) a := by
  intro x y e
  induction e with
  | re x => exact .re x
  | st x =>
    show Eo a x (Pm.sf p x)
    unfold Pm.sf
    by_cases h1 : x = p
    · rw [if_pos h1, h1]; exact ha
    · rw [if_neg h1]
      by_cases h2 : x = p + 1
      · rw [if_pos h2, h2]; exact ha.sy
      · rw [if_neg h2]; exact .re x
  | sy _ ih => exact ih.sy
  | tr _ _ i1 i2 => exact i1.tr i2
theorem sc_nx {n i : Nat} (h : i + 1 < n) : sc n i = i + 1 := by
  unfold sc
  simp
  omega
theorem mk2_join {n : Nat} {h1 : 1 ≤ n} {P Q : List (Pm n)} {s t : Pm n} (hQ : (latP n h1).AllS Q) (hs : isP s) (ht : isP t) (hle : leP t ((latP n h1).K s)) : (latP n h1).nf (P ++ s :: t :: Q) = (latP n h1).nf (P ++ (s * t) :: 1 :: Q) := by
  have hm := Lat.nf_move (Γ := latP n h1) (p := P) (q := Q) (x := s) (y := t) (c := t) hs ht ht hle ((latP n h1).refl ht) hQ
  rw [Grp.inv_mul] at hm
  exact hm
theorem steps2 {n : Nat} (h2 : 2 ≤ n) {h1 : 1 ≤ n} {p : Int} {A : List (Pm n)} (hA : (latP n h1).AllS A) {s t : Pm n} (hs : isP s) (ht : isP t) : mk h1 (mk h1 p (A ++ [s])).1 ((mk h1 p (A ++ [s])).2 ++ [t]) = mk h1 p (A ++ [s, t]) := by
  rw [← mkp_app h2 p (snoc_S hA hs) (Lat.AllS.cons ht Lat.AllS.nil), List.append_assoc]
  rfl
/-- R3: letters far apart. -/
theorem rel_far {n : Nat} (h2 : 2 ≤ n) {h1 : 1 ≤ n} {v : Nm n} (hP : (latP n h1).Proper v.2) {i j : Nat} (hi : i + 1 < n) (hj : j + 1 < n) (hij : i + 2 ≤ j) :
    stepD h1 (stepD h1 v ((i + 1 : Nat) : Int)) ((j + 1 : Nat) : Int) = stepD h1 (stepD h1 v ((j + 1 : Nat) : Int)) ((i + 1 : Nat) : Int) := by
  have ei : (((i + 1 : Nat) : Int)).natAbs - 1 = i := by omega
  have ej : (((j + 1 : Nat) : Int)).natAbs - 1 = j := by omega
  have s1 : ∀ w : Nm n, stepD h1 w ((i + 1 : Nat) : Int) = mk h1 w.1 (w.2 ++ [Pm.swap n i hi]) := fun w => by
    rw [stepD, if_pos (by omega), ei, swapN_eq hi]
  have s2 : ∀ w : Nm n, stepD h1 w ((j + 1 : Nat) : Int) = mk h1 w.1 (w.2 ++ [Pm.swap n j hj]) := fun w => by
    rw [stepD, if_pos (by omega), ej, swapN_eq hj]
  have hs := isP_swap hi
  have ht := isP_swap hj
  rw [s1, s2, s2, s1, steps2 h2 hP.S hs ht, steps2 h2 hP.S ht hs]
  apply mkp_nf _ (snoc2 hP.S hs ht) (snoc2 hP.S ht hs)
  have l1 : leP (Pm.swap n j hj) ((latP n h1).K (Pm.swap n i hi)) := by
    apply eo_swap
    have := Eo.st (s := (latP n h1).K (Pm.swap n i hi)) j
    have e : ((latP n h1).K (Pm.swap n i hi)).f j = j + 1 := by
      show (whP n).f (Pm.sf i j) = _
      rw [show Pm.sf i j = j by unfold Pm.sf; rw [if_neg (by omega), if_neg (by omega)], whP_f (by omega), sc_nx hj]
    rw [e] at this
    exact this
  have l2 : leP (Pm.swap n i hi) ((latP n h1).K (Pm.swap n j hj)) := by
    apply eo_swap
    have := Eo.st (s := (latP n h1).K (Pm.swap n j hj)) i
    have e : ((latP n h1).K (Pm.swap n j hj)).f i = i + 1 := by
      show (whP n).f (Pm.sf j i) = _
      rw [show Pm.sf j i = i by unfold Pm.sf; rw [if_neg (by omega), if_neg (by omega)], whP_f (by omega), sc_nx hi]
    rw [e] at this
    exact this
  rw [mk2_join Lat.AllS.nil hs ht l1, mk2_join Lat.AllS.nil ht hs l2]
  have e : Pm.swap n i hi * Pm.swap n j hj = Pm.swap n j hj * Pm.swap n i hi := by
    apply Pm.ext
    intro x
    show Pm.sf j (Pm.sf i x) = Pm.sf i (Pm.sf j x)
    unfold Pm.sf
    repeat' split
    all_goals omega
  rw [e]
/-- R2: the braid relation. -/
theorem rel_braid {n : Nat} (h2 : 2 ≤ n) {h1 : 1 ≤ n} {v : Nm n} (hP : (latP n h1).Proper v.2) {i : Nat} (hi : i + 2 < n) :
    stepD h1 (stepD h1 (stepD h1 v ((i + 1 : Nat) : Int)) ((i + 2 : Nat) : Int)) ((i + 1 : Nat) : Int) = stepD h1 (stepD h1 (stepD h1 v ((i + 2 : Nat) : Int)) ((i + 1 : Nat) : Int)) ((i + 2 : Nat) : Int) := by
  have hi1 : i + 1 < n := by omega
  have ei : (((i + 1 : Nat) : Int)).natAbs - 1 = i := by omega
  have ej : (((i + 2 : Nat) : Int)).natAbs - 1 = i + 1 := by omega
  have s1 : ∀ w : Nm n, stepD h1 w ((i + 1 : Nat) : Int) = mk h1 w.1 (w.2 ++ [Pm.swap n i hi1]) := fun w => by
    rw [stepD, if_pos (by omega), ei, swapN_eq hi1]
  have s2 : ∀ w : Nm n, stepD h1 w ((i + 2 : Nat) : Int) = mk h1 w.1 (w.2 ++ [Pm.swap n (i + 1) hi]) := fun w => by
    rw [stepD, if_pos (by omega), ej, swapN_eq hi]
  have hs := isP_swap hi1
  have ht := isP_swap hi
  have f1 : ∀ x, (Pm.swap n i hi1).f x = Pm.sf i x := fun x => rfl
  have f2 : ∀ x, (Pm.swap n (i + 1) hi).f x = Pm.sf (i + 1) x := fun x => rfl
  have g1 : Pm.sf i i = i + 1 := by simp [Pm.sf]
  have g2 : Pm.sf (i + 1) i = i := by unfold Pm.sf; rw [if_neg (by omega), if_neg (by omega)]
  have g3 : Pm.sf i (i + 1) = i := by unfold Pm.sf; rw [if_neg (by omega), if_pos rfl]
  have g4 : Pm.sf (i + 1) (i + 1) = i + 2 := by simp [Pm.sf]
  have g5 : Pm.sf (i + 1) (i + 2) = i + 1 := by unfold Pm.sf; rw [if_neg (by omega), if_pos rfl]
  have g6 : Pm.sf i (i + 2) = i + 2 := by unfold Pm.sf; rw [if_neg (by omega), if_neg (by omega)]
  have g7 : ∀ x, x ≠ i → x ≠ i + 1 → Pm.sf i x = x := fun x a b => by unfold Pm.sf; rw [if_neg a, if_neg b]
  have g8 : ∀ x, x ≠ i + 1 → x ≠ i + 2 → Pm.sf (i + 1) x = x := fun x a b => by unfold Pm.sf; rw [if_neg a, if_neg b]
  -- t * s is a part
  have l1 : leP (Pm.swap n i hi1) ((latP n h1).K (Pm.swap n (i + 1) hi)) := by
    apply eo_swap
    have := Eo.st (s := (latP n h1).K (Pm.swap n (i + 1) hi)) i
    have e : ((latP n h1).K (Pm.swap n (i + 1) hi)).f i = i + 1 := by
      show (whP n).f (Pm.sf (i + 1) i) = _
      rw [g2, whP_f (by omega), sc_nx hi1]
    rw [e] at this
    exact this
  obtain ⟨hc, lc⟩ := Lat.P1 (Γ := latP n h1) ht hs l1
  have ls : leP (Pm.swap n i hi1) (Pm.swap n (i + 1) hi * Pm.swap n i hi1) := by
    apply eo_swap
    have := Eo.st (s := Pm.swap n (i + 1) hi * Pm.swap n i hi1) i
    have e : (Pm.swap n (i + 1) hi * Pm.swap n i hi1).f i = i + 1 := by
      show Pm.sf i (Pm.sf (i + 1) i) = _
      rw [g2, g1]
    rw [e] at this
    exact this
  obtain ⟨hu, lu⟩ := Lat.P0 (Γ := latP n h1) hs hc ls
  have eu : Pm.swap n i hi1 * ((Pm.swap n i hi1)⁻¹ * (Pm.swap n (i + 1) hi * Pm.swap n i hi1)) = Pm.swap n (i + 1) hi * Pm.swap n i hi1 := mul_inv_l _ _
  -- u divides t * s, and leaves t
  have sw : ∀ x, Pm.sf i (Pm.sf i x) = x := Pm.sf_sf i
  have uf : ∀ x, ((Pm.swap n i hi1)⁻¹ * (Pm.swap n (i + 1) hi * Pm.swap n i hi1)).f x = Pm.sf i (Pm.sf (i + 1) (Pm.sf i x)) := fun x => rfl
  have eut : ((Pm.swap n i hi1)⁻¹ * (Pm.swap n (i + 1) hi * Pm.swap n i hi1)) * Pm.swap n (i + 1) hi = Pm.swap n (i + 1) hi * Pm.swap n i hi1 := by
    apply Pm.ext
    intro x
    show Pm.sf (i + 1) (Pm.sf i (Pm.sf (i + 1) (Pm.sf i x))) = Pm.sf i (Pm.sf (i + 1) x)
    by_cases x1 : x = i
    · subst x1; simp only [g1, g2, g3, g4, g5, g6]
    · by_cases x2 : x = i + 1
      · subst x2; simp only [g1, g2, g3, g4, g5, g6]
      · by_cases x3 : x = i + 2
        · subst x3; simp only [g1, g2, g3, g4, g5, g6]
        · simp only [g7 x x1 x2, g8 x x2 x3]
  generalize hu' : (Pm.swap n i hi1)⁻¹ * (Pm.swap n (i + 1) hi * Pm.swap n i hi1) = u at hu lu eu uf eut
  have luc : leP u (Pm.swap n (i + 1) hi * Pm.swap n i hi1) := by
    have key : Eo (Pm.swap n (i + 1) hi * Pm.swap n i hi1) (i + 2) i := by
      have := Eo.st (s := Pm.swap n (i + 1) hi * Pm.swap n i hi1) (i + 2)
      have e : (Pm.swap n (i + 1) hi * Pm.swap n i hi1).f (i + 2) = i := by
        show Pm.sf i (Pm.sf (i + 1) (i + 2)) = _
        rw [g5, g3]
      rw [e] at this
      exact this
    intro x y e
    induction e with
    | re x => exact .re x
    | st x =>
      rw [uf]
      by_cases x1 : x = i
      · subst x1
        rw [g1, g4, g6]
        exact key.sy
      · by_cases x2 : x = i + 2
        · subst x2
          rw [g6, g5, g3]
          exact key
        · have : Pm.sf i (Pm.sf (i + 1) (Pm.sf i x)) = x := by
            by_cases x3 : x = i + 1
            · subst x3; simp only [g1, g2, g3, g4, g5, g6]
            · simp only [g7 x x1 x3, g8 x x3 x2]
          rw [this]
          exact .re x
    | sy _ ih => exact ih.sy
    | tr _ _ i1 i2 => exact i1.tr i2
  obtain ⟨_, lt⟩ := Lat.P0 (Γ := latP n h1) hu hc luc
  have et : u⁻¹ * (Pm.swap n (i + 1) hi * Pm.swap n i hi1) = Pm.swap n (i + 1) hi := by
    rw [← eut, inv_mul_l]
  rw [et] at lt
  have three : ∀ {a b c : Pm n}, isP a → isP b → isP c → mk h1 (mk h1 v.1 (v.2 ++ [a, b])).1 ((mk h1 v.1 (v.2 ++ [a, b])).2 ++ [c]) = mk h1 v.1 (v.2 ++ [a, b, c]) := fun ha hb hc => by
    rw [← mkp_app h2 v.1 (snoc2 hP.S ha hb) (Lat.AllS.cons hc Lat.AllS.nil), List.append_assoc]
    rfl
  rw [s1, s2, s1, s2, s1, s2, steps2 h2 hP.S hs ht, steps2 h2 hP.S ht hs, three hs ht hs, three ht hs ht]
  have a3 : ∀ {a b c : Pm n}, isP a → isP b → isP c → (latP n h1).AllS (v.2 ++ [a, b, c]) := fun ha hb hc => hP.S.app (Lat.AllS.cons ha (Lat.AllS.cons hb (Lat.AllS.cons hc Lat.AllS.nil)))
  apply mkp_nf _ (a3 hs ht hs) (a3 ht hs ht)
  have k1 := mk2_join (h1 := h1) (P := v.2 ++ [Pm.swap n i hi1]) (Q := []) Lat.AllS.nil ht hs l1
  have k2 := mk2_join (h1 := h1) (P := v.2 ++ [Pm.swap n i hi1]) (Q := []) Lat.AllS.nil hu ht lt
  rw [eut] at k2
  have k3 := mk2_join (h1 := h1) (P := v.2) (Q := [Pm.swap n (i + 1) hi]) (Lat.AllS.cons ht Lat.AllS.nil) hs hu lu
  have k4 := mk2_join (h1 := h1) (P := v.2) (Q := [Pm.swap n (i + 1) hi]) (Lat.AllS.cons ht Lat.AllS.nil) ht hs l1
  rw [eu] at k3
  rw [List.append_assoc] at k1 k2
  have k5 := k1.trans k2.symm
  exact k5.trans (k3.trans k4.symm)
end Go.Ev.Yteclcmiopobnaaa.P
