/- Simple braids put behind normal forms, products: both packages. -/
import Derived.Test.YtolpnaiincngjaaGreatMn4
set_option linter.unusedVariables false
set_option linter.unusedSimpArgs false
namespace Go.Ev.YtolpnaiincngjaaGreat
open Go.Ev Go.Gar
theorem mk_spec {n : Nat} (h2 : 2 ≤ n) (p : Int) (l : List (Pm n)) : (Pm.lat n).Proper (mk p l).2 ∧ p ≤ (mk p l).1 ∧ (mk p l).1 + (mk p l).2.length ≤ p + l.length := by
  obtain ⟨j, _, hP, hl⟩ := Lat.norm_spec (half_ne h2) (allS l)
  refine ⟨hP, ?_, ?_⟩
  · simp only [mk]; omega
  · simp only [mk]; omega
theorem mk_app {n : Nat} (h2 : 2 ≤ n) (p : Int) (X Y : List (Pm n)) : mk p (X ++ Y) = mk (mk p X).1 ((mk p X).2 ++ Y) := by
  simp only [mk]
  rw [Lat.norm_app (half_ne h2) (allS X) (allS Y)]
  simp only [Int.natCast_add, Int.add_assoc]
theorem mk_proper {n : Nat} (h2 : 2 ≤ n) (p : Int) {A : List (Pm n)} (hP : (Pm.lat n).Proper A) : mk p A = (p, A) := by
  simp only [mk, Lat.norm_proper (half_ne h2) hP]
  simp
theorem mk_one {n : Nat} (h2 : 2 ≤ n) (p : Int) {A : List (Pm n)} (hP : (Pm.lat n).Proper A) : mk p (A ++ [1]) = (p, A) := by
  have e := Lat.nf_ones (Γ := Pm.lat n) (X := A) (Y := []) 1 (allS _) (allS _)
  simp only [List.append_nil] at e
  have e2 : (Pm.lat n).norm (A ++ [1]) = (0, A) := Lat.norm_of (half_ne h2) (i := 0) (j := 1) (by
    have : (Lat.ones 1 : List (Pm n)) = [1] := rfl
    rw [this] at e
    rw [e, Lat.nf_fix hP.W]
    rfl) hP
  simp only [mk, e2]
  simp
theorem pass_stop {n : Nat} : ∀ (U : List (Pm n)) {Z m : List (Pm n)} {x : Pm n}, (Pm.lat n).Wd (U ++ [x]) → (Pm.lat n).pass Z = x :: m → (Pm.lat n).pass (U ++ Z) = U ++ (Pm.lat n).pass Z
  | [], Z, m, x, _, _ => rfl
  | u :: U, Z, m, x, hW, hZ => by
    have ih := pass_stop U hW.2 hZ
    show (Pm.lat n).step1 u ((Pm.lat n).pass (U ++ Z)) = _
    rw [ih, hZ]
    cases U with
    | nil =>
      have := hW.1 x rfl
      simp only [List.nil_append, Lat.step1, this, Grp.mul_one, inv_one, Grp.one_mul]
      rfl
    | cons v U =>
      have := hW.1 v rfl
      simp only [List.cons_append, Lat.step1, this, Grp.mul_one, inv_one, Grp.one_mul]
theorem Wd_left {n : Nat} : ∀ {U V : List (Pm n)}, (Pm.lat n).Wd (U ++ V) → (Pm.lat n).Wd U
  | [], V, _ => trivial
  | u :: U, V, h => by
    refine ⟨fun b hb => h.1 b ?_, Wd_left h.2⟩
    cases U with
    | nil => simp at hb
    | cons v U => exact hb
theorem c_put_5 (n : Nat) (hn : n ≤ 8) (A : List (Pm n)) (s : Pm n) (p : Int) (hA : A.length < 1000000) (hW : (Pm.lat n).Wd A) : ∀ k, k ≤ A.length →
    R i__i_Normal__put_5 [tI (n : Int), tI p, tLA8 (sL ((A ++ [s]).take k ++ (Pm.lat n).pass ((A ++ [s]).drop k))), tI (n : Int), tI (k : Int)] = some [tI 0, tI (n : Int), tI p, tLA8 (sL ((Pm.lat n).pass (A ++ [s]))), tI (n : Int)] := by
  intro k
  induction k with
  | zero =>
    intro _
    apply v__i_Normal__put_5
    simp [b__i_Normal__put_5]
  | succ k ih =>
    intro hk
    have hlX : (A ++ [s]).length = A.length + 1 := by simp
    have hk' : k < (A ++ [s]).length := by omega
    have hlen := (Pm.lat n).pass_len (l := (A ++ [s]).drop (k + 1))
    have hd := pass_drop hk'
    cases hp : (Pm.lat n).pass ((A ++ [s]).drop (k + 1)) with
    | nil =>
      rw [hp] at hlen
      simp at hlen
      omega
    | cons b m =>
      rw [hp] at hd
      obtain ⟨l1, l2, g1, g2⟩ := cur_get hk' b m
      have e1 : wi64 (((k + 1 : Nat) : Int) - 1) = (k : Int) := by rw [wrap_i64] <;> omega
      have len : ((A ++ [s]).take (k + 1) ++ b :: m).length = A.length + 1 := by
        rw [hp] at hlen
        simp at hlen ⊢
        omega
      have gg1 := sL_get (n := n) l1
      have gg2 := sL_get (n := n) l2
      rw [g1] at gg1
      rw [g2] at gg2
      have tk := take_snoc hk'
      by_cases hc : Pm.meet ((A ++ [s])[k]⁻¹ * Pm.half n) b = 1
      · have hst : (Pm.lat n).pass ((A ++ [s]).drop k) = (A ++ [s])[k] :: b :: m := by
          rw [hd, Lat.step1, ← meetK, hc, Grp.mul_one, inv_one, Grp.one_mul]
        have hWk : (Pm.lat n).Wd ((A ++ [s]).take k ++ [(A ++ [s])[k]]) := by
          rw [← tk, List.take_append_of_le_length (by omega)]
          rw [← List.take_append_drop (k + 1) A] at hW
          exact Wd_left hW
        have hfin := pass_stop _ hWk hst
        rw [List.take_append_drop, hst] at hfin
        have ecur : (A ++ [s]).take k ++ (A ++ [s])[k] :: b :: m = (A ++ [s]).take (k + 1) ++ b :: m := by
          rw [tk, List.append_assoc]
          rfl
        rw [ecur] at hfin
        apply v__i_Normal__put_5
        simp (disch := omega) only [b__i_Normal__put_5, decide_eq_true, cond_true, Bool.and_true, Int.toNat_natCast, sL_len, len, gg1, gg2, e1, c_complement n hn, c_meet n hn, c_nothing n hn, Option.bind_some, getTV_here, hc, beq_self_eq_true, hfin]
      · have hst : (Pm.lat n).pass ((A ++ [s]).drop k) = ((A ++ [s])[k] * Pm.meet ((A ++ [s])[k]⁻¹ * Pm.half n) b) :: ((Pm.meet ((A ++ [s])[k]⁻¹ * Pm.half n) b)⁻¹ * b) :: m := by
          rw [hd, Lat.step1, ← meetK]
        have ih' := ih (by omega)
        rw [hst] at ih'
        have e3 := cur_set hk' b ((A ++ [s])[k] * Pm.meet ((A ++ [s])[k]⁻¹ * Pm.half n) b) ((Pm.meet ((A ++ [s])[k]⁻¹ * Pm.half n) b)⁻¹ * b) m
        have l3 : k + 1 < (((A ++ [s]).take (k + 1) ++ b :: m).set k ((A ++ [s])[k] * Pm.meet ((A ++ [s])[k]⁻¹ * Pm.half n) b)).length := by rw [List.length_set]; exact l2
        have gg3 := sL_get (n := n) l3
        have g3 : (((A ++ [s]).take (k + 1) ++ b :: m).set k ((A ++ [s])[k] * Pm.meet ((A ++ [s])[k]⁻¹ * Pm.half n) b))[k + 1] = b := by
          rw [List.getElem_set_ne (by omega), g2]
        rw [g3] at gg3
        apply v__i_Normal__put_5
        have hb : (sA (Pm.meet ((A ++ [s])[k]⁻¹ * Pm.half n) b) == sA (1 : Pm n)) = false := by rw [beq_sA hn]; simpa using hc
        simp (disch := omega) only [b__i_Normal__put_5, decide_eq_true, cond_true, cond_false, Bool.and_true, Int.toNat_natCast, sL_len, List.length_set, len, gg1, gg2, e1, c_complement n hn, c_meet n hn, c_nothing n hn, Option.bind_some, getTV_here, hb, c_then n hn, c_backOf n hn, sL_set, gg3, e3]
        exact ih'
theorem c_put_11 (n : Nat) (hn : n ≤ 8) : ∀ (Y : List (Pm n)) (p : Int), -1000000000 ≤ p → p + Y.length ≤ 1001000000 → Y.length < 1000000 →
    R i__i_Normal__put_11 [tI (n : Int), tI p, tLA8 (sL Y), tI (n : Int)] = some [tI 0, tI (n : Int), tI (p + (((Pm.lat n).fr Y).1 : Nat)), tLA8 (sL ((Pm.lat n).fr Y).2), tI (n : Int)]
  | [], p, _, _, _ => by
    apply v__i_Normal__put_11
    simp [b__i_Normal__put_11, sL_nil, Lat.fr]
  | a :: Y, p, h1, h2, h3 => by
    simp only [List.length_cons] at h2 h3
    have ih := c_put_11 n hn Y (p + 1) (by omega) (by omega) (by omega)
    have l0 : 0 < (sL (a :: Y)).length := by simp [sL]
    have e0 : List.getD (sL (a :: Y)) 0 (List.replicate 8 0) = sA a := rfl
    have e1 : List.drop 1 (sL (a :: Y)) = sL Y := rfl
    apply v__i_Normal__put_11
    simp (disch := omega) only [b__i_Normal__put_11, decide_eq_true, cond_true, e0, e1, c_halfTurn n hn, Option.bind_some, getTV_here, beq_sA hn, wrap_i64]
    unfold Lat.fr
    by_cases h : a = Pm.half n
    · have h' : a = (Pm.lat n).D := h
      rw [decide_eq_true h, cond_true, if_pos h', ih]
      simp only
      rw [show p + 1 + (((Pm.lat n).fr Y).1 : Int) = p + ((((Pm.lat n).fr Y).1 + 1 : Nat) : Int) by omega]
    · have h' : ¬ a = (Pm.lat n).D := h
      rw [decide_eq_false h, cond_false, if_neg h']
      simp
theorem c_put_14 (n : Nat) (hn : n ≤ 8) (p : Int) : ∀ (k : Nat) (Y : List (Pm n)), Y.length = k → Y.length < 2000000 →
    R i__i_Normal__put_14 [tI (n : Int), tI p, tLA8 (sL Y), tI (n : Int)] = some [tI 0, tI (n : Int), tI p, tLA8 (sL (Lat.bk Y))] := by
  intro k
  induction k with
  | zero =>
    intro Y hk _
    have : Y = [] := List.length_eq_zero_iff.1 hk
    subst this
    apply v__i_Normal__put_14
    simp [b__i_Normal__put_14, sL_nil, Lat.bk]
  | succ k ih =>
    intro Y hk hl
    have h0 : k < Y.length := by omega
    have e : Y = Y.take k ++ [Y[k]] := by
      rw [← take_snoc h0, List.take_of_length_le (by omega)]
    have e1 : wi64 (((sL Y).length : Nat) - 1) = (k : Int) := by rw [sL_len, wrap_i64] <;> omega
    have l0 : ((0 : Int) < ((sL Y).length : Nat)) := by rw [sL_len]; omega
    have l1 : ((k : Int) < ((sL Y).length : Nat)) := by rw [sL_len]; omega
    have ih' := ih (Y.take k) (by simp; omega) (by simp; omega)
    apply v__i_Normal__put_14
    simp (disch := omega) only [b__i_Normal__put_14, e1, decide_eq_true, cond_true, Bool.and_true, Int.toNat_natCast, sL_get h0, c_nothing n hn, Option.bind_some, getTV_here, beq_sA hn, sL_take]
    have hb : Lat.bk Y = if Y[k] = 1 then Lat.bk (Y.take k) else Y := by
      have h1 := bk_snoc (Y.take k) Y[k]
      rw [← e] at h1
      exact h1
    rw [hb]
    by_cases h : Y[k] = 1
    · rw [decide_eq_true h, cond_true, if_pos h, ih']
    · rw [decide_eq_false h, cond_false, if_neg h]
theorem c_put (n : Nat) (h2 : 2 ≤ n) (hn : n ≤ 8) (v : Nm n) (s : Pm n) (hP : (Pm.lat n).Proper v.2) (hl : v.2.length < 900000) (hp : -1000000000 ≤ v.1) (hp' : v.1 ≤ 1000000000) :
    R i__i_Normal__put [tPIPILA8 (enc v), tA8 (sA s)] = some [tPIPILA8 (enc (mk v.1 (v.2 ++ [s])))] := by
  apply v__i_Normal__put
  by_cases h : s = 1
  · subst h
    simp only [b__i_Normal__put, enc, c_nothing n hn, Option.bind_some, getTV_here, beq_self_eq_true, cond_true, mk_one h2 v.1 hP]
  · have hb : (sA s == sA (1 : Pm n)) = false := by rw [beq_sA hn]; simpa using h
    have h5 := c_put_5 n hn v.2 s v.1 (by omega) hP.W v.2.length (Nat.le_refl _)
    have e0 : (v.2 ++ [s]).take v.2.length ++ (Pm.lat n).pass ((v.2 ++ [s]).drop v.2.length) = v.2 ++ [s] := by simp [Lat.pass, Lat.step1]
    rw [e0, Lat.pass_nf (allS v.2) trivial hP.W] at h5
    have e1 : wi64 (((sL (v.2 ++ [s])).length : Nat) - 1) = (v.2.length : Int) := by
      rw [sL_len, List.length_append, List.length_cons, List.length_nil, wrap_i64] <;> omega
    have hnl := (Pm.lat n).nf_len (l := v.2 ++ [s])
    have hf := fr_drop (Pm.lat n) ((Pm.lat n).nf (v.2 ++ [s]))
    have hlA : (v.2 ++ [s]).length = v.2.length + 1 := by simp
    have hfl : ((Pm.lat n).fr ((Pm.lat n).nf (v.2 ++ [s]))).2.length ≤ v.2.length + 1 := by rw [← hf.1, List.length_drop]; omega
    have h11 := c_put_11 n hn ((Pm.lat n).nf (v.2 ++ [s])) v.1 hp (by omega) (by omega)
    have h14 := c_put_14 n hn (v.1 + (((Pm.lat n).fr ((Pm.lat n).nf (v.2 ++ [s]))).1 : Nat)) _ ((Pm.lat n).fr ((Pm.lat n).nf (v.2 ++ [s]))).2 rfl (by omega)
    simp only [b__i_Normal__put, enc, c_nothing n hn, Option.bind_some, getTV_here, getTV_next, hb, cond_false, apOk1 (xs := sL v.2) (x := sA s) (by rw [sL_len]; omega), cond_true, sL_snoc, e1, h5, h11, h14]
    rfl
theorem c_turnBy_4 (n : Nat) (hn : n ≤ 8) (p : Int) (l : List (Pm n)) (hl : l.length < 1000000) : ∀ i, i ≤ l.length →
    R i__i_Normal__turnBy_4 [tI (n : Int), tI p, tLA8 (sL ((l.take i).map trn ++ l.drop i)), tI (l.length : Int), tI (i : Int)] = some [tI 0, tI (n : Int), tI p, tLA8 (sL (l.map trn))] := by
  refine up_loop _ ?_ (fun i hi ih => ?_)
  · apply v__i_Normal__turnBy_4
    simp [b__i_Normal__turnBy_4]
  · have l1 : i < ((l.take i).map trn ++ l.drop i).length := by simp; omega
    have e0 : ((l.take i).map trn).length = i := by simp; omega
    have g : ((l.take i).map trn ++ l.drop i)[i] = l[i] := by
      rw [List.getElem_append_right (by omega)]
      simp only [e0, Nat.sub_self, List.getElem_drop, Nat.add_zero]
    have gg := sL_get (n := n) l1
    rw [g] at gg
    have len : ((l.take i).map trn ++ l.drop i).length = l.length := by simp; omega
    have e1 : ((l.take i).map trn ++ l.drop i).set i (trn l[i]) = (l.take (i + 1)).map trn ++ l.drop (i + 1) := by
      rw [List.set_append_right _ _ (by omega), e0, Nat.sub_self, List.drop_eq_getElem_cons hi, take_snoc hi, List.map_append, List.append_assoc]
      rfl
    apply v__i_Normal__turnBy_4
    simp (disch := omega) only [b__i_Normal__turnBy_4, decide_eq_true, cond_true, Bool.and_true, Int.toNat_natCast, sL_len, len, gg, c_turn n hn, Option.bind_some, getTV_here, sL_set, e1, wrap_i64]
    rw [show (i : Int) + 1 = ((i + 1 : Nat) : Int) by omega]
    exact ih
theorem c_turnBy (n : Nat) (hn1 : 1 ≤ n) (hn : n ≤ 8) (v : Nm n) (k : Int) (h1 : n = 1 → k = 0) (hl : v.2.length < 1000000) (hp : -1000000000 ≤ v.1) (hp' : v.1 ≤ 1000000000) (hk : -1000000000 ≤ k) (hk' : k ≤ 1000000000) :
    R i__i_Normal__turnBy [tPIPILA8 (enc v), tI k] = some [tPIPILA8 (enc (v.1 + k, tk k v.2))] := by
  apply v__i_Normal__turnBy
  by_cases h : n = 1
  · have := h1 h
    subst this
    have h3 : ((n : Int) < 2) := by omega
    simp [b__i_Normal__turnBy, enc, h3, tk]
  · have h3 : ¬ ((n : Int) < 2) := by omega
    have h4 := c_turnBy_4 n hn (v.1 + k) v.2 hl 0 (Nat.zero_le _)
    simp only [List.take_zero, List.map_nil, List.nil_append, List.drop_zero, Int.natCast_zero] at h4
    simp (disch := omega) only [b__i_Normal__turnBy, enc, decide_eq_false h3, cond_false, bne_dec, wrap_i64, sL_len, h4, Option.bind_some, getTV_here, getTV_next, tk]
    by_cases h5 : k.tmod 2 = 0
    · simp [h5, h3]
    · simp [h5, h3]
theorem tk_neg {n : Nat} (l : List (Pm n)) : tk (-1) l = l.map trn := rfl
theorem tk_proper {n : Nat} (k : Int) {l : List (Pm n)} (h : (Pm.lat n).Proper l) : (Pm.lat n).Proper (tk k l) := by
  unfold tk
  split
  · exact h
  · exact (trn_auto n).Proper h
theorem c_putInverse (n : Nat) (h2 : 2 ≤ n) (hn : n ≤ 8) (v : Nm n) (s : Pm n) (hP : (Pm.lat n).Proper v.2) (hl : v.2.length < 900000) (hp : -900000000 ≤ v.1) (hp' : v.1 ≤ 900000000) :
    R i__i_Normal__putInverse [tPIPILA8 (enc v), tA8 (sA s)] = some [tPIPILA8 (enc (mk (v.1 - 1) (v.2.map trn ++ [Pm.half n * s⁻¹])))] := by
  apply v__i_Normal__putInverse
  have h3 := c_turnBy n (by omega) hn v (-1) (fun h => by omega) (by omega) (by omega) (by omega) (by omega) (by omega)
  rw [tk_neg] at h3
  have h4 := c_put n h2 hn (v.1 + -1, v.2.map trn) (Pm.half n * s⁻¹) ((trn_auto n).Proper hP) (by simp; omega) (by simp only; omega) (by simp only; omega)
  simp only [enc] at h3 h4 ⊢
  simp only [b__i_Normal__putInverse, h3, Option.bind_some, getTV_here, c_leftComplement n hn, h4]
  rfl
theorem c_product_4 (n : Nat) (h2 : 2 ≤ n) (hn : n ≤ 8) (B : List (Pm n)) (hB : B.length < 400000) (x0 x1 : Int) (x2 : List (List Int)) : ∀ (d i : Nat) (v : Nm n), i + d = B.length → (Pm.lat n).Proper v.2 → v.2.length + d < 900000 → -1000000000 ≤ v.1 → v.1 + v.2.length + d ≤ 1000000000 →
    R ii_product_4 [tI x0, tI x1, tLA8 x2, tI (n : Int), tI v.1, tLA8 (sL v.2), tLA8 (sL B), tI (B.length : Int), tI (i : Int)] = some [tI 0, tI x0, tI x1, tLA8 x2, tI (n : Int), tI (mk v.1 (v.2 ++ B.drop i)).1, tLA8 (sL (mk v.1 (v.2 ++ B.drop i)).2)] := by
  intro d
  induction d with
  | zero =>
    intro i v hi hP _ _ _
    apply vi_product_4
    have h1 : ¬ ((i : Int) < (B.length : Int)) := by omega
    rw [List.drop_of_length_le (by omega), List.append_nil, mk_proper h2 v.1 hP]
    simp only [bi_product_4, decide_eq_false h1, cond_false]
  | succ d ih =>
    intro i v hi hP hl hp hp'
    have h0 : i < B.length := by omega
    have hm := mk_spec h2 v.1 (v.2 ++ [B[i]])
    have hle : (v.2 ++ [B[i]]).length = v.2.length + 1 := by simp
    have hput := c_put n h2 hn v B[i] hP (by omega) (by omega) (by omega)
    have ih' := ih (i + 1) (mk v.1 (v.2 ++ [B[i]])) (by omega) hm.1 (by omega) (by omega) (by omega)
    rw [← mk_app h2, List.append_assoc, List.singleton_append, ← List.drop_eq_getElem_cons h0] at ih'
    apply vi_product_4
    simp only [enc] at hput
    simp (disch := omega) only [bi_product_4, decide_eq_true, cond_true, Bool.and_true, Int.toNat_natCast, sL_len, sL_get h0, hput, Option.bind_some, getTV_here, wrap_i64]
    rw [show (i : Int) + 1 = ((i + 1 : Nat) : Int) by omega]
    exact ih'
/-- A normal form that may be handed on. -/
structure OkN {n : Nat} (v : Nm n) (b : Nat) : Prop where
  P : (Pm.lat n).Proper v.2
  len : v.2.length ≤ b
  lo : -(b : Int) ≤ v.1
  hi : v.1 ≤ b
  one : n = 1 → v = (0, [])
noncomputable def prod {n : Nat} (v w : Nm n) : Nm n := mk (v.1 + w.1) (tk w.1 v.2 ++ w.2)
theorem c_copyNormal {n : Nat} (v : Nm n) (hl : v.2.length < 1000000) : R ii_copyNormal [tPIPILA8 (enc v)] = some [tPIPILA8 (enc v)] := by
  apply vi_copyNormal
  simp only [bi_copyNormal, enc, apOk0 (ys := sL v.2) (by rw [sL_len]; omega), cond_true]
theorem c_product (n : Nat) (hn1 : 1 ≤ n) (hn : n ≤ 8) (v w : Nm n) (hv : OkN v 100000) (hw : OkN w 100000) : R ii_product [tPIPILA8 (enc v), tPIPILA8 (enc w)] = some [tPIPILA8 (enc (prod v w))] := by
  have a1 := hv.len
  have a2 := hv.lo
  have a3 := hv.hi
  have b1 := hw.len
  have b2 := hw.lo
  have b3 := hw.hi
  have ht := c_turnBy n hn1 hn v w.1 (fun h => by rw [hw.one h]) (by omega) (by omega) (by omega) (by omega) (by omega)
  have hc := c_copyNormal v (by omega)
  apply vi_product
  by_cases h : n = 1
  · have e1 := hv.one h
    have e2 := hw.one h
    subst e1
    subst e2
    have h4 : R ii_product_4 [tI 0, tI 0, tLA8 [], tI (n : Int), tI 0, tLA8 [], tLA8 [], tI 0, tI 0] = some [tI 0, tI 0, tI 0, tLA8 [], tI (n : Int), tI 0, tLA8 []] := by
      apply vi_product_4
      simp [bi_product_4]
    have htk : tk 0 ([] : List (Pm n)) = [] := rfl
    simp only [enc, sL_nil, htk, Int.add_zero, prod, List.nil_append, mk_nil] at ht hc ⊢
    simp [bi_product, hc, ht, h4]
  · have h4 := c_product_4 n (by omega) hn w.2 (by omega) 0 0 [] w.2.length 0 (v.1 + w.1, tk w.1 v.2) (by omega) (tk_proper _ hv.P) (by simp only [tk_len]; omega) (by simp only; omega) (by simp only [tk_len]; omega)
    simp only [Int.natCast_zero, List.drop_zero] at h4
    simp only [enc] at hc ht ⊢
    simp only [bi_product, hc, ht, Option.bind_some, getTV_here, getTV_next, sL_len, h4]
    rfl
theorem c_l03Times_f (n : Nat) (h2 : 2 ≤ n) (hn : n ≤ 8) (v : Nm n) (s : Pm n) (hl : v.2.length < 900000) (hp : -900000000 ≤ v.1) (hp' : v.1 ≤ 900000000) :
    R is_l03Times [tPIPILA8 (enc v), tA8 (sA s), tB false] = some [tPIPILA8 (enc (mk v.1 (v.2 ++ [s])))] := by
  apply vs_l03Times
  have hm := c_l03Make n (by omega) hn (v.2 ++ [s]) (by simp; omega) (fun h => by omega) v.1 (by omega) (by omega)
  simp only [enc] at hm ⊢
  simp only [bs_l03Times, cond_false, apOk0 (ys := sL v.2) (by rw [sL_len]; omega), apOk1 (xs := sL v.2) (x := sA s) (by rw [sL_len]; omega), cond_true, sL_snoc, hm, Option.bind_some, getTV_here]
end Go.Ev.YtolpnaiincngjaaGreat
