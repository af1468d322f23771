/- Texts merged: Mn6 Mn7 Mn8 Mn9. -/
import Derived.Test.YtfkpbhbghbhmgaaGreatWb
import Derived.Test.YtfkpbhbghbhmgaaGreatWa
set_option linter.unusedVariables false
set_option linter.unusedSimpArgs false
namespace Go.Ev.YtfkpbhbghbhmgaaGreat
open Go.Ev Go.Gar
def swapN (n p : Nat) : Pm n := if h : p + 1 < n then Pm.swap n p h else 1
noncomputable def stepN {n : Nat} (v : Nm n) (x : Int) : Nm n :=
 if 0 < x then mk v.1 (v.2 ++ [swapN n (x.natAbs - 1)]) else mk (v.1 - 1) (v.2.map trn ++ [Pm.half n * (swapN n (x.natAbs - 1))⁻¹])
noncomputable def nOf (n : Nat) (w : List Int) : Nm n := w.foldl stepN (0, [])
structure OkJ {n : Nat} (v : Nm n) (j : Nat) : Prop where
 P : (Pm.lat n).Proper v.2
 lo : -(j : Int) ≤ v.1
 hi : v.1 + v.2.length ≤ j
 len : v.2.length ≤ j
theorem mk_len {n : Nat} (h2 : 2 ≤ n) (p : Int) (l : List (Pm n)) : (mk p l).2.length ≤ l.length := by
 obtain ⟨j, _, hP, hl⟩ := Lat.norm_spec (half_ne h2) (allS l); simp only [mk]; omega
theorem stepN_ok {n : Nat} (h2 : 2 ≤ n) {v : Nm n} {j : Nat} (h : OkJ v j) (x : Int) : OkJ (stepN v x) (j + 1) := by
 have a1 := h.lo; have a2 := h.hi; have a3 := h.len; unfold stepN
 split
 · have hm := mk_spec h2 v.1 (v.2 ++ [swapN n (x.natAbs - 1)]); have hl := mk_len h2 v.1 (v.2 ++ [swapN n (x.natAbs - 1)]); simp only [List.length_append, List.length_cons, List.length_nil] at hm hl; exact ⟨hm.1, by omega, by omega, by omega⟩
 · have hm := mk_spec h2 (v.1 - 1) (v.2.map trn ++ [Pm.half n * (swapN n (x.natAbs - 1))⁻¹]); have hl := mk_len h2 (v.1 - 1) (v.2.map trn ++ [Pm.half n * (swapN n (x.natAbs - 1))⁻¹]); simp only [List.length_append, List.length_cons, List.length_nil, List.length_map] at hm hl; exact ⟨hm.1, by omega, by omega, by omega⟩
theorem OkJ.zero (n : Nat) : OkJ ((0, []) : Nm n) 0 := ⟨Lat.Proper.nil, by simp, by simp, by simp⟩
def Lw (n : Nat) (w : List Int) : Prop := ∀ x ∈ w, x ≠ 0 ∧ 1 - (n : Int) ≤ x ∧ x ≤ (n : Int) - 1
theorem swapN_eq {n p : Nat} (h : p + 1 < n) : swapN n p = Pm.swap n p h := dif_pos h
theorem c_normalOf_3 (n : Nat) (h2 : 2 ≤ n) (hn : n ≤ 8) (w : List Int) (hw : Lw n w) (hl : w.length ≤ 200) (x2 x3 : Int) (x4 : List (List Int)) : ∀ (d i : Nat) (v : Nm n), i + d = w.length → OkJ v i →
  R ii_normalOf_3 [tI (n : Int), tLI w, tI x2, tI x3, tLA8 x4, tI (n : Int), tI v.1, tLA8 (sL v.2), tI (w.length : Int), tI (i : Int)] =
   some [tI 0, tI x2, tI x3, tLA8 x4, tI (n : Int), tI ((w.drop i).foldl stepN v).1, tLA8 (sL ((w.drop i).foldl stepN v).2)] := by
 intro d
 induction d with
 | zero =>
  intro i v hi hv; apply vi_normalOf_3; have h1 : ¬ ((i : Int) < (w.length : Int)) := by omega
  rw [List.drop_of_length_le (by omega)]; simp only [bi_normalOf_3, decide_eq_false h1, cond_false, List.foldl_nil]
 | succ d ih =>
  intro i v hi hv; have h0 : i < w.length := by omega
  have a1 := hv.lo; have a2 := hv.hi; have a3 := hv.len; obtain ⟨b1, b2, b3⟩ := hw _ (List.getElem_mem h0); have hp : w[i].natAbs - 1 + 1 < n := by omega
  have ih' := ih (i + 1) (stepN v w[i]) (by omega) (stepN_ok h2 hv _); apply vi_normalOf_3; rw [List.drop_eq_getElem_cons h0, List.foldl_cons]; simp (disch := omega) only [bi_normalOf_3, decide_eq_true, cond_true, Bool.and_true, Int.toNat_natCast, getD_at h0, wrap_i64]
  by_cases h : 0 < w[i]
  · have e : w[i] = ((w[i].natAbs - 1 + 1 : Nat) : Int) := by omega
    have he := c_exchange n (w[i].natAbs - 1) hp hn; rw [← e] at he; have hput := c_put n h2 hn v (Pm.swap n _ hp) hv.P (by omega) (by omega) (by omega); have es : stepN v w[i] = mk v.1 (v.2 ++ [Pm.swap n _ hp]) := by rw [stepN, if_pos h, swapN_eq hp]
    rw [es] at ih' ⊢; simp only [enc] at hput; simp only [decide_eq_true h, cond_true, he, Option.bind_some, getTV_here, hput]; exact ih'
  · have e : 0 - w[i] = ((w[i].natAbs - 1 + 1 : Nat) : Int) := by omega
    have he := c_exchange n (w[i].natAbs - 1) hp hn; rw [← e] at he; have hput := c_putInverse n h2 hn v (Pm.swap n _ hp) hv.P (by omega) (by omega) (by omega); have es : stepN v w[i] = mk (v.1 - 1) (v.2.map trn ++ [Pm.half n * (Pm.swap n _ hp)⁻¹]) := by rw [stepN, if_neg h, swapN_eq hp]
    rw [es] at ih' ⊢; simp only [enc] at hput; simp only [decide_eq_false h, cond_false, he, Option.bind_some, getTV_here, hput]; exact ih'
theorem c_l03Of_3 (n : Nat) (h2 : 2 ≤ n) (hn : n ≤ 8) (w : List Int) (hw : Lw n w) (hl : w.length ≤ 200) (x1 x2 : Int) (x3 : List (List Int)) : ∀ (d i : Nat) (v : Nm n), i + d = w.length → OkJ v i →
  R is_l03Of_3 [tLI w, tI x1, tI x2, tLA8 x3, tI (n : Int), tI v.1, tLA8 (sL v.2), tI (n : Int), tI (i : Int)] =
   some [tI 0, tI x1, tI x2, tLA8 x3, tI (n : Int), tI ((w.drop i).foldl stepN v).1, tLA8 (sL ((w.drop i).foldl stepN v).2)] := by
 intro d
 induction d with
 | zero =>
  intro i v hi hv; apply vs_l03Of_3; have h1 : ¬ ((i : Int) < (w.length : Int)) := by omega
  rw [List.drop_of_length_le (by omega)]; simp only [bs_l03Of_3, decide_eq_false h1, cond_false, List.foldl_nil]
 | succ d ih =>
  intro i v hi hv; have h0 : i < w.length := by omega
  have a1 := hv.lo; have a2 := hv.hi; have a3 := hv.len; obtain ⟨b1, b2, b3⟩ := hw _ (List.getElem_mem h0); have hp : w[i].natAbs - 1 + 1 < n := by omega
  have ih' := ih (i + 1) (stepN v w[i]) (by omega) (stepN_ok h2 hv _); apply vs_l03Of_3; rw [List.drop_eq_getElem_cons h0, List.foldl_cons]; simp (disch := omega) only [bs_l03Of_3, decide_eq_true, cond_true, Bool.and_true, Int.toNat_natCast, getD_at h0, wrap_i64]
  by_cases h : 0 < w[i]
  · have e : w[i] = ((w[i].natAbs - 1 + 1 : Nat) : Int) := by omega
    have he := c_l02Exchange n (w[i].natAbs - 1) hp hn; rw [← e] at he; have hput := c_l03Times_f n h2 hn v (Pm.swap n _ hp) (by omega) (by omega) (by omega); have es : stepN v w[i] = mk v.1 (v.2 ++ [Pm.swap n _ hp]) := by rw [stepN, if_pos h, swapN_eq hp]
    rw [es] at ih' ⊢; simp only [enc] at hput; simp only [decide_eq_true h, cond_true, he, Option.bind_some, getTV_here, hput]; exact ih'
  · have e : 0 - w[i] = ((w[i].natAbs - 1 + 1 : Nat) : Int) := by omega
    have he := c_l02Exchange n (w[i].natAbs - 1) hp hn; rw [← e] at he; have hput := c_l03Times_t n h2 hn v (Pm.swap n _ hp) (by omega) (by omega) (by omega); have es : stepN v w[i] = mk (v.1 - 1) (v.2.map trn ++ [Pm.half n * (Pm.swap n _ hp)⁻¹]) := by rw [stepN, if_neg h, swapN_eq hp]
    rw [es] at ih' ⊢; simp only [enc] at hput; simp only [decide_eq_false h, cond_false, he, Option.bind_some, getTV_here, hput]; exact ih'
theorem Lw_one {w : List Int} (hw : Lw 1 w) : w = [] := by
 cases w with
 | nil => rfl
 | cons x w =>
  have := hw x (by simp); omega
theorem c_normalOf (n : Nat) (hn1 : 1 ≤ n) (hn : n ≤ 8) (w : List Int) (hw : Lw n w) (hl : w.length ≤ 200) : R ii_normalOf [tPILI ((n : Int), w)] = some [tPIPILA8 (enc (nOf n w))] := by
 apply vi_normalOf
 by_cases h2 : 2 ≤ n
 · have h := c_normalOf_3 n h2 hn w hw hl 0 0 [] w.length 0 (0, []) (by omega) (OkJ.zero n); simp only [sL_nil, Int.natCast_zero, List.drop_zero] at h; simp only [bi_normalOf, h, Option.bind_some, getTV_here, getTV_next]
   rfl
 · have : n = 1 := by omega
   subst this; have := Lw_one hw; subst this; have h : R ii_normalOf_3 [tI 1, tLI [], tI 0, tI 0, tLA8 [], tI 1, tI 0, tLA8 [], tI 0, tI 0] = some [tI 0, tI 0, tI 0, tLA8 [], tI 1, tI 0, tLA8 []] := by
    apply vi_normalOf_3; simp [bi_normalOf_3]
   simp [bi_normalOf, h, nOf, enc, sL_nil]
theorem c_l03Of (n : Nat) (hn1 : 1 ≤ n) (hn : n ≤ 8) (w : List Int) (hw : Lw n w) (hl : w.length ≤ 200) : R is_l03Of [tI (n : Int), tLI w] = some [tPIPILA8 (enc (nOf n w))] := by
 apply vs_l03Of
 by_cases h2 : 2 ≤ n
 · have h := c_l03Of_3 n h2 hn w hw hl 0 0 [] w.length 0 (0, []) (by omega) (OkJ.zero n); simp only [sL_nil, Int.natCast_zero, List.drop_zero] at h; simp only [bs_l03Of, h, Option.bind_some, getTV_here, getTV_next]
   rfl
 · have : n = 1 := by omega
   subst this; have := Lw_one hw; subst this; have h : R is_l03Of_3 [tLI [], tI 0, tI 0, tLA8 [], tI 1, tI 0, tLA8 [], tI 1, tI 0] = some [tI 0, tI 0, tI 0, tLA8 [], tI 1, tI 0, tLA8 []] := by
    apply vs_l03Of_3; simp [bs_l03Of_3]
   simp [bs_l03Of, h, nOf, enc, sL_nil]
def limV (v : Int × Int × List (List Int)) : (Int × Int × List (List Int)) × Int := if -200 ≤ v.2.1 ∧ v.2.1 ≤ 200 ∧ v.2.2.length ≤ 200 then (v, 0) else ((0, 0, []), 3)
theorem c_limited (v : Int × Int × List (List Int)) : R ii_limited [tPIPILA8 v] = some [tPIPILA8 (limV v).1, tI (limV v).2] := by
 apply vi_limited; simp only [bi_limited, c_within, Option.bind_some, getTV_here, limV]
 by_cases h1 : -200 ≤ v.2.1
 · by_cases h2 : v.2.1 ≤ 200
   · by_cases h3 : v.2.2.length ≤ 200
     · have h4 : ¬ ((200 : Int) < (v.2.2.length : Int)) := by omega
       simp [h1, h2, h3, h4]
     · have h4 : ((200 : Int) < (v.2.2.length : Int)) := by omega
       simp [h1, h2, h3, h4]
   · simp [h1, h2]
 · simp [h1]
theorem c_l03Fit (v : Int × Int × List (List Int)) : R is_l03Fit [tPIPILA8 v] = some [tPIPILA8 (limV v).1, tI (limV v).2] := by
 apply vs_l03Fit; simp only [bs_l03Fit, c_l01In, Option.bind_some, getTV_here, limV]
 by_cases h1 : -200 ≤ v.2.1
 · by_cases h2 : v.2.1 ≤ 200
   · by_cases h3 : v.2.2.length ≤ 200
     · have h4 : ¬ ((200 : Int) < (v.2.2.length : Int)) := by omega
       simp [h1, h2, h3, h4]
     · have h4 : ((200 : Int) < (v.2.2.length : Int)) := by omega
       simp [h1, h2, h3, h4]
   · simp [h1, h2]
 · simp [h1]
theorem sL_8 {n : Nat} (l : List (Pm n)) : Len8 (sL l) := fun x hx => by
 obtain ⟨s, _, rfl⟩ := List.mem_map.1 hx; exact sA_len s
theorem isBr_Lw {b : Int × List Int} (h : isBr b = true) : Lw b.1.toNat b.2 ∧ b.1 = (b.1.toNat : Int) ∧ 1 ≤ b.1.toNat ∧ b.1.toNat ≤ 8 ∧ b.2.length ≤ 200 := by
 have hk := isBr_ok h; refine ⟨fun x hx => ?_, by omega, by omega, by omega, hk.2.2.1⟩; have := hk.2.2.2 x hx; omega
noncomputable def vNormalOf (a : Int × List Int) : (Int × Int × List (List Int)) × Int := if isBr a then limV (enc (nOf a.1.toNat a.2)) else ((0, 0, []), 1)
theorem c_NormalOf_i (a : Int × List Int) (hl : a.2.length < 1000000000) : R ii_NormalOf [tPILI a] = some [tPIPILA8 (vNormalOf a).1, tI (vNormalOf a).2] := by
 apply vi_NormalOf; simp only [bi_NormalOf, c_IsBraid a hl, Option.bind_some, getTV_here, vNormalOf]
 cases h : isBr a with
 | false => simp
 | true =>
  obtain ⟨q1, q2, q3, q4, q5⟩ := isBr_Lw h; have hc := c_normalOf a.1.toNat q3 q4 a.2 q1 q5; rw [← q2] at hc; simp [hc, c_limited]
end Go.Ev.YtfkpbhbghbhmgaaGreat
namespace Go.Ev.YtfkpbhbghbhmgaaGreat
open Go.Ev Go.Gar
open Classical in
noncomputable def isSm (n : Int) (a : List Int) : Bool := decide (1 ≤ n) && decide (n ≤ 8) && decide (∃ s : Pm n.toNat, a = sA s)
theorem c_l02Is_5 (n : Nat) (hn : n ≤ 8) (a : List Int) (ha : B8 a) : ∀ (k : Nat) (met : List Bool), k ≤ 8 → met.length = 8 →
  R is_l02Is_5 [tA8 a, tAB8 met, tI (n : Int), tI ((8 - k : Nat) : Int)] = some (if chk n a k met then [tI 0] else [tI 1, tB false]) := by
 intro k
 induction k with
 | zero =>
  intro met _ _; apply vs_l02Is_5; simp [bs_l02Is_5, chk]
 | succ k ih =>
  intro met hk hm; have hb := (ha.at (show 7 - k < 8 by omega)).2; have e : 8 - (k + 1) = 7 - k := by omega
  apply vs_l02Is_5; rw [e]; unfold chk; have e1 : wi64 (((7 - k : Nat) : Int) + 1) = ((8 - k : Nat) : Int) := by rw [wrap_i64] <;> omega
  have e2 : wi64 (List.getD a (7 - k) 0) = List.getD a (7 - k) 0 := wrap_i64 (by omega) (by omega); simp (disch := omega) only [bs_l02Is_5, decide_eq_true, cond_true, Bool.and_true, Int.toNat_natCast, e1, e2]
  by_cases h : n ≤ 7 - k
  · have h' : ((n : Int) ≤ ((7 - k : Nat) : Int)) := by omega
    rw [decide_eq_true h', cond_true, if_pos h, ih met (by omega) hm]
    by_cases h2 : List.getD a (7 - k) 0 = 0
    · simp only [h2, bne_self_eq_false, cond_false, beq_self_eq_true, Bool.true_and]
    · have h3 : (List.getD a (7 - k) 0 == 0) = false := by rw [beq_dec, decide_eq_false h2]
      have h4 : (List.getD a (7 - k) 0 != 0) = true := by rw [bne_dec, decide_eq_false h2]; rfl
      rw [h3, h4]; simp
  · have h' : ¬ ((n : Int) ≤ ((7 - k : Nat) : Int)) := by omega
    rw [decide_eq_false h', cond_false, if_neg h]
    by_cases h2 : (n : Int) ≤ List.getD a (7 - k) 0
    · have h3 : ¬ (List.getD a (7 - k) 0 < (n : Int)) := by omega
      rw [decide_eq_true h2, cond_true, decide_eq_false h3]; simp
    · have h3 : (List.getD a (7 - k) 0 < (n : Int)) := by omega
      rw [decide_eq_false h2, cond_false, decide_eq_true h3, Bool.true_and]; have e3 : List.getD a (7 - k) 0 < 8 := by omega
      rw [decide_eq_true e3, cond_true]
      cases h4 : List.getD met (List.getD a (7 - k) 0).toNat false with
      | true => simp
      | false =>
       rw [cond_false, cond_true, ih _ (by omega) (by simp [hm])]; simp
theorem c_l02Is (n : Int) (a : List Int) (ha : B8 a) : R is_l02Is [tA8 a, tI n] = some [tB (isSm n a)] := by
 apply vs_l02Is; simp only [bs_l02Is, c_l01In, Option.bind_some, getTV_here, isSm]
 by_cases h1 : 1 ≤ n ∧ n ≤ 8
 · obtain ⟨m, rfl⟩ : ∃ m : Nat, n = m := ⟨n.toNat, by omega⟩; have h := c_l02Is_5 m (by omega) a ha 8 (List.replicate 8 false) (by omega) (by simp); have hc := chk_sA (n := m) (by omega) ha; simp only [Nat.sub_self, Int.natCast_zero] at h; simp only [h1, decide_true, Bool.and_self, Bool.not_true, cond_false, h, Option.bind_some, Int.toNat_natCast, Bool.true_and]
   by_cases h2 : chk m a 8 (List.replicate 8 false) = true
   · have h3 := hc.1 h2; rw [if_pos h2]; simp [h3]
   · have h3 : ¬ ∃ s : Pm m, a = sA s := fun h => h2 (hc.2 h); rw [if_neg h2]; simp [h3]
 · have e : (decide (1 ≤ n) && decide (n ≤ 8)) = false := by simp; omega
   simp [e]
theorem c_IsSimple_5 (n : Nat) (hn : n ≤ 8) (a : List Int) (ha : B8 a) : ∀ (k : Nat) (met : List Bool), k ≤ 8 → met.length = 8 →
  R ii_IsSimple_5 [tAB8 met, tI (n : Int), tA8 a, tI ((8 - k : Nat) : Int)] = some (if chk n a k met then [tI 0] else [tI 1, tB false]) := by
 intro k
 induction k with
 | zero =>
  intro met _ _; apply vi_IsSimple_5; simp [bi_IsSimple_5, chk]
 | succ k ih =>
  intro met hk hm; have hb := (ha.at (show 7 - k < 8 by omega)).2; have e : 8 - (k + 1) = 7 - k := by omega
  apply vi_IsSimple_5; rw [e]; unfold chk; have e1 : wi64 (((7 - k : Nat) : Int) + 1) = ((8 - k : Nat) : Int) := by rw [wrap_i64] <;> omega
  have e2 : wi64 (List.getD a (7 - k) 0) = List.getD a (7 - k) 0 := wrap_i64 (by omega) (by omega); simp (disch := omega) only [bi_IsSimple_5, decide_eq_true, cond_true, Bool.and_true, Int.toNat_natCast, e1, e2]
  by_cases h : n ≤ 7 - k
  · have h' : ((n : Int) ≤ ((7 - k : Nat) : Int)) := by omega
    rw [decide_eq_true h', cond_true, if_pos h, ih met (by omega) hm]
    by_cases h2 : List.getD a (7 - k) 0 = 0
    · simp only [h2, bne_self_eq_false, cond_false, beq_self_eq_true, Bool.true_and]
    · have h3 : (List.getD a (7 - k) 0 == 0) = false := by rw [beq_dec, decide_eq_false h2]
      have h4 : (List.getD a (7 - k) 0 != 0) = true := by rw [bne_dec, decide_eq_false h2]; rfl
      rw [h3, h4]; simp
  · have h' : ¬ ((n : Int) ≤ ((7 - k : Nat) : Int)) := by omega
    rw [decide_eq_false h', cond_false, if_neg h]
    by_cases h2 : (n : Int) ≤ List.getD a (7 - k) 0
    · have h3 : ¬ (List.getD a (7 - k) 0 < (n : Int)) := by omega
      rw [decide_eq_true h2, cond_true, decide_eq_false h3]; simp
    · have h3 : (List.getD a (7 - k) 0 < (n : Int)) := by omega
      rw [decide_eq_false h2, cond_false, decide_eq_true h3, Bool.true_and]; have e3 : List.getD a (7 - k) 0 < 8 := by omega
      rw [decide_eq_true e3, cond_true]
      cases h4 : List.getD met (List.getD a (7 - k) 0).toNat false with
      | true => simp
      | false =>
       rw [cond_false, cond_true, ih _ (by omega) (by simp [hm])]; simp
theorem c_IsSimple (n : Int) (a : List Int) (ha : B8 a) : R ii_IsSimple [tA8 a, tI n] = some [tB (isSm n a)] := by
 apply vi_IsSimple; simp only [bi_IsSimple, c_isCount, Option.bind_some, getTV_here, isSm]
 by_cases h1 : 1 ≤ n ∧ n ≤ 8
 · obtain ⟨m, rfl⟩ : ∃ m : Nat, n = m := ⟨n.toNat, by omega⟩; have h := c_IsSimple_5 m (by omega) a ha 8 (List.replicate 8 false) (by omega) (by simp); have hc := chk_sA (n := m) (by omega) ha; simp only [Nat.sub_self, Int.natCast_zero] at h; simp only [h1, decide_true, Bool.and_self, Bool.not_true, cond_false, h, Option.bind_some, Int.toNat_natCast, Bool.true_and]
   by_cases h2 : chk m a 8 (List.replicate 8 false) = true
   · have h3 := hc.1 h2; rw [if_pos h2]; simp [h3]
   · have h3 : ¬ ∃ s : Pm m, a = sA s := fun h => h2 (hc.2 h); rw [if_neg h2]; simp [h3]
 · have e : (decide (1 ≤ n) && decide (n ≤ 8)) = false := by simp; omega
   simp [e]
def WdAt {n : Nat} (a b : Pm n) (p : Nat) : Prop := b.f (p + 1) < b.f p → ¬ a.g p < a.g (p + 1)
theorem wd_iff {n : Nat} (a b : Pm n) : Pm.meet (a⁻¹ * Pm.half n) b = 1 ↔ ∀ p, p + 1 < n → WdAt a b p := by
 constructor
 · intro h p hp h1 h2; have g := Pm.meet_greedy (a⁻¹ * Pm.half n) b; rw [h] at g; refine g.stop p hp (by simp) ⟨?_, h1⟩; simp only [Pm.one_g, Pm.mul_f, Pm.inv_f, Pm.half_f]; exact Pm.hf_anti h2 (a.lt_g hp)
 · intro h; refine (Pm.Greedy.eq ⟨Pm.one_le _, Pm.one_le _, fun p hp _ h1 => ?_⟩).symm; simp only [Pm.one_g, Pm.mul_f, Pm.inv_f, Pm.half_f] at h1; refine h p hp h1.2 ?_
   rcases Pm.hf_rev h1.1 with h2 | h2
   · exact h2
   · have := a.lt_g (show p < n by omega); omega
theorem c_l03Weighted_3 (n : Nat) (hn : n ≤ 8) (a b : Pm n) : ∀ (d p : Nat), p + d = n →
  (∀ q, q < p → q + 1 < n → WdAt a b q) →
  R is_l03Weighted_3 [tA8 (sA b), tA8 (sA a⁻¹), tI (n : Int), tI ((p + 1 : Nat) : Int)] = some (if Pm.meet (a⁻¹ * Pm.half n) b = 1 then [tI 0] else [tI 1, tB false]) := by
 intro d
 induction d with
 | zero =>
  intro p hp h; apply vs_l03Weighted_3; have h1 : ¬ (((p + 1 : Nat) : Int) < (n : Int)) := by omega
  rw [if_pos ((wd_iff a b).2 fun q hq => h q (by omega) hq)]; simp only [bs_l03Weighted_3, decide_eq_false h1, cond_false]
 | succ d ih =>
  intro p hp h; apply vs_l03Weighted_3
  by_cases h0 : p + 1 < n
  · have e1 := wi64_p (p := p) (by omega); have g0 := sA_get (s := a⁻¹) (x := p) (by omega) hn; have g1 := sA_get (s := a⁻¹) (x := p + 1) h0 hn; simp only [Pm.inv_f] at g0 g1; simp (disch := omega) only [bs_l03Weighted_3, e1, decide_eq_true, cond_true, Bool.and_true, Int.toNat_natCast, sA_get, g0, g1, wi64_n1]
    by_cases h1 : b.f (p + 1) < b.f p
    · have d1 : ((b.f (p + 1) : Int) < (b.f p : Int)) := by omega
      rw [decide_eq_true d1, cond_true]
      by_cases h2 : a.g p < a.g (p + 1)
      · have d2 : ((a.g p : Int) < (a.g (p + 1) : Int)) := by omega
        rw [decide_eq_true d2, cond_true, if_neg (fun hm => (wd_iff a b).1 hm p h0 h1 h2)]
      · have d2 : ¬ ((a.g p : Int) < (a.g (p + 1) : Int)) := by omega
        rw [decide_eq_false d2, cond_false]; exact ih (p + 1) (by omega) (fun q hq hq2 => by
         by_cases h3 : q = p
         · subst h3; exact fun _ => h2
         · exact h q (by omega) hq2)
    · have d1 : ¬ ((b.f (p + 1) : Int) < (b.f p : Int)) := by omega
      rw [decide_eq_false d1, cond_false]; exact ih (p + 1) (by omega) (fun q hq hq2 => by
       by_cases h3 : q = p
       · subst h3; exact fun h => (h1 h).elim
       · exact h q (by omega) hq2)
  · have h1 : ¬ (((p + 1 : Nat) : Int) < (n : Int)) := by omega
    rw [if_pos ((wd_iff a b).2 fun q hq => h q (by omega) hq)]; simp only [bs_l03Weighted_3, decide_eq_false h1, cond_false]
theorem c_l03Weighted (n : Nat) (hn : n ≤ 8) (a b : Pm n) : R is_l03Weighted [tA8 (sA a), tA8 (sA b), tI (n : Int)] = some [tB (decide (Pm.meet (a⁻¹ * Pm.half n) b = 1))] := by
 apply vs_l03Weighted; have h := c_l03Weighted_3 n hn a b n 0 (by omega) (fun q h => by omega); simp only [bs_l03Weighted, c_l02Back n hn, Option.bind_some, getTV_here]; rw [show (1 : Int) = ((0 + 1 : Nat) : Int) from rfl, h]; by_cases h1 : Pm.meet (a⁻¹ * Pm.half n) b = 1 <;> simp [h1]
theorem c_begins (n p : Nat) (hp : p + 1 < n) (hn : n ≤ 8) (s : Pm n) : R ii_begins [tA8 (sA s), tI ((p + 1 : Nat) : Int)] = some [tB (decide (s.f (p + 1) < s.f p))] := by
 apply vi_begins; have e1 := wi64_p (p := p) (by omega); simp (disch := omega) only [bi_begins, e1, decide_eq_true, cond_true, Bool.and_true, Int.toNat_natCast, sA_get]
 by_cases h : s.f (p + 1) < s.f p
 · have d1 : ((s.f (p + 1) : Int) < (s.f p : Int)) := by omega
   rw [decide_eq_true h, decide_eq_true d1]
 · have d1 : ¬ ((s.f (p + 1) : Int) < (s.f p : Int)) := by omega
   rw [decide_eq_false h, decide_eq_false d1]
def begL {n : Nat} (s : Pm n) : Nat → List Int
 | 0 => []
 | d + 1 => if s.f (n - d) < s.f (n - (d + 1)) ∧ n - d < n then ((n - d : Nat) : Int) :: begL s d else begL s d
theorem c_beginning_3 (n : Nat) (hn : n ≤ 8) (s : Pm n) : ∀ (d : Nat), d ≤ n → ∀ out : List Int, out.length + d ≤ 100 →
  R ii_beginning_3 [tA8 (sA s), tLI out, tI (n : Int), tI ((n - d + 1 : Nat) : Int)] = some [tI 0, tLI (out ++ begL s d)] := by
 intro d
 induction d with
 | zero =>
  intro _ out _; apply vi_beginning_3; have h1 : ¬ (((n - 0 + 1 : Nat) : Int) < (n : Int)) := by omega
  simp only [bi_beginning_3, decide_eq_false h1, cond_false, begL, List.append_nil]
 | succ d ih =>
  intro hd out ho; apply vi_beginning_3; have e0 : n - (d + 1) + 1 = n - d := by omega
  by_cases h0 : n - (d + 1) + 1 < n
  · have hb := c_begins n (n - (d + 1)) h0 hn s; simp (disch := omega) only [bi_beginning_3, decide_eq_true, cond_true, hb, Option.bind_some, getTV_here, apOk1, wrap_i64]; rw [e0, show ((n - d : Nat) : Int) + 1 = ((n - d + 1 : Nat) : Int) by omega]; unfold begL
    by_cases h : s.f (n - d) < s.f (n - (d + 1))
    · rw [decide_eq_true h, cond_true, if_pos ⟨h, by omega⟩, ih (by omega) _ (by simp; omega)]; simp only [List.append_assoc, List.cons_append, List.nil_append]
    · rw [decide_eq_false h, cond_false, if_neg (fun h2 => h h2.1), ih (by omega) _ (by omega)]
  · have h1 : ¬ (((n - (d + 1) + 1 : Nat) : Int) < (n : Int)) := by omega
    have hd0 : d = 0 := by omega
    subst hd0; simp only [bi_beginning_3, decide_eq_false h1, cond_false]; unfold begL; rw [if_neg (fun h2 => absurd h2.2 (by simp))]; simp [begL]
theorem c_beginning (n : Nat) (hn : n ≤ 8) (s : Pm n) : R ii_beginning [tA8 (sA s), tI (n : Int)] = some [tLI (begL s n)] := by
 apply vi_beginning; have h := c_beginning_3 n hn s n (Nat.le_refl _) [] (by simp; omega); simp only [Nat.sub_self, List.nil_append] at h; rw [show ((0 + 1 : Nat) : Int) = 1 from rfl] at h; simp only [bi_beginning, h, Option.bind_some, getTV_here, getTV_next]
theorem begL_mem {n : Nat} (s : Pm n) : ∀ (d : Nat), d ≤ n → ∀ x : Int, x ∈ begL s d ↔ ∃ p, n - d ≤ p ∧ p + 1 < n ∧ s.f (p + 1) < s.f p ∧ x = ((p + 1 : Nat) : Int)
 | 0, _, x => by
  simp only [begL, List.not_mem_nil, false_iff]; rintro ⟨p, h1, h2, _⟩; omega
 | d + 1, hd, x => by
  have ih := begL_mem s d (by omega) x; unfold begL
  by_cases h : s.f (n - d) < s.f (n - (d + 1)) ∧ n - d < n
  · rw [if_pos h, List.mem_cons, ih]; clear ih
    constructor
    · rintro (rfl | ⟨p, h1, h2, h3⟩)
      · refine ⟨n - (d + 1), Nat.le_refl _, by omega, ?_, by omega⟩; rw [show n - (d + 1) + 1 = n - d by omega]; exact h.1
      · exact ⟨p, by omega, h2, h3⟩
    · rintro ⟨p, h1, h2, h3, rfl⟩
      by_cases h4 : p = n - (d + 1)
      · left; omega
      · right; exact ⟨p, by omega, h2, h3, rfl⟩
  · rw [if_neg h, ih]; clear ih
    constructor
    · rintro ⟨p, h1, h2, h3⟩; exact ⟨p, by omega, h2, h3⟩
    · rintro ⟨p, h1, h2, h3, h4⟩
      by_cases h5 : p = n - (d + 1)
      · exfalso; subst h5; rw [show n - (d + 1) + 1 = n - d by omega] at h2 h3; exact h ⟨h3, h2⟩
      · exact ⟨p, by omega, h2, h3, h4⟩
theorem begL_len {n : Nat} (s : Pm n) : ∀ (d : Nat), (begL s d).length ≤ d
 | 0 => by simp [begL]
 | d + 1 => by
  have := begL_len s d; unfold begL
  split
  · simp; omega
  · omega
theorem c_endsAll_3 (n : Nat) (hn : n ≤ 8) (a : Pm n) (l : List Int) (hl : l.length ≤ 100) (hm : ∀ x ∈ l, ∃ p, p + 1 < n ∧ x = ((p + 1 : Nat) : Int)) : ∀ i, i ≤ l.length →
  ∃ o, R ii_endsAll_3 [tA8 (sA a⁻¹), tLI l, tI (l.length : Int), tI (i : Int)] = some o ∧ ((o = [tI 0] ∧ ∀ p, ((p + 1 : Nat) : Int) ∈ l.drop i → ¬ a.g p < a.g (p + 1)) ∨ (o = [tI 1, tB false] ∧ ∃ p, p + 1 < n ∧ ((p + 1 : Nat) : Int) ∈ l.drop i ∧ a.g p < a.g (p + 1))) := by
 refine up_loop _ ?_ (fun i hi ih => ?_)
 · refine ⟨[tI 0], ?_, .inl ⟨rfl, fun p hp => by simp at hp⟩⟩; apply vi_endsAll_3; simp [bi_endsAll_3]
 · obtain ⟨p, hp, he⟩ := hm _ (List.getElem_mem hi); have hb := c_begins n p hp hn a⁻¹; rw [← he] at hb; simp only [Pm.inv_f] at hb
   by_cases h : a.g (p + 1) < a.g p
   · obtain ⟨o, h1, h2⟩ := ih
     refine ⟨o, ?_, ?_⟩
     · apply vi_endsAll_3; simp (disch := omega) only [bi_endsAll_3, decide_eq_true, cond_true, Bool.and_true, Int.toNat_natCast, getD_at hi, hb, Option.bind_some, getTV_here, Bool.not_true, cond_false, wrap_i64]; rw [show (i : Int) + 1 = ((i + 1 : Nat) : Int) by omega]; exact h1
     · rw [List.drop_eq_getElem_cons hi]
       rcases h2 with ⟨h3, h4⟩ | ⟨h3, q, h4, h5, h6⟩
       · refine .inl ⟨h3, fun q hq => ?_⟩
         rcases List.mem_cons.1 hq with h5 | h5
         · have : q = p := by omega
           subst this; omega
         · exact h4 q h5
       · exact .inr ⟨h3, q, h4, List.mem_cons_of_mem _ h5, h6⟩
   · have hne : a.g p ≠ a.g (p + 1) := fun h2 => by have := a.inj_g h2; omega
     refine ⟨[tI 1, tB false], ?_, .inr ⟨rfl, p, hp, ?_, by omega⟩⟩
     · apply vi_endsAll_3; simp (disch := omega) only [bi_endsAll_3, decide_eq_true, decide_eq_false h, cond_true, Bool.and_true, Int.toNat_natCast, getD_at hi, hb, Option.bind_some, getTV_here, Bool.not_false]
     · rw [List.drop_eq_getElem_cons hi, he]; exact List.mem_cons_self
theorem c_endsAll (n : Nat) (hn : n ≤ 8) (a b : Pm n) : R ii_endsAll [tA8 (sA a), tA8 (sA b), tI (n : Int)] = some [tB (decide (Pm.meet (a⁻¹ * Pm.half n) b = 1))] := by
 have hl := begL_len b n; obtain ⟨o, h1, h2⟩ := c_endsAll_3 n hn a (begL b n) (by omega) (fun x hx => by
  obtain ⟨p, _, h3, _, h4⟩ := (begL_mem b n (Nat.le_refl _) x).1 hx; exact ⟨p, h3, h4⟩) 0 (Nat.zero_le _)
 simp only [Int.natCast_zero, List.drop_zero] at h1 h2; apply vi_endsAll; simp only [bi_endsAll, c_backOf n hn, c_beginning n hn, Option.bind_some, getTV_here, h1]
 rcases h2 with ⟨rfl, h3⟩ | ⟨rfl, p, h3, h4, h5⟩
 · have : Pm.meet (a⁻¹ * Pm.half n) b = 1 := (wd_iff a b).2 fun p hp hb => h3 p ((begL_mem b n (Nat.le_refl _) _).2 ⟨p, by omega, hp, hb, rfl⟩)
   simp [this]
 · have : ¬ Pm.meet (a⁻¹ * Pm.half n) b = 1 := fun hm => by
    obtain ⟨q, _, q2, q3, q4⟩ := (begL_mem b n (Nat.le_refl _) _).1 h4; have : q = p := by omega
    subst this; exact (wd_iff a b).1 hm q h3 q3 h5
   simp [this]
end Go.Ev.YtfkpbhbghbhmgaaGreat
namespace Go.Ev.YtfkpbhbghbhmgaaGreat
open Go.Ev Go.Gar
theorem dec_f {p : Prop} {i : Decidable p} (h : ¬ p) : @decide p i = false := decide_eq_false h
theorem dec_t {p : Prop} {i : Decidable p} (h : p) : @decide p i = true := decide_eq_true h
def Rows8 (L : List (List Int)) : Prop := ∀ x ∈ L, B8 x
theorem Rows8.at {L : List (List Int)} (h : Rows8 L) {i : Nat} (hi : i < L.length) : B8 L[i] := h _ (List.getElem_mem hi)
theorem sL_rows {n : Nat} (hn : n ≤ 8) (l : List (Pm n)) : Rows8 (sL l) := fun x hx => by
 obtain ⟨s, _, rfl⟩ := List.mem_map.1 hx; exact sA_B8 hn s
theorem sL_inj {n : Nat} (hn : n ≤ 8) : ∀ {l m : List (Pm n)}, sL l = sL m → l = m
 | [], [], _ => rfl
 | [], _ :: _, h => by simp [sL] at h
 | _ :: _, [], h => by simp [sL] at h
 | a :: l, b :: m, h => by
  simp only [sL, List.map_cons, List.cons.injEq] at h; rw [sA_inj hn h.1, sL_inj hn h.2]
def Goes (n : Nat) (last : Option (Pm n)) (L : List (List Int)) : Prop := ∃ A : List (Pm n), L = sL A ∧ (Pm.lat n).Proper A ∧ ∀ a, last = some a → ∀ b, A.head? = some b → Pm.meet (a⁻¹ * Pm.half n) b = 1
theorem goes_cons {n : Nat} (hn : n ≤ 8) (last : Option (Pm n)) (s : Pm n) (L : List (List Int)) : Goes n last (sA s :: L) ↔ s ≠ 1 ∧ s ≠ Pm.half n ∧ (∀ a, last = some a → Pm.meet (a⁻¹ * Pm.half n) s = 1) ∧ Goes n (some s) L := by
 constructor
 · rintro ⟨A, h1, h2, h3⟩
   cases A with
   | nil => simp [sL] at h1
   | cons a A =>
    simp only [sL, List.map_cons, List.cons.injEq] at h1; have e := sA_inj hn h1.1; subst e; have hn := h2.no s List.mem_cons_self; refine ⟨hn.2, hn.1, fun a ha => h3 a ha s rfl, A, h1.2, ⟨h2.S.tail, h2.W.2, fun x hx => h2.no x (List.mem_cons_of_mem _ hx)⟩, fun a ha b hb => ?_⟩; simp only [Option.some.injEq] at ha; subst ha; exact h2.W.1 b hb
 · rintro ⟨h1, h2, h3, A, rfl, h5, h6⟩
   refine ⟨s :: A, rfl, ⟨allS _, ⟨fun b hb => h6 s rfl b hb, h5.W⟩, fun x hx => ?_⟩, fun a ha b hb => ?_⟩
   · rcases List.mem_cons.1 hx with rfl | hx
     · exact ⟨h2, h1⟩
     · exact h5.no x hx
   · simp only [List.head?_cons, Option.some.injEq] at hb; subst hb; exact h3 a ha
theorem goes_nil (n : Nat) (last : Option (Pm n)) : Goes n last [] := ⟨[], rfl, Lat.Proper.nil, fun _ _ b hb => by simp at hb⟩
theorem goes_not {n : Nat} (last : Option (Pm n)) (a : List Int) (L : List (List Int)) (h : ¬ ∃ s : Pm n, a = sA s) : ¬ Goes n last (a :: L) := by
 rintro ⟨A, h1, _⟩
 cases A with
 | nil => simp [sL] at h1
 | cons s A =>
  simp only [sL, List.map_cons, List.cons.injEq] at h1; exact h ⟨s, h1.1⟩
open Classical in
noncomputable def goesB (n : Nat) (last : Option (Pm n)) (L : List (List Int)) : Bool := decide (Goes n last L)
theorem goesB_false {n : Nat} {last : Option (Pm n)} {L : List (List Int)} (h : ¬ Goes n last L) : goesB n last L = false := by
 unfold goesB; exact dec_f h
theorem goesB_true {n : Nat} {last : Option (Pm n)} {L : List (List Int)} (h : Goes n last L) : goesB n last L = true := by
 unfold goesB; exact dec_t h
theorem goesB_congr {n : Nat} {l l' : Option (Pm n)} {L L' : List (List Int)} (h : Goes n l L ↔ Goes n l' L') : goesB n l L = goesB n l' L' := by
 unfold goesB; exact decide_eq_decide.2 h
theorem isSm_nat {n : Nat} (h1 : 1 ≤ n) (hn : n ≤ 8) (a : List Int) : isSm (n : Int) a = true ↔ ∃ s : Pm n, a = sA s := by
 unfold isSm; rw [Int.toNat_natCast, decide_eq_true (show (1 : Int) ≤ n by omega), decide_eq_true (show (n : Int) ≤ 8 by omega)]; simp
theorem beq_row {n : Nat} (s t : Pm n) (hn : n ≤ 8) : (sA s == sA t) = decide (s = t) := beq_sA hn s t
theorem c_l03Is_5 (n : Nat) (h1 : 1 ≤ n) (hn : n ≤ 8) (x0 x1 : Int) (L : List (List Int)) (hL : Rows8 L) (hl : L.length ≤ 200) : ∀ (i : Nat), i ≤ L.length → ∀ last : Option (Pm n), (i = 0 → last = none) → (0 < i → ∃ a, last = some a ∧ List.getD L (i - 1) (List.replicate 8 0) = sA a) →
  R is_l03Is_5 [tI x0, tI x1, tLA8 L, tI (n : Int), tI (i : Int)] = some (if goesB n last (L.drop i) then [tI 0] else [tI 1, tB false]) := by
 refine up_loop _ (fun last _ _ => ?_) (fun i hi ih last hl0 hl1 => ?_)
 · apply vs_l03Is_5; rw [List.drop_length, goesB_true (goes_nil n last), if_pos rfl]; simp [bs_l03Is_5]
 · have hB := hL.at hi; have hsm := isSm_nat h1 hn L[i]; apply vs_l03Is_5; rw [List.drop_eq_getElem_cons hi]; simp (disch := omega) only [bs_l03Is_5, decide_eq_true, cond_true, Bool.and_true, Int.toNat_natCast, getD8 hi, c_l02Is _ _ hB, Option.bind_some, getTV_here, c_l02Same n hn, c_l02Half n hn]
   cases hs : isSm (n : Int) L[i] with
   | false =>
    have : ¬ ∃ s : Pm n, L[i] = sA s := fun h => by rw [hsm.2 h] at hs; simp at hs
    rw [goesB_false (goes_not last _ _ this)]; simp
   | true =>
    obtain ⟨s, he⟩ := hsm.1 hs; have ih' := ih (some s) (by omega) (fun _ => ⟨s, rfl, by rw [Nat.add_sub_cancel, getD8 hi, he]⟩); have hg := goes_cons hn last s (L.drop (i + 1)); rw [he]; simp only [Bool.not_true, cond_false, beq_row _ _ hn]
    by_cases e1 : s = 1
    · have : ¬ Goes n last (sA s :: L.drop (i + 1)) := fun h => (hg.1 h).1 e1; rw [goesB_false this, decide_eq_true e1, cond_true]; simp
    · by_cases e2 : s = Pm.half n
      · have : ¬ Goes n last (sA s :: L.drop (i + 1)) := fun h => (hg.1 h).2.1 e2; rw [decide_eq_false e1, decide_eq_true e2, cond_false, cond_true, goesB_false this]; simp
      · rw [decide_eq_false e1, decide_eq_false e2, cond_false, cond_false]; have e3 : wi64 ((i : Int) + 1) = ((i + 1 : Nat) : Int) := by rw [wrap_i64] <;> omega
        by_cases h0 : 0 < i
        · obtain ⟨a, q1, q2⟩ := hl1 h0; subst q1; have d1 : ((0 : Int) < (i : Int)) := by omega
          have e4 : wi64 ((i : Int) - 1) = ((i - 1 : Nat) : Int) := by rw [wrap_i64] <;> omega
          have e5 : (decide ((0 : Int) ≤ ((i - 1 : Nat) : Int)) && decide (((i - 1 : Nat) : Int) < ((L.length : Nat) : Int))) = true := by
           rw [decide_eq_true (by omega), decide_eq_true (by omega)]; rfl
          simp only [decide_eq_true d1, cond_true, e4, e5, Int.toNat_natCast, q2, c_l03Weighted n hn, Option.bind_some, getTV_here, e3]
          by_cases e6 : Pm.meet (a⁻¹ * Pm.half n) s = 1
          · have : Goes n (some a) (sA s :: L.drop (i + 1)) ↔ Goes n (some s) (L.drop (i + 1)) := by
             rw [hg]
             constructor
             · exact fun h => h.2.2.2
             · exact fun h => ⟨e1, e2, fun a' ha => by simp only [Option.some.injEq] at ha; subst ha; exact e6, h⟩
            rw [decide_eq_true e6, Bool.not_true, cond_false, ih', goesB_congr this]
          · have : ¬ Goes n (some a) (sA s :: L.drop (i + 1)) := fun h => e6 ((hg.1 h).2.2.1 a rfl); rw [decide_eq_false e6, Bool.not_false, cond_true, goesB_false this]; simp
        · have q1 := hl0 (by omega); subst q1; have d1 : ¬ ((0 : Int) < (i : Int)) := by omega
          have : Goes n none (sA s :: L.drop (i + 1)) ↔ Goes n (some s) (L.drop (i + 1)) := by
           rw [hg]
           constructor
           · exact fun h => h.2.2.2
           · exact fun h => ⟨e1, e2, fun a' ha => by simp at ha, h⟩
          simp only [decide_eq_false d1, cond_false, e3, ih']; rw [goesB_congr this]
theorem c_IsNormal_5 (n : Nat) (h1 : 1 ≤ n) (hn : n ≤ 8) (x0 x1 : Int) (L : List (List Int)) (hL : Rows8 L) (hl : L.length ≤ 200) : ∀ (i : Nat), i ≤ L.length → ∀ last : Option (Pm n), (i = 0 → last = none) → (0 < i → ∃ a, last = some a ∧ List.getD L (i - 1) (List.replicate 8 0) = sA a) →
  R ii_IsNormal_5 [tI x0, tI x1, tLA8 L, tI (n : Int), tI (L.length : Int), tI (i : Int)] = some (if goesB n last (L.drop i) then [tI 0] else [tI 1, tB false]) := by
 refine up_loop _ (fun last _ _ => ?_) (fun i hi ih last hl0 hl1 => ?_)
 · apply vi_IsNormal_5; rw [List.drop_length, goesB_true (goes_nil n last), if_pos rfl]; simp [bi_IsNormal_5]
 · have hB := hL.at hi; have hsm := isSm_nat h1 hn L[i]; apply vi_IsNormal_5; rw [List.drop_eq_getElem_cons hi]; simp (disch := omega) only [bi_IsNormal_5, decide_eq_true, cond_true, Bool.and_true, Int.toNat_natCast, getD8 hi, c_IsSimple _ _ hB, Option.bind_some, getTV_here, c_nothing n hn, c_halfTurn n hn]
   cases hs : isSm (n : Int) L[i] with
   | false =>
    have : ¬ ∃ s : Pm n, L[i] = sA s := fun h => by rw [hsm.2 h] at hs; simp at hs
    rw [goesB_false (goes_not last _ _ this)]; simp
   | true =>
    obtain ⟨s, he⟩ := hsm.1 hs; have ih' := ih (some s) (by omega) (fun _ => ⟨s, rfl, by rw [Nat.add_sub_cancel, getD8 hi, he]⟩); have hg := goes_cons hn last s (L.drop (i + 1)); rw [he]; simp only [Bool.not_true, cond_false, beq_row _ _ hn]
    by_cases e1 : s = 1
    · have : ¬ Goes n last (sA s :: L.drop (i + 1)) := fun h => (hg.1 h).1 e1; rw [goesB_false this, decide_eq_true e1, cond_true]; simp
    · by_cases e2 : s = Pm.half n
      · have : ¬ Goes n last (sA s :: L.drop (i + 1)) := fun h => (hg.1 h).2.1 e2; rw [decide_eq_false e1, decide_eq_true e2, cond_false, cond_true, goesB_false this]; simp
      · rw [decide_eq_false e1, decide_eq_false e2, cond_false, cond_false]; have e3 : wi64 ((i : Int) + 1) = ((i + 1 : Nat) : Int) := by rw [wrap_i64] <;> omega
        by_cases h0 : 0 < i
        · obtain ⟨a, q1, q2⟩ := hl1 h0; subst q1; have d1 : ((0 : Int) < (i : Int)) := by omega
          have e4 : wi64 ((i : Int) - 1) = ((i - 1 : Nat) : Int) := by rw [wrap_i64] <;> omega
          have e5 : (decide ((0 : Int) ≤ ((i - 1 : Nat) : Int)) && decide (((i - 1 : Nat) : Int) < ((L.length : Nat) : Int))) = true := by
           rw [decide_eq_true (by omega), decide_eq_true (by omega)]; rfl
          simp only [decide_eq_true d1, cond_true, e4, e5, Int.toNat_natCast, q2, c_endsAll n hn, Option.bind_some, getTV_here, e3]
          by_cases e6 : Pm.meet (a⁻¹ * Pm.half n) s = 1
          · have : Goes n (some a) (sA s :: L.drop (i + 1)) ↔ Goes n (some s) (L.drop (i + 1)) := by
             rw [hg]
             constructor
             · exact fun h => h.2.2.2
             · exact fun h => ⟨e1, e2, fun a' ha => by simp only [Option.some.injEq] at ha; subst ha; exact e6, h⟩
            rw [decide_eq_true e6, Bool.not_true, cond_false, ih', goesB_congr this]
          · have : ¬ Goes n (some a) (sA s :: L.drop (i + 1)) := fun h => e6 ((hg.1 h).2.2.1 a rfl); rw [decide_eq_false e6, Bool.not_false, cond_true, goesB_false this]; simp
        · have q1 := hl0 (by omega); subst q1; have d1 : ¬ ((0 : Int) < (i : Int)) := by omega
          have : Goes n none (sA s :: L.drop (i + 1)) ↔ Goes n (some s) (L.drop (i + 1)) := by
           rw [hg]
           constructor
           · exact fun h => h.2.2.2
           · exact fun h => ⟨e1, e2, fun a' ha => by simp at ha, h⟩
          simp only [decide_eq_false d1, cond_false, e3, ih']; rw [goesB_congr this]
def IsNm (v : Int × Int × List (List Int)) : Prop := ∃ (n : Nat) (w : Nm n), 1 ≤ n ∧ n ≤ 8 ∧ OkN w 200 ∧ v = enc w
open Classical in
noncomputable def isNm (v : Int × Int × List (List Int)) : Bool := decide (IsNm v)
theorem isNm_iff (n : Nat) (h1 : 1 ≤ n) (hn : n ≤ 8) (p : Int) (L : List (List Int)) (hp : -200 ≤ p ∧ p ≤ 200) (hL : L.length ≤ 200) (h2 : n = 1 → p = 0) : IsNm ((n : Int), p, L) ↔ Goes n none L := by
 constructor
 · rintro ⟨m, w, _, _, hw, he⟩; simp only [enc, Prod.mk.injEq] at he; obtain ⟨he1, he2, he3⟩ := he; have : m = n := by omega
   subst this; exact ⟨w.2, he3, hw.P, fun a ha => by simp at ha⟩
 · rintro ⟨A, h3, h4, _⟩; subst h3; have hl : A.length ≤ 200 := by rw [sL_len] at hL; exact hL
   refine ⟨n, (p, A), h1, hn, ⟨h4, hl, by simp only; omega, by simp only; omega, fun hn1 => ?_⟩, rfl⟩; have hA : A = [] := by
    cases A with
    | nil => rfl
    | cons a A =>
     exfalso; refine (h4.no a List.mem_cons_self).2 (Pm.ext fun x => ?_); subst hn1
     by_cases hx : x < 1
     · have := a.lt hx; simp only [Pm.one_f]; omega
     · exact a.out x (by omega)
   rw [h2 hn1, hA]
theorem isNm_rng {v : Int × Int × List (List Int)} (h : IsNm v) : 1 ≤ v.1 ∧ v.1 ≤ 8 ∧ -200 ≤ v.2.1 ∧ v.2.1 ≤ 200 ∧ v.2.2.length ≤ 200 ∧ (v.1 < 2 → v.2.1 = 0) := by
 obtain ⟨n, w, h1, h2, hw, rfl⟩ := h; have a1 := hw.len; have a2 := hw.lo; have a3 := hw.hi; simp only [enc, sL_len]; refine ⟨by omega, by omega, by omega, by omega, a1, fun h => ?_⟩; rw [hw.one (by omega)]
theorem c_l03Is (v : Int × Int × List (List Int)) (hL : Rows8 v.2.2) : R is_l03Is [tPIPILA8 v] = some [tB (isNm v)] := by
 obtain ⟨n, p, L⟩ := v; simp only at hL; apply vs_l03Is; simp only [bs_l03Is, c_l01In, Option.bind_some, getTV_here]; have hr := fun h => isNm_rng (v := (n, p, L)) h; simp only at hr; have no : ∀ {q : Prop}, q → (IsNm (n, p, L) → ¬ q) → isNm (n, p, L) = false := fun hq h => by
  unfold isNm; exact dec_f fun h' => h h' hq
 by_cases h1 : 1 ≤ n ∧ n ≤ 8
 · by_cases h2 : -200 ≤ p ∧ p ≤ 200
   · by_cases h3 : L.length ≤ 200
     · have h4 : ¬ ((200 : Int) < (L.length : Int)) := by omega
       obtain ⟨m, rfl⟩ : ∃ m : Nat, n = m := ⟨n.toNat, by omega⟩; have h5 := c_l03Is_5 m (by omega) (by omega) (m : Int) p L hL h3 0 (Nat.zero_le _) none (fun _ => rfl) (fun h => by omega); simp only [Int.natCast_zero, List.drop_zero] at h5; simp only [h1, h2, decide_true, Bool.and_self, Bool.not_true, cond_false, decide_eq_false h4, h5, Option.bind_some]
       by_cases h6 : (m : Int) < 2
       · by_cases h7 : p = 0
         · have hi : isNm ((m : Int), p, L) = goesB m none L := by
            unfold isNm goesB; rw [decide_eq_decide]; exact isNm_iff m (by omega) (by omega) p L h2 h3 (fun _ => h7)
           rw [decide_eq_true h6, cond_true, bne_dec, decide_eq_true h7, Bool.not_true, cond_false, hi]
           cases goesB m none L <;> simp
         · rw [no h7 (fun h => fun h' => h' ((hr h).2.2.2.2.2 h6)), decide_eq_true h6, cond_true, bne_dec, decide_eq_false h7]
           rfl
       · have hi : isNm ((m : Int), p, L) = goesB m none L := by
          unfold isNm goesB; rw [decide_eq_decide]; exact isNm_iff m (by omega) (by omega) p L h2 h3 (fun _ => by omega)
         rw [decide_eq_false h6, cond_false, hi]
         cases goesB m none L <;> simp
     · have h4 : ((200 : Int) < (L.length : Int)) := by omega
       rw [no h3 (fun h => fun h' => h' (hr h).2.2.2.2.1)]; simp [h1, h2, h4]
   · have e : (decide (-200 ≤ p) && decide (p ≤ 200)) = false := by simp; omega
     rw [no h2 (fun h => fun h' => h' ⟨(hr h).2.2.1, (hr h).2.2.2.1⟩)]; simp [h1, e]
 · have e : (decide (1 ≤ n) && decide (n ≤ 8)) = false := by simp; omega
   rw [no h1 (fun h => fun h' => h' ⟨(hr h).1, (hr h).2.1⟩)]; simp [e]
theorem c_IsNormal (v : Int × Int × List (List Int)) (hL : Rows8 v.2.2) : R ii_IsNormal [tPIPILA8 v] = some [tB (isNm v)] := by
 obtain ⟨n, p, L⟩ := v; simp only at hL; apply vi_IsNormal; simp only [bi_IsNormal, c_isCount, c_within, Option.bind_some, getTV_here]; have hr := fun h => isNm_rng (v := (n, p, L)) h; simp only at hr; have no : ∀ {q : Prop}, q → (IsNm (n, p, L) → ¬ q) → isNm (n, p, L) = false := fun hq h => by
  unfold isNm; exact dec_f fun h' => h h' hq
 by_cases h1 : 1 ≤ n ∧ n ≤ 8
 · by_cases h2 : -200 ≤ p ∧ p ≤ 200
   · by_cases h3 : L.length ≤ 200
     · have h4 : ¬ ((200 : Int) < (L.length : Int)) := by omega
       obtain ⟨m, rfl⟩ : ∃ m : Nat, n = m := ⟨n.toNat, by omega⟩; have h5 := c_IsNormal_5 m (by omega) (by omega) (m : Int) p L hL h3 0 (Nat.zero_le _) none (fun _ => rfl) (fun h => by omega); simp only [Int.natCast_zero, List.drop_zero] at h5; simp only [h1, h2, decide_true, Bool.and_self, Bool.not_true, cond_false, decide_eq_false h4, h5, Option.bind_some]
       by_cases h6 : (m : Int) < 2
       · by_cases h7 : p = 0
         · have hi : isNm ((m : Int), p, L) = goesB m none L := by
            unfold isNm goesB; rw [decide_eq_decide]; exact isNm_iff m (by omega) (by omega) p L h2 h3 (fun _ => h7)
           rw [decide_eq_true h6, cond_true, bne_dec, decide_eq_true h7, Bool.not_true, cond_false, hi]
           cases goesB m none L <;> simp
         · rw [no h7 (fun h => fun h' => h' ((hr h).2.2.2.2.2 h6)), decide_eq_true h6, cond_true, bne_dec, decide_eq_false h7]
           rfl
       · have hi : isNm ((m : Int), p, L) = goesB m none L := by
          unfold isNm goesB; rw [decide_eq_decide]; exact isNm_iff m (by omega) (by omega) p L h2 h3 (fun _ => by omega)
         rw [decide_eq_false h6, cond_false, hi]
         cases goesB m none L <;> simp
     · have h4 : ((200 : Int) < (L.length : Int)) := by omega
       rw [no h3 (fun h => fun h' => h' (hr h).2.2.2.2.1)]; simp [h1, h2, h4]
   · have e : (decide (-200 ≤ p) && decide (p ≤ 200)) = false := by simp; omega
     rw [no h2 (fun h => fun h' => h' ⟨(hr h).2.2.1, (hr h).2.2.2.1⟩)]; simp [h1, e]
 · have e : (decide (1 ≤ n) && decide (n ≤ 8)) = false := by simp; omega
   rw [no h1 (fun h => fun h' => h' ⟨(hr h).1, (hr h).2.1⟩)]; simp [e]
theorem nm_cases (v : Int × Int × List (List Int)) : (isNm v = false) ∨ (isNm v = true ∧ ∃ (n : Nat) (w : Nm n), 1 ≤ n ∧ n ≤ 8 ∧ OkN w 200 ∧ v = enc w) := by
 unfold isNm
 by_cases h : IsNm v
 · exact .inr ⟨dec_t h, h⟩
 · exact .inl (dec_f h)
theorem isNm_enc {n : Nat} {w : Nm n} (h1 : 1 ≤ n) (hn : n ≤ 8) (hw : OkN w 200) : isNm (enc w) = true := by
 unfold isNm; exact dec_t ⟨n, w, h1, hn, hw, rfl⟩
theorem OkN.mono {n : Nat} {w : Nm n} {a b : Nat} (h : OkN w a) (hab : a ≤ b) : OkN w b :=
 ⟨h.P, Nat.le_trans h.len hab, by have := h.lo; omega, by have := h.hi; omega, h.one⟩
end Go.Ev.YtfkpbhbghbhmgaaGreat
namespace Go.Ev.YtfkpbhbghbhmgaaGreat
open Go.Ev Go.Gar
abbrev NoV : Int × Int × List (List Int) := (0, 0, [])
theorem prod_ok {n : Nat} (hn1 : 1 ≤ n) {v w : Nm n} {a b : Nat} (hv : OkN v a) (hw : OkN w b) : OkN (prod v w) (2 * (a + b)) := by
 have a1 := hv.len; have a2 := hv.lo; have a3 := hv.hi; have b1 := hw.len; have b2 := hw.lo; have b3 := hw.hi
 by_cases h : n = 1
 · have e1 := hv.one h; have e2 := hw.one h; subst e1; subst e2; have : prod ((0, []) : Nm n) (0, []) = (0, []) := by
    unfold prod; exact mk_nil _
   rw [this]; exact ⟨Lat.Proper.nil, by simp, by simp only; omega, by simp only; omega, fun _ => rfl⟩
 · have hm := mk_spec (show 2 ≤ n by omega) (v.1 + w.1) (tk w.1 v.2 ++ w.2); have hl := mk_len (show 2 ≤ n by omega) (v.1 + w.1) (tk w.1 v.2 ++ w.2); simp only [List.length_append, tk_len] at hm hl; refine ⟨hm.1, ?_, ?_, ?_, fun h' => (h h').elim⟩ <;> unfold prod <;> omega
theorem lim_enc {n : Nat} (w : Nm n) (hP : (Pm.lat n).Proper w.2) (h1 : n = 1 → w = (0, [])) : (limV (enc w) = (enc w, 0) ∧ OkN w 200) ∨ limV (enc w) = (NoV, 3) := by
 unfold limV
 by_cases h : -200 ≤ (enc w).2.1 ∧ (enc w).2.1 ≤ 200 ∧ (enc w).2.2.length ≤ 200
 · rw [if_pos h]; simp only [enc, sL_len] at h; exact .inl ⟨rfl, hP, h.2.2, by omega, by omega, h1⟩
 · rw [if_neg h]; exact .inr rfl
noncomputable def stepI {n : Nat} (v : Nm n) (s : Pm n) : Nm n := mk (v.1 - 1) (v.2.map trn ++ [Pm.half n * s⁻¹])
noncomputable def invN {n : Nat} (v : Nm n) : Nm n := ((v.2.reverse.foldl stepI (0, [])).1 - v.1, tk v.1 (v.2.reverse.foldl stepI (0, [])).2)
theorem stepI_ok {n : Nat} (h2 : 2 ≤ n) {v : Nm n} {j : Nat} (h : OkJ v j) (s : Pm n) : OkJ (stepI v s) (j + 1) := by
 have a1 := h.lo; have a2 := h.hi; have a3 := h.len; have hm := mk_spec h2 (v.1 - 1) (v.2.map trn ++ [Pm.half n * s⁻¹]); have hl := mk_len h2 (v.1 - 1) (v.2.map trn ++ [Pm.half n * s⁻¹]); simp only [List.length_append, List.length_cons, List.length_nil, List.length_map] at hm hl; exact ⟨hm.1, by unfold stepI; omega, by unfold stepI; omega, by unfold stepI; omega⟩
theorem foldI_ok {n : Nat} (h2 : 2 ≤ n) : ∀ (l : List (Pm n)) {v : Nm n} {j : Nat}, OkJ v j → OkJ (l.foldl stepI v) (j + l.length)
 | [], v, j, h => h
 | s :: l, v, j, h => by
  have := foldI_ok h2 l (stepI_ok h2 h s); rw [List.foldl_cons, List.length_cons, show j + (l.length + 1) = j + 1 + l.length by omega]; exact this
theorem tk_neg_eq {n : Nat} (k : Int) (l : List (Pm n)) : tk (-k) l = tk k l := by
 unfold tk; rw [Int.neg_tmod]
 by_cases h : k.tmod 2 = 0
 · simp [h]
 · have : ¬ -(k.tmod 2) = 0 := by omega
   simp [h, this]
theorem invN_ok {n : Nat} (hn1 : 1 ≤ n) {v : Nm n} (hv : OkN v 200) : OkN (invN v) 1000 := by
 have a1 := hv.len; have a2 := hv.lo; have a3 := hv.hi
 by_cases h : n = 1
 · have e := hv.one h; subst e; have : invN ((0, []) : Nm n) = (0, []) := rfl; rw [this]; exact ⟨Lat.Proper.nil, by simp, by simp only; omega, by simp only; omega, fun _ => rfl⟩
 · have hf := foldI_ok (show 2 ≤ n by omega) v.2.reverse (OkJ.zero n); rw [List.length_reverse] at hf; have b1 := hf.lo; have b2 := hf.hi; have b3 := hf.len
   refine ⟨tk_proper _ hf.P, ?_, ?_, ?_, fun h' => (h h').elim⟩
   · simp only [invN, tk_len]; omega
   · simp only [invN]; omega
   · simp only [invN]; omega
theorem c_inverse_3 (n : Nat) (h2 : 2 ≤ n) (hn : n ≤ 8) (A : List (Pm n)) (hA : A.length ≤ 200) (x0 x1 x3 x4 : Int) (x5 : List (List Int)) : ∀ (k : Nat), k ≤ A.length → ∀ v : Nm n, OkJ v (A.length - k) →
  R ii_inverse_3 [tI x0, tI x1, tLA8 (sL A), tI x3, tI x4, tLA8 x5, tI (n : Int), tI v.1, tLA8 (sL v.2), tI ((k : Int) - 1)] =
   some [tI 0, tI x0, tI x1, tLA8 (sL A), tI x3, tI x4, tLA8 x5, tI (n : Int), tI ((A.take k).reverse.foldl stepI v).1, tLA8 (sL ((A.take k).reverse.foldl stepI v).2)] := by
 intro k
 induction k with
 | zero =>
  intro _ v _; apply vi_inverse_3; simp [bi_inverse_3]
 | succ k ih =>
  intro hk v hv; have hk' : k < A.length := by omega
  have a1 := hv.lo; have a2 := hv.hi; have a3 := hv.len; have hs := stepI_ok h2 hv A[k]; have ih' := ih (by omega) (stepI v A[k]) (by rw [show A.length - k = A.length - (k + 1) + 1 by omega]; exact hs); have hput := c_putInverse n h2 hn v A[k] hv.P (by omega) (by omega) (by omega); simp only [enc] at hput; apply vi_inverse_3; rw [show ((k + 1 : Nat) : Int) - 1 = (k : Int) by omega, take_rev hk', List.foldl_cons]; simp (disch := omega) only [bi_inverse_3, decide_eq_true, cond_true, Bool.and_true, Int.toNat_natCast, sL_len, sL_get hk', hput, Option.bind_some, getTV_here, wrap_i64]; exact ih'
theorem c_l03Inverse_3 (n : Nat) (h2 : 2 ≤ n) (hn : n ≤ 8) (A : List (Pm n)) (hA : A.length ≤ 200) (x0 x1 x3 x4 : Int) (x5 : List (List Int)) : ∀ (k : Nat), k ≤ A.length → ∀ v : Nm n, OkJ v (A.length - k) →
  R is_l03Inverse_3 [tI x0, tI x1, tLA8 (sL A), tI x3, tI x4, tLA8 x5, tI (n : Int), tI v.1, tLA8 (sL v.2), tI ((k : Int) - 1)] =
   some [tI 0, tI x0, tI x1, tLA8 (sL A), tI x3, tI x4, tLA8 x5, tI (n : Int), tI ((A.take k).reverse.foldl stepI v).1, tLA8 (sL ((A.take k).reverse.foldl stepI v).2)] := by
 intro k
 induction k with
 | zero =>
  intro _ v _; apply vs_l03Inverse_3; simp [bs_l03Inverse_3]
 | succ k ih =>
  intro hk v hv; have hk' : k < A.length := by omega
  have a1 := hv.lo; have a2 := hv.hi; have a3 := hv.len; have hs := stepI_ok h2 hv A[k]; have ih' := ih (by omega) (stepI v A[k]) (by rw [show A.length - k = A.length - (k + 1) + 1 by omega]; exact hs); have hput := c_l03Times_t n h2 hn v A[k] (by omega) (by omega) (by omega); simp only [enc] at hput; apply vs_l03Inverse_3; rw [show ((k + 1 : Nat) : Int) - 1 = (k : Int) by omega, take_rev hk', List.foldl_cons]; simp (disch := omega) only [bs_l03Inverse_3, decide_eq_true, cond_true, Bool.and_true, Int.toNat_natCast, sL_len, sL_get hk', hput, Option.bind_some, getTV_here, wrap_i64]; exact ih'
theorem c_inverse (n : Nat) (hn1 : 1 ≤ n) (hn : n ≤ 8) (v : Nm n) (hv : OkN v 200) : R ii_inverse [tPIPILA8 (enc v)] = some [tPIPILA8 (enc (invN v))] := by
 have a1 := hv.len; have a2 := hv.lo; have a3 := hv.hi; apply vi_inverse
 by_cases h : n = 1
 · have e := hv.one h; subst e; have h3 : R ii_inverse_3 [tI (n : Int), tI 0, tLA8 [], tI 0, tI 0, tLA8 [], tI (n : Int), tI 0, tLA8 [], tI (-1)] = some [tI 0, tI (n : Int), tI 0, tLA8 [], tI 0, tI 0, tLA8 [], tI (n : Int), tI 0, tLA8 []] := by
    apply vi_inverse_3; simp [bi_inverse_3]
   have ht := c_turnBy n hn1 hn (0, []) 0 (fun _ => rfl) (by simp) (by simp) (by simp) (by omega) (by omega); have htk : tk 0 ([] : List (Pm n)) = [] := rfl; have e1 : wi64 ((([] : List (List Int)).length : Nat) - 1) = -1 := by decide
   have e2 : wi64 (0 - 0) = 0 := by decide
   have hi : invN ((0, []) : Nm n) = (0, []) := rfl; simp only [enc, sL_nil, htk, Int.add_zero, hi] at ht ⊢; simp only [bi_inverse, e1, h3, Option.bind_some, getTV_here, getTV_next, e2, ht]
 · have h3 := c_inverse_3 n (by omega) hn v.2 a1 (n : Int) v.1 0 0 [] v.2.length (Nat.le_refl _) (0, []) (by rw [Nat.sub_self]; exact OkJ.zero n); rw [List.take_length] at h3; have hf := foldI_ok (show 2 ≤ n by omega) v.2.reverse (OkJ.zero n); rw [List.length_reverse] at hf; have b1 := hf.lo; have b2 := hf.hi; have b3 := hf.len; have ht := c_turnBy n hn1 hn (v.2.reverse.foldl stepI (0, [])) (-v.1) (fun h' => (h h').elim) (by omega) (by omega) (by omega) (by omega) (by omega); rw [tk_neg_eq] at ht; simp only [sL_nil] at h3; simp only [enc] at ht ⊢; simp (disch := omega) only [bi_inverse, sL_len, wrap_i64, h3, Option.bind_some, getTV_here, getTV_next, Int.zero_sub, ht]
   rfl
theorem c_l03Inverse (n : Nat) (hn1 : 1 ≤ n) (hn : n ≤ 8) (v : Nm n) (hv : OkN v 200) : R is_l03Inverse [tPIPILA8 (enc v)] = some [tPIPILA8 (enc (invN v))] := by
 have a1 := hv.len; have a2 := hv.lo; have a3 := hv.hi; apply vs_l03Inverse
 by_cases h : n = 1
 · have e := hv.one h; subst e; have h3 : R is_l03Inverse_3 [tI (n : Int), tI 0, tLA8 [], tI 0, tI 0, tLA8 [], tI (n : Int), tI 0, tLA8 [], tI (-1)] = some [tI 0, tI (n : Int), tI 0, tLA8 [], tI 0, tI 0, tLA8 [], tI (n : Int), tI 0, tLA8 []] := by
    apply vs_l03Inverse_3; simp [bs_l03Inverse_3]
   have ht := c_l03Turned n hn ([] : List (Pm n)) (by simp) 0; have htk : tk 0 ([] : List (Pm n)) = [] := rfl; have e1 : wi64 ((([] : List (List Int)).length : Nat) - 1) = -1 := by decide
   have e2 : wi64 (0 - 0) = 0 := by decide
   have hi : invN ((0, []) : Nm n) = (0, []) := rfl; simp only [enc, sL_nil, htk, hi] at ht ⊢; simp only [bs_l03Inverse, e1, h3, Option.bind_some, getTV_here, getTV_next, e2, ht]
 · have h3 := c_l03Inverse_3 n (by omega) hn v.2 a1 (n : Int) v.1 0 0 [] v.2.length (Nat.le_refl _) (0, []) (by rw [Nat.sub_self]; exact OkJ.zero n); rw [List.take_length] at h3; have hf := foldI_ok (show 2 ≤ n by omega) v.2.reverse (OkJ.zero n); rw [List.length_reverse] at hf; have b1 := hf.lo; have b2 := hf.hi; have b3 := hf.len; have ht := c_l03Turned n hn (v.2.reverse.foldl stepI (0, [])).2 (by omega) v.1; simp only [sL_nil] at h3; simp only [enc] at ht ⊢; simp (disch := omega) only [bs_l03Inverse, sL_len, wrap_i64, h3, Option.bind_some, getTV_here, getTV_next, ht]
   rfl
noncomputable def both (a b : Int × Int × List (List Int)) : Int := if isNm a && isNm b then (if a.1 = b.1 then 0 else 2) else 1
theorem c_l03Both (a b : Int × Int × List (List Int)) (ha : Rows8 a.2.2) (hb : Rows8 b.2.2) : R is_l03Both [tPIPILA8 a, tPIPILA8 b] = some [tI (both a b)] := by
 apply vs_l03Both; simp only [bs_l03Both, c_l03Is a ha, c_l03Is b hb, Option.bind_some, getTV_here, both]
 cases isNm a <;> cases isNm b <;> by_cases e : a.1 = b.1 <;> simp [e, bne_dec]
theorem c_areSameCount (a b : Int × Int × List (List Int)) (ha : Rows8 a.2.2) (hb : Rows8 b.2.2) : R ii_areSameCount [tPIPILA8 a, tPIPILA8 b] = some [tI (both a b)] := by
 apply vi_areSameCount; simp only [bi_areSameCount, c_IsNormal a ha, c_IsNormal b hb, Option.bind_some, getTV_here, both]
 cases isNm a <;> cases isNm b <;> by_cases e : a.1 = b.1 <;> simp [e, bne_dec]
theorem both_cases (a b : Int × Int × List (List Int)) : (both a b ≠ 0) ∨ (both a b = 0 ∧ ∃ (n : Nat) (v w : Nm n), 1 ≤ n ∧ n ≤ 8 ∧ OkN v 200 ∧ OkN w 200 ∧ a = enc v ∧ b = enc w) := by
 unfold both
 rcases nm_cases a with h1 | ⟨h1, n, v, q1, q2, q3, rfl⟩
 · left; simp [h1]
 · rcases nm_cases b with h2 | ⟨h2, m, w, r1, r2, r3, rfl⟩
   · left; simp [h2]
   · by_cases e : (enc v).1 = (enc w).1
     · right; refine ⟨by simp [h1, h2, e], ?_⟩; have : n = m := by simp only [enc] at e; omega
       subst this; exact ⟨n, v, w, q1, q2, q3, r3, rfl, rfl⟩
     · left; simp [h1, h2, e]
end Go.Ev.YtfkpbhbghbhmgaaGreat
