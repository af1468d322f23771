/- The normal form of a word, both packages; NormalOf and SameBraid. -/
import Derived.Test.YtpfpjhfimmmkmaaMn5
import Derived.Test.YtpfpjhfimmmkmaaMs1
set_option linter.unusedVariables false
set_option linter.unusedSimpArgs false
namespace Go.Ev.Ytpfpjhfimmmkmaa
open Go.Ev Go.Gar
def swapN (n p : Nat) : Pm n := if h : p + 1 < n then Pm.swap n p h else 1
noncomputable def stepN {n : Nat} (v : Nm n) (x : Int) : Nm n :=
  if 0 < x then mk v.1 (v.2 ++ [swapN n (x.natAbs - 1)]) else mk (v.1 - 1) (v.2.map trn ++ [Pm.half n * (swapN n (x.natAbs - 1))⁻¹])
noncomputable def nOf (n : Nat) (w : List Int) : Nm n := w.foldl stepN (0, [])
/-- After j letters. -/
structure OkJ {n : Nat} (v : Nm n) (j : Nat) : Prop where
  P : (Pm.lat n).Proper v.2
  lo : -(j : Int) ≤ v.1
  hi : v.1 + v.2.length ≤ j
  len : v.2.length ≤ j
theorem mk_len {n : Nat} (h2 : 2 ≤ n) (p : Int) (l : List (Pm n)) : (mk p l).2.length ≤ l.length := by
  obtain ⟨j, _, hP, hl⟩ := Lat.norm_spec (half_ne h2) (allS l)
  simp only [mk]
  omega
theorem stepN_ok {n : Nat} (h2 : 2 ≤ n) {v : Nm n} {j : Nat} (h : OkJ v j) (x : Int) : OkJ (stepN v x) (j + 1) := by
  have a1 := h.lo
  have a2 := h.hi
  have a3 := h.len
  unfold stepN
  split
  · have hm := mk_spec h2 v.1 (v.2 ++ [swapN n (x.natAbs - 1)])
    have hl := mk_len h2 v.1 (v.2 ++ [swapN n (x.natAbs - 1)])
    simp only [List.length_append, List.length_cons, List.length_nil] at hm hl
    exact ⟨hm.1, by omega, by omega, by omega⟩
  · have hm := mk_spec h2 (v.1 - 1) (v.2.map trn ++ [Pm.half n * (swapN n (x.natAbs - 1))⁻¹])
    have hl := mk_len h2 (v.1 - 1) (v.2.map trn ++ [Pm.half n * (swapN n (x.natAbs - 1))⁻¹])
    simp only [List.length_append, List.length_cons, List.length_nil, List.length_map] at hm hl
    exact ⟨hm.1, by omega, by omega, by omega⟩
theorem OkJ.zero (n : Nat) : OkJ ((0, []) : Nm n) 0 := ⟨Lat.Proper.nil, by simp, by simp, by simp⟩
/-- Letters of n strands. -/
def Lw (n : Nat) (w : List Int) : Prop := ∀ x ∈ w, x ≠ 0 ∧ 1 - (n : Int) ≤ x ∧ x ≤ (n : Int) - 1
theorem swapN_eq {n p : Nat} (h : p + 1 < n) : swapN n p = Pm.swap n p h := dif_pos h
theorem c_normalOf_3 (n : Nat) (h2 : 2 ≤ n) (hn : n ≤ 8) (w : List Int) (hw : Lw n w) (hl : w.length ≤ 200) (x2 x3 : Int) (x4 : List (List Int)) : ∀ (d i : Nat) (v : Nm n), i + d = w.length → OkJ v i →
    R ii_normalOf_3 [tI (n : Int), tLI w, tI x2, tI x3, tLA8 x4, tI (n : Int), tI v.1, tLA8 (sL v.2), tI (w.length : Int), tI (i : Int)] =
      some [tI 0, tI x2, tI x3, tLA8 x4, tI (n : Int), tI ((w.drop i).foldl stepN v).1, tLA8 (sL ((w.drop i).foldl stepN v).2)] := by
  intro d
  induction d with
  | zero =>
    intro i v hi hv
    apply vi_normalOf_3
    have h1 : ¬ ((i : Int) < (w.length : Int)) := by omega
    rw [List.drop_of_length_le (by omega)]
    simp only [bi_normalOf_3, decide_eq_false h1, cond_false, List.foldl_nil]
  | succ d ih =>
    intro i v hi hv
    have h0 : i < w.length := by omega
    have a1 := hv.lo
    have a2 := hv.hi
    have a3 := hv.len
    obtain ⟨b1, b2, b3⟩ := hw _ (List.getElem_mem h0)
    have hp : w[i].natAbs - 1 + 1 < n := by omega
    have ih' := ih (i + 1) (stepN v w[i]) (by omega) (stepN_ok h2 hv _)
    apply vi_normalOf_3
    rw [List.drop_eq_getElem_cons h0, List.foldl_cons]
    simp (disch := omega) only [bi_normalOf_3, decide_eq_true, cond_true, Bool.and_true, Int.toNat_natCast, getD_at h0, wrap_i64]
    by_cases h : 0 < w[i]
    · have e : w[i] = ((w[i].natAbs - 1 + 1 : Nat) : Int) := by omega
      have he := c_exchange n (w[i].natAbs - 1) hp hn
      rw [← e] at he
      have hput := c_put n h2 hn v (Pm.swap n _ hp) hv.P (by omega) (by omega) (by omega)
      have es : stepN v w[i] = mk v.1 (v.2 ++ [Pm.swap n _ hp]) := by rw [stepN, if_pos h, swapN_eq hp]
      rw [es] at ih' ⊢
      simp only [enc] at hput
      simp only [decide_eq_true h, cond_true, he, Option.bind_some, getTV_here, hput]
      exact ih'
    · have e : 0 - w[i] = ((w[i].natAbs - 1 + 1 : Nat) : Int) := by omega
      have he := c_exchange n (w[i].natAbs - 1) hp hn
      rw [← e] at he
      have hput := c_putInverse n h2 hn v (Pm.swap n _ hp) hv.P (by omega) (by omega) (by omega)
      have es : stepN v w[i] = mk (v.1 - 1) (v.2.map trn ++ [Pm.half n * (Pm.swap n _ hp)⁻¹]) := by rw [stepN, if_neg h, swapN_eq hp]
      rw [es] at ih' ⊢
      simp only [enc] at hput
      simp only [decide_eq_false h, cond_false, he, Option.bind_some, getTV_here, hput]
      exact ih'
theorem c_l03Of_3 (n : Nat) (h2 : 2 ≤ n) (hn : n ≤ 8) (w : List Int) (hw : Lw n w) (hl : w.length ≤ 200) (x1 x2 : Int) (x3 : List (List Int)) : ∀ (d i : Nat) (v : Nm n), i + d = w.length → OkJ v i →
    R is_l03Of_3 [tLI w, tI x1, tI x2, tLA8 x3, tI (n : Int), tI v.1, tLA8 (sL v.2), tI (n : Int), tI (i : Int)] =
      some [tI 0, tI x1, tI x2, tLA8 x3, tI (n : Int), tI ((w.drop i).foldl stepN v).1, tLA8 (sL ((w.drop i).foldl stepN v).2)] := by
  intro d
  induction d with
  | zero =>
    intro i v hi hv
    apply vs_l03Of_3
    have h1 : ¬ ((i : Int) < (w.length : Int)) := by omega
    rw [List.drop_of_length_le (by omega)]
    simp only [bs_l03Of_3, decide_eq_false h1, cond_false, List.foldl_nil]
  | succ d ih =>
    intro i v hi hv
    have h0 : i < w.length := by omega
    have a1 := hv.lo
    have a2 := hv.hi
    have a3 := hv.len
    obtain ⟨b1, b2, b3⟩ := hw _ (List.getElem_mem h0)
    have hp : w[i].natAbs - 1 + 1 < n := by omega
    have ih' := ih (i + 1) (stepN v w[i]) (by omega) (stepN_ok h2 hv _)
    apply vs_l03Of_3
    rw [List.drop_eq_getElem_cons h0, List.foldl_cons]
    simp (disch := omega) only [bs_l03Of_3, decide_eq_true, cond_true, Bool.and_true, Int.toNat_natCast, getD_at h0, wrap_i64]
    by_cases h : 0 < w[i]
    · have e : w[i] = ((w[i].natAbs - 1 + 1 : Nat) : Int) := by omega
      have he := c_l02Exchange n (w[i].natAbs - 1) hp hn
      rw [← e] at he
      have hput := c_l03Times_f n h2 hn v (Pm.swap n _ hp) (by omega) (by omega) (by omega)
      have es : stepN v w[i] = mk v.1 (v.2 ++ [Pm.swap n _ hp]) := by rw [stepN, if_pos h, swapN_eq hp]
      rw [es] at ih' ⊢
      simp only [enc] at hput
      simp only [decide_eq_true h, cond_true, he, Option.bind_some, getTV_here, hput]
      exact ih'
    · have e : 0 - w[i] = ((w[i].natAbs - 1 + 1 : Nat) : Int) := by omega
      have he := c_l02Exchange n (w[i].natAbs - 1) hp hn
      rw [← e] at he
      have hput := c_l03Times_t n h2 hn v (Pm.swap n _ hp) (by omega) (by omega) (by omega)
      have es : stepN v w[i] = mk (v.1 - 1) (v.2.map trn ++ [Pm.half n * (Pm.swap n _ hp)⁻¹]) := by rw [stepN, if_neg h, swapN_eq hp]
      rw [es] at ih' ⊢
      simp only [enc] at hput
      simp only [decide_eq_false h, cond_false, he, Option.bind_some, getTV_here, hput]
      exact ih'
theorem Lw_one {w : List Int} (hw : Lw 1 w) : w = [] := by
  cases w with
  | nil => rfl
  | cons x w =>
    have := hw x (by simp)
    omega
theorem c_normalOf (n : Nat) (hn1 : 1 ≤ n) (hn : n ≤ 8) (w : List Int) (hw : Lw n w) (hl : w.length ≤ 200) : R ii_normalOf [tPILI ((n : Int), w)] = some [tPIPILA8 (enc (nOf n w))] := by
  apply vi_normalOf
  by_cases h2 : 2 ≤ n
  · have h := c_normalOf_3 n h2 hn w hw hl 0 0 [] w.length 0 (0, []) (by omega) (OkJ.zero n)
    simp only [sL_nil, Int.natCast_zero, List.drop_zero] at h
    simp only [bi_normalOf, h, Option.bind_some, getTV_here, getTV_next]
    rfl
  · have : n = 1 := by omega
    subst this
    have := Lw_one hw
    subst this
    have h : R ii_normalOf_3 [tI 1, tLI [], tI 0, tI 0, tLA8 [], tI 1, tI 0, tLA8 [], tI 0, tI 0] = some [tI 0, tI 0, tI 0, tLA8 [], tI 1, tI 0, tLA8 []] := by
      apply vi_normalOf_3
      simp [bi_normalOf_3]
    simp [bi_normalOf, h, nOf, enc, sL_nil]
theorem c_l03Of (n : Nat) (hn1 : 1 ≤ n) (hn : n ≤ 8) (w : List Int) (hw : Lw n w) (hl : w.length ≤ 200) : R is_l03Of [tI (n : Int), tLI w] = some [tPIPILA8 (enc (nOf n w))] := by
  apply vs_l03Of
  by_cases h2 : 2 ≤ n
  · have h := c_l03Of_3 n h2 hn w hw hl 0 0 [] w.length 0 (0, []) (by omega) (OkJ.zero n)
    simp only [sL_nil, Int.natCast_zero, List.drop_zero] at h
    simp only [bs_l03Of, h, Option.bind_some, getTV_here, getTV_next]
    rfl
  · have : n = 1 := by omega
    subst this
    have := Lw_one hw
    subst this
    have h : R is_l03Of_3 [tLI [], tI 0, tI 0, tLA8 [], tI 1, tI 0, tLA8 [], tI 1, tI 0] = some [tI 0, tI 0, tI 0, tLA8 [], tI 1, tI 0, tLA8 []] := by
      apply vs_l03Of_3
      simp [bs_l03Of_3]
    simp [bs_l03Of, h, nOf, enc, sL_nil]
/-- Within the limits, or an error. -/
def limV (v : Int × Int × List (List Int)) : (Int × Int × List (List Int)) × Int := if -200 ≤ v.2.1 ∧ v.2.1 ≤ 200 ∧ v.2.2.length ≤ 200 then (v, 0) else ((0, 0, []), 3)
theorem c_limited (v : Int × Int × List (List Int)) : R ii_limited [tPIPILA8 v] = some [tPIPILA8 (limV v).1, tI (limV v).2] := by
  apply vi_limited
  simp only [bi_limited, c_within, Option.bind_some, getTV_here, limV]
  by_cases h1 : -200 ≤ v.2.1
  · by_cases h2 : v.2.1 ≤ 200
    · by_cases h3 : v.2.2.length ≤ 200
      · have h4 : ¬ ((200 : Int) < (v.2.2.length : Int)) := by omega
        simp [h1, h2, h3, h4]
      · have h4 : ((200 : Int) < (v.2.2.length : Int)) := by omega
        simp [h1, h2, h3, h4]
    · simp [h1, h2]
  · simp [h1]
theorem c_l03Fit (v : Int × Int × List (List Int)) : R is_l03Fit [tPIPILA8 v] = some [tPIPILA8 (limV v).1, tI (limV v).2] := by
  apply vs_l03Fit
  simp only [bs_l03Fit, c_l01In, Option.bind_some, getTV_here, limV]
  by_cases h1 : -200 ≤ v.2.1
  · by_cases h2 : v.2.1 ≤ 200
    · by_cases h3 : v.2.2.length ≤ 200
      · have h4 : ¬ ((200 : Int) < (v.2.2.length : Int)) := by omega
        simp [h1, h2, h3, h4]
      · have h4 : ((200 : Int) < (v.2.2.length : Int)) := by omega
        simp [h1, h2, h3, h4]
    · simp [h1, h2]
  · simp [h1]
theorem limV_len (v : Int × Int × List (List Int)) : (limV v).1.2.2.length ≤ 200 := by
  unfold limV
  split
  · rename_i h; exact h.2.2
  · simp
theorem limV_8 (v : Int × Int × List (List Int)) (h : Len8 v.2.2) : Len8 (limV v).1.2.2 := by
  unfold limV
  split
  · exact h
  · exact fun x hx => by simp at hx
theorem sL_8 {n : Nat} (l : List (Pm n)) : Len8 (sL l) := fun x hx => by
  obtain ⟨s, _, rfl⟩ := List.mem_map.1 hx
  exact sA_len s
theorem isBr_Lw {b : Int × List Int} (h : isBr b = true) : Lw b.1.toNat b.2 ∧ b.1 = (b.1.toNat : Int) ∧ 1 ≤ b.1.toNat ∧ b.1.toNat ≤ 8 ∧ b.2.length ≤ 200 := by
  have hk := isBr_ok h
  refine ⟨fun x hx => ?_, by omega, by omega, by omega, hk.2.2.1⟩
  have := hk.2.2.2 x hx
  omega
noncomputable def vNormalOf (a : Int × List Int) : (Int × Int × List (List Int)) × Int := if isBr a then limV (enc (nOf a.1.toNat a.2)) else ((0, 0, []), 1)
theorem c_NormalOf_s (a : Int × List Int) (hl : a.2.length < 1000000000) (hw : I64 a.2) : R is_NormalOf [tPILI a] = some [tPIPILA8 (vNormalOf a).1, tI (vNormalOf a).2] := by
  apply vs_NormalOf
  simp only [bs_NormalOf, c_l01Is a hl hw, Option.bind_some, getTV_here, vNormalOf]
  cases h : isBr a with
  | false => simp
  | true =>
    obtain ⟨q1, q2, q3, q4, q5⟩ := isBr_Lw h
    have hc := c_l03Of a.1.toNat q3 q4 a.2 q1 q5
    rw [← q2] at hc
    simp [hc, c_l03Fit]
theorem c_NormalOf_i (a : Int × List Int) (hl : a.2.length < 1000000000) : R ii_NormalOf [tPILI a] = some [tPIPILA8 (vNormalOf a).1, tI (vNormalOf a).2] := by
  apply vi_NormalOf
  simp only [bi_NormalOf, c_IsBraid a hl, Option.bind_some, getTV_here, vNormalOf]
  cases h : isBr a with
  | false => simp
  | true =>
    obtain ⟨q1, q2, q3, q4, q5⟩ := isBr_Lw h
    have hc := c_normalOf a.1.toNat q3 q4 a.2 q1 q5
    rw [← q2] at hc
    simp [hc, c_limited]
theorem vNormalOf_ok (a : Int × List Int) : (vNormalOf a).1.2.2.length ≤ 200 ∧ Len8 (vNormalOf a).1.2.2 := by
  unfold vNormalOf
  split
  · exact ⟨limV_len _, limV_8 _ (sL_8 _)⟩
  · exact ⟨by simp, fun x hx => by simp at hx⟩
end Go.Ev.Ytpfpjhfimmmkmaa
