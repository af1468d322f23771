/- What the laws' own words do to lists of numbers and to braids. -/
import Derived.Test.YtffepojldjodcaaB
import Derived.Test.YtffepojldjodcaaV4
set_option linter.unusedVariables false
set_option linter.unusedSimpArgs false
namespace Go.Ev.Ytffepojldjodcaa
open Go.Ev
theorem c_toInt64S_3 (x0 : List Int) (h0 : x0.length < 1000000000) : ∀ i, i ≤ x0.length → ∀ x1 : List Int, x1.length = x0.length → x1.take i = x0.take i → R iw_toInt64S_3 [tLI x0, tLI x1, tI (i : Int)] = some [tI 0, tLI x0] := by
  refine up_loop _ (fun x1 h1 h2 => ?_) (fun i hi ih x1 h1 h2 => ?_)
  · apply vw_toInt64S_3
    rw [← h1, List.take_length, h1, List.take_length] at h2
    subst h2
    simp [bw_toInt64S_3]
  · apply vw_toInt64S_3
    simp (disch := omega) only [bw_toInt64S_3, decide_eq_true, cond_true, Bool.and_true, Int.toNat_natCast, wrap_i64]
    rw [show (i : Int) + 1 = ((i + 1 : Nat) : Int) by omega]
    refine ih _ (by simp [h1]) ?_
    rw [List.take_add_one, List.take_add_one, List.take_set_of_le (Nat.le_refl _), h2]
    simp [h1, hi, List.getD_eq_getElem?_getD, List.getElem?_eq_getElem hi]
theorem c_toInt64S (a : List Int) (h : a.length < 1000000000) : R iw_toInt64S [tLI a] = some [tLI a] := by
  apply vw_toInt64S
  have e : mkOk ((a.length : Nat) : Int) = true := by
    have h2 : ((a.length : Int) ≤ (lim : Int)) := by simp only [lim]; omega
    simp [mkOk, h2]
  have := c_toInt64S_3 a h 0 (Nat.zero_le _) (List.replicate a.length 0) (by simp) rfl
  simp only [Int.natCast_zero] at this
  simp [bw_toInt64S, e, this]
theorem c_l01In (x l h : Int) : R is_l01In [tI x, tI l, tI h] = some [tB (decide (l ≤ x) && decide (x ≤ h))] := by
  apply vs_l01In
  by_cases e : l ≤ x <;> simp [bs_l01In, e]
theorem c_within (x l h : Int) : R ii_within [tI x, tI l, tI h] = some [tB (decide (l ≤ x) && decide (x ≤ h))] := by
  apply vi_within
  by_cases e : l ≤ x <;> simp [bi_within, e]
theorem c_isCount (x : Int) : R ii_isCount [tI x] = some [tB (decide (1 ≤ x) && decide (x ≤ 8))] := by
  apply vi_isCount
  simp [bi_isCount, c_within]
theorem c_szInt64S (a : List Int) (k : Int) (h : a.length ≤ 9223372036854775807) (hk : 0 ≤ k) (hk' : k ≤ 1000000000) :
    R iw_szInt64S [tLI a, tI k] = some [tI (if k < a.length then -1 else k - a.length)] := by
  apply vw_szInt64S
  simp (disch := omega) only [bw_szInt64S, wrap_i64]
  by_cases e : k < a.length
  · simp (disch := omega) only [decide_eq_true, cond_true, if_pos e]
  · simp (disch := omega) only [decide_eq_false, cond_false, if_neg e]
theorem c_szBraid (a : Int × List Int) (k : Int) (h : a.2.length ≤ 9223372036854775807) (hk : 0 ≤ k) (hk' : k ≤ 1000000000) :
    R iw_szBraid [tPILI a, tI k] = some [tI (if k < a.2.length then -1 else k - a.2.length)] := by
  apply vw_szBraid
  simp only [bw_szBraid, c_szInt64S a.2 k h hk hk', Option.bind_some, getTV_here]
  by_cases e : k < a.2.length
  · simp [e]
  · simp (disch := omega) only [if_neg e, decide_eq_false, cond_false]
theorem c_toBraid (a : Int × List Int) (h : a.2.length < 1000000000) : R iw_toBraid [tPILI a] = some [tPILI a] := by
  apply vw_toBraid
  simp [bw_toBraid, c_toInt64S a.2 h]
theorem c_eqInt64S_4 (x0 x1 : List Int) (h0 : x0.length < 1000000000) (h1 : x1.length = x0.length) : ∀ i, i ≤ x0.length → R iw_eqInt64S_4 [tLI x0, tLI x1, tI (i : Int)] = some (if x0.drop i = x1.drop i then [tI 0] else [tI 1, tB false]) := by
  refine up_loop _ ?_ (fun i hi ih => ?_)
  · apply vw_eqInt64S_4
    rw [List.drop_length, ← h1, List.drop_length]
    simp [bw_eqInt64S_4, h1]
  · apply vw_eqInt64S_4
    rw [List.drop_eq_getElem_cons hi, List.drop_eq_getElem_cons (by omega : i < x1.length)]
    simp (disch := omega) only [bw_eqInt64S_4, decide_eq_true, cond_true, Bool.and_true, Int.toNat_natCast, wrap_i64]
    rw [show (i : Int) + 1 = ((i + 1 : Nat) : Int) by omega, ih]
    simp only [List.getD_eq_getElem?_getD, List.getElem?_eq_getElem hi, List.getElem?_eq_getElem (by omega : i < x1.length), Option.getD_some, List.cons.injEq]
    by_cases e : x0[i] = x1[i] <;> simp [e, bne_dec]
theorem c_eqInt64S (a b : List Int) (h : a.length < 1000000000) : R iw_eqInt64S [tLI a, tLI b] = some [tB (decide (a = b))] := by
  apply vw_eqInt64S
  by_cases e : b.length = a.length
  · have := c_eqInt64S_4 a b h e 0 (Nat.zero_le _)
    simp only [List.drop_zero, Int.natCast_zero] at this
    simp only [bw_eqInt64S, e, bne_self_eq_false, cond_false, this]
    by_cases e2 : a = b <;> simp [e2]
  · have : a ≠ b := fun h => e (by rw [h])
    have e3 : ¬ ((a.length : Int) = b.length) := by omega
    simp [bw_eqInt64S, this, e3, bne_dec]
theorem c_eqBraid (a b : Int × List Int) (h : a.2.length < 1000000000) : R iw_eqBraid [tPILI a, tPILI b] = some [tB (decide (a = b))] := by
  apply vw_eqBraid
  obtain ⟨a1, a2⟩ := a
  obtain ⟨b1, b2⟩ := b
  simp only [bw_eqBraid, c_eqInt64S a2 b2 h]
  by_cases e : a1 = b1 <;> by_cases e2 : a2 = b2 <;> simp [e, e2, bne_dec]
/-- Numbers from k on. -/
def marks (k : Int) : Nat → List Int
  | 0 => []
  | n + 1 => k :: marks (k + 1) n
theorem marks_len (n : Nat) : ∀ k, (marks k n).length = n := by
  induction n with
  | zero => intro k; rfl
  | succ n ih => intro k; simp [marks, ih]
theorem marks_get (n : Nat) : ∀ k i, i < n → (marks k n)[i]? = some (k + i) := by
  induction n with
  | zero => intro k i h; omega
  | succ n ih =>
    intro k i h
    cases i with
    | zero => simp [marks]
    | succ i => simp only [marks, List.getElem?_cons_succ]; rw [ih _ _ (by omega)]; congr 1; omega
theorem c_markInt64S_2 (k : Int) (n : Nat) (hk : 0 ≤ k) (hk' : k + n < 4000000000) : ∀ i, i ≤ n → ∀ x : List Int, x.length = n → x.take i = (marks k n).take i → R iw_markInt64S_2 [tLI x, tI (k + i), tI (i : Int)] = some [tI 0, tLI (marks k n), tI (k + n)] := by
  refine up_loop _ (fun x h1 h2 => ?_) (fun i hi ih x h1 h2 => ?_)
  · apply vw_markInt64S_2
    have h3 : x = marks k n := by
      rw [List.take_of_length_le (by omega), List.take_of_length_le (by rw [marks_len]; omega)] at h2
      exact h2
    subst h3
    simp [bw_markInt64S_2, marks_len]
  · apply vw_markInt64S_2
    simp (disch := omega) only [bw_markInt64S_2, decide_eq_true, cond_true, Bool.and_true, Int.toNat_natCast, wrap_i64, h1]
    rw [show k + (i : Int) + 1 = k + ((i + 1 : Nat) : Int) by omega, show (i : Int) + 1 = ((i + 1 : Nat) : Int) by omega]
    refine ih _ (by simp [h1]) ?_
    rw [List.take_add_one, List.take_add_one, List.take_set_of_le (Nat.le_refl _), h2, marks_get _ _ _ hi]
    simp [h1, hi]
theorem c_markInt64S (x : List Int) (k : Int) (hk : 0 ≤ k) (hk' : k + x.length < 4000000000) : R iw_markInt64S [tLI x, tI k] = some [tI (k + x.length), tLI (marks k x.length)] := by
  apply vw_markInt64S
  have := c_markInt64S_2 k x.length hk hk' 0 (Nat.zero_le _) x rfl rfl
  simp only [Int.natCast_zero, Int.add_zero] at this
  simp [bw_markInt64S, this]
theorem c_heldInt64S_2 (k : Int) (n : Nat) (hk : 0 ≤ k) (hk' : k + n < 4000000000) : ∀ i, i ≤ n → R iw_heldInt64S_2 [tLI (marks k n), tI (k + i), tI (i : Int)] = some [tI 0, tI (k + n)] := by
  refine up_loop _ ?_ (fun i hi ih => ?_)
  · apply vw_heldInt64S_2
    simp [bw_heldInt64S_2, marks_len]
  · apply vw_heldInt64S_2
    have e := marks_get n k i hi
    have e2 : List.getD (marks k n) i 0 = k + i := by simp [List.getD_eq_getElem?_getD, e]
    simp (disch := omega) only [bw_heldInt64S_2, marks_len, decide_eq_true, cond_true, Bool.and_true, Int.toNat_natCast, wrap_i64, e2, bne_self_eq_false, cond_false]
    rw [show k + (i : Int) + 1 = k + ((i + 1 : Nat) : Int) by omega, show (i : Int) + 1 = ((i + 1 : Nat) : Int) by omega]
    exact ih
theorem c_heldInt64S (k : Int) (n : Nat) (hk : 0 ≤ k) (hk' : k + n < 4000000000) : R iw_heldInt64S [tLI (marks k n), tI k] = some [tI (k + n)] := by
  apply vw_heldInt64S
  have := c_heldInt64S_2 k n hk hk' 0 (Nat.zero_le _)
  simp only [Int.natCast_zero, Int.add_zero] at this
  simp [bw_heldInt64S, this]
end Go.Ev.Ytffepojldjodcaa
