/- Is it a braid? Both ways of asking answer alike. -/
import Derived.Test.YtffepojldjodcaaMb1
set_option linter.unusedVariables false
set_option linter.unusedSimpArgs false
namespace Go.Ev.Ytffepojldjodcaa
open Go.Ev
/-- x is a letter of n strands. -/
def okL (n x : Int) : Bool := decide (x ≠ 0) && decide (1 - n ≤ x) && decide (x ≤ n - 1)
/-- b is a braid. -/
def isBr (b : Int × List Int) : Bool := decide (1 ≤ b.1) && decide (b.1 ≤ 8) && decide (b.2.length ≤ 200) && b.2.all (okL b.1)
/-- The numbers are of 64 bits. -/
def I64 (l : List Int) : Prop := ∀ x ∈ l, -9223372036854775808 ≤ x ∧ x ≤ 9223372036854775807
theorem getD_at {l : List Int} {i : Nat} (h : i < l.length) : List.getD l i 0 = l[i] := by
  simp [List.getD_eq_getElem?_getD, List.getElem?_eq_getElem h]
theorem neg_in {n x : Int} (hn : n ≤ 8) (h : -9223372036854775808 ≤ x ∧ x ≤ 9223372036854775807) :
    (decide (1 ≤ wi64 (0 - x)) && decide (wi64 (0 - x) ≤ n - 1)) = (decide (1 ≤ -x) && decide (-x ≤ n - 1)) := by
  by_cases e : x = -9223372036854775808
  · subst e
    have : wi64 (0 - -9223372036854775808) = -9223372036854775808 := by decide
    rw [this]
    have : ¬ ((- -9223372036854775808 : Int) ≤ n - 1) := by omega
    rw [decide_eq_false this]
    simp
  · rw [wrap_i64 (by omega) (by omega)]
    simp
theorem c_l01Is_4 (n : Int) (l : List Int) (hn : 1 ≤ n) (hn' : n ≤ 8) (hl : l.length < 1000000000) (hw : I64 l) :
    ∀ i, i ≤ l.length → R is_l01Is_4 [tI n, tLI l, tI (i : Int)] = some (if (l.drop i).all (okL n) then [tI 0] else [tI 1, tB false]) := by
  refine up_loop _ ?_ (fun i hi ih => ?_)
  · apply vs_l01Is_4
    simp [bs_l01Is_4]
  · apply vs_l01Is_4
    have hx := hw _ (List.getElem_mem hi)
    rw [List.drop_eq_getElem_cons hi, List.all_cons]
    simp (disch := omega) only [bs_l01Is_4, decide_eq_true, cond_true, Bool.and_true, Int.toNat_natCast, wrap_i64, getD_at hi, c_l01In, Option.bind_some, getTV_here]
    rw [neg_in hn' hx, show (i : Int) + 1 = ((i + 1 : Nat) : Int) by omega, ih]
    by_cases h1 : (1 ≤ l[i] ∧ l[i] ≤ n - 1)
    · have : okL n l[i] = true := by simp [okL]; omega
      simp [this, h1]
    · by_cases h2 : (1 ≤ -l[i] ∧ -l[i] ≤ n - 1)
      · have : okL n l[i] = true := by simp [okL]; omega
        have h3 : ¬ (1 ≤ l[i]) := by omega
        simp [this, h2, h3]
      · have : okL n l[i] = false := by simp [okL]; omega
        rw [this]
        have e1 : (decide (1 ≤ l[i]) && decide (l[i] ≤ n - 1)) = false := by simp; omega
        have e2 : (decide (1 ≤ -l[i]) && decide (-l[i] ≤ n - 1)) = false := by simp; omega
        simp [e1, e2]
theorem c_l01Is (b : Int × List Int) (hl : b.2.length < 1000000000) (hw : I64 b.2) : R is_l01Is [tPILI b] = some [tB (isBr b)] := by
  apply vs_l01Is
  simp only [bs_l01Is, c_l01In, Option.bind_some, getTV_here]
  by_cases h1 : (1 ≤ b.1 ∧ b.1 ≤ 8)
  · by_cases h2 : b.2.length ≤ 200
    · have h := c_l01Is_4 b.1 b.2 h1.1 h1.2 hl hw 0 (Nat.zero_le _)
      simp only [Int.natCast_zero, List.drop_zero] at h
      have h3 : ¬ ((200 : Int) < (b.2.length : Int)) := by omega
      simp only [h1, decide_true, Bool.and_self, Bool.not_true, cond_false, h3, decide_false, h, Option.bind_some]
      by_cases h4 : b.2.all (okL b.1) <;> simp [isBr, h1, h2, h4]
    · have h3 : ((200 : Int) < (b.2.length : Int)) := by omega
      have : isBr b = false := by simp [isBr, h2]
      simp [h1, h3, this]
  · have : isBr b = false := by
      simp only [isBr, Bool.and_eq_false_iff, decide_eq_false_iff_not]
      omega
    have e1 : (decide (1 ≤ b.1) && decide (b.1 ≤ 8)) = false := by simp; omega
    simp [e1, this]
theorem c_isLetter (x n : Int) (hn : 1 ≤ n) (hn' : n ≤ 8) : R ii_isLetter [tI x, tI n] = some [tB (okL n x)] := by
  apply vi_isLetter
  rw [bi_isLetter, wrap_i64 (by omega) (by omega), wrap_i64 (by omega) (by omega)]
  by_cases h : x = 0 <;> simp [c_within, okL, h, bne_dec]
theorem c_IsBraid_4 (n : Int) (l : List Int) (hn : 1 ≤ n) (hn' : n ≤ 8) (hl : l.length < 1000000000) :
    ∀ i, i ≤ l.length → R ii_IsBraid_4 [tI n, tLI l, tI (l.length : Int), tI (i : Int)] = some (if (l.drop i).all (okL n) then [tI 0] else [tI 1, tB false]) := by
  refine up_loop _ ?_ (fun i hi ih => ?_)
  · apply vi_IsBraid_4
    simp [bi_IsBraid_4]
  · apply vi_IsBraid_4
    rw [List.drop_eq_getElem_cons hi, List.all_cons]
    simp (disch := omega) only [bi_IsBraid_4, decide_eq_true, cond_true, Bool.and_true, Int.toNat_natCast, wrap_i64, getD_at hi, c_isLetter _ n hn hn', Option.bind_some, getTV_here]
    rw [show (i : Int) + 1 = ((i + 1 : Nat) : Int) by omega, ih]
    cases okL n l[i] <;> simp
theorem c_IsBraid (b : Int × List Int) (hl : b.2.length < 1000000000) : R ii_IsBraid [tPILI b] = some [tB (isBr b)] := by
  apply vi_IsBraid
  simp only [bi_IsBraid, c_isCount, Option.bind_some, getTV_here]
  by_cases h1 : (1 ≤ b.1 ∧ b.1 ≤ 8)
  · by_cases h2 : b.2.length ≤ 200
    · have h := c_IsBraid_4 b.1 b.2 h1.1 h1.2 hl 0 (Nat.zero_le _)
      simp only [Int.natCast_zero, List.drop_zero] at h
      have h3 : ¬ ((200 : Int) < (b.2.length : Int)) := by omega
      simp only [h1, decide_true, Bool.and_self, Bool.not_true, cond_false, h3, decide_false, h, Option.bind_some]
      by_cases h4 : b.2.all (okL b.1) <;> simp [isBr, h1, h2, h4]
    · have h3 : ((200 : Int) < (b.2.length : Int)) := by omega
      have : isBr b = false := by simp [isBr, h2]
      simp [h1, h3, this]
  · have : isBr b = false := by
      simp only [isBr, Bool.and_eq_false_iff, decide_eq_false_iff_not]
      omega
    have e1 : (decide (1 ≤ b.1) && decide (b.1 ≤ 8)) = false := by simp; omega
    simp [e1, this]
theorem isBr_ok {b : Int × List Int} (h : isBr b = true) : 1 ≤ b.1 ∧ b.1 ≤ 8 ∧ b.2.length ≤ 200 ∧ ∀ x ∈ b.2, x ≠ 0 ∧ 1 - b.1 ≤ x ∧ x ≤ b.1 - 1 := by
  simp only [isBr, Bool.and_eq_true, decide_eq_true_eq, List.all_eq_true, okL] at h
  exact ⟨h.1.1.1, h.1.1.2, h.1.2, fun x hx => ⟨(h.2 x hx).1.1, (h.2 x hx).1.2, (h.2 x hx).2⟩⟩
end Go.Ev.Ytffepojldjodcaa
