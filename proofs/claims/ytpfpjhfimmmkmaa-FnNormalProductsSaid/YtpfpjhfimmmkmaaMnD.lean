/- SummitLengths, PowerNormal, IsPeriodic: the laws. -/
import Derived.Test.YtpfpjhfimmmkmaaMnC
set_option linter.unusedVariables false
set_option linter.unusedSimpArgs false
namespace Go.Ev.Ytpfpjhfimmmkmaa
open Go.Ev Go.Gar
/-! ### SummitLengths -/
/-! ### PowerNormal -/
noncomputable def pwL {n : Nat} (z : Nm n) : Nat → Nm n → Option (Nm n)
  | 0, o => some o
  | d + 1, o => if (limV (enc (prod o z))).2 = 0 then pwL z d (prod o z) else none
theorem pw_step {n : Nat} (hn1 : 1 ≤ n) {o z : Nm n} (ho : OkN o 200) (hz : OkN z 1000) : (limV (enc (prod o z)) = (enc (prod o z), 0) ∧ OkN (prod o z) 200) ∨ limV (enc (prod o z)) = (NoV, 3) := by
  have hp := prod_ok hn1 ho hz
  exact lim_enc _ hp.P hp.one
theorem pwL_ok {n : Nat} (hn1 : 1 ≤ n) {z : Nm n} (hz : OkN z 1000) : ∀ (d : Nat) (o u : Nm n), OkN o 200 → pwL z d o = some u → OkN u 200 := by
  intro d
  induction d with
  | zero => intro o u ho h; simp only [pwL, Option.some.injEq] at h; exact h ▸ ho
  | succ d ih =>
    intro o u ho h
    rcases pw_step hn1 ho hz with ⟨e, hk⟩ | e
    · simp only [pwL, e, if_true] at h
      exact ih _ _ hk h
    · simp [pwL, e] at h
theorem c_PowerNormal_10 (n : Nat) (hn1 : 1 ≤ n) (hn : n ≤ 8) (z : Nm n) (hz : OkN z 1000) (x0 x1 : Int) (x2 : List (List Int)) : ∀ (d : Nat) (o : Nm n), d < 1000 → OkN o 200 →
    R is_PowerNormal_10 [tI x0, tI x1, tLA8 x2, tI (n : Int), tI z.1, tLA8 (sL z.2), tI (n : Int), tI o.1, tLA8 (sL o.2), tI (d : Int)]
      = some (match pwL z d o with
        | some u => [tI 0, tI x0, tI x1, tLA8 x2, tI (n : Int), tI u.1, tLA8 (sL u.2)]
        | none => [tI 1, tI 0, tI 0, tLA8 [], tI 3]) := by
  intro d
  induction d with
  | zero =>
    intro o _ _
    apply vs_PowerNormal_10
    simp only [bs_PowerNormal_10, pwL]
    rfl
  | succ d ih =>
    intro o hd ho
    have h1 : ((0 : Int) < ((d + 1 : Nat) : Int)) := by omega
    have hd' : wi64 (((d + 1 : Nat) : Int) - 1) = (d : Int) := by rw [wrap_i64] <;> omega
    have hp := c_l03Product n hn1 hn o z (ho.mono (by omega)) (hz.mono (by omega))
    apply vs_PowerNormal_10
    simp only [enc] at hp
    rcases pw_step hn1 ho hz with ⟨e, hk⟩ | e
    · have e' := e
      simp only [enc] at e'
      simp only [bs_PowerNormal_10, decide_eq_true h1, cond_true, hp, Option.bind_some, getTV_here, getTV_next, c_l03Fit, e', bne_self_eq_false, cond_false, hd', ih _ (by omega) hk, pwL, e, if_true]
    · have e' := e
      simp only [enc] at e'
      have : ((3 : Int) != 0) = true := by decide
      simp only [bs_PowerNormal_10, decide_eq_true h1, cond_true, hp, Option.bind_some, getTV_here, getTV_next, c_l03Fit, e', this, pwL, e]
      rfl
theorem c_PowerNormal_9 (n : Nat) (hn1 : 1 ≤ n) (hn : n ≤ 8) (z : Nm n) (hz : OkN z 1000) (x0 x1 : Int) (x2 : List (List Int)) (m : Nat) (hm : m < 1000) : ∀ (d i : Nat) (o : Nm n), i + d = m → OkN o 200 →
    R ii_PowerNormal_9 [tI x0, tI x1, tLA8 x2, tI (n : Int), tI z.1, tLA8 (sL z.2), tI (n : Int), tI o.1, tLA8 (sL o.2), tI (m : Int), tI (i : Int)]
      = some (match pwL z d o with
        | some u => [tI 0, tI x0, tI x1, tLA8 x2, tI (n : Int), tI u.1, tLA8 (sL u.2)]
        | none => [tI 1, tI 0, tI 0, tLA8 [], tI 3]) := by
  intro d
  induction d with
  | zero =>
    intro i o hi _
    apply vi_PowerNormal_9
    have h1 : ¬ ((i : Int) < (m : Int)) := by omega
    simp only [bi_PowerNormal_9, pwL, decide_eq_false h1, cond_false]
  | succ d ih =>
    intro i o hi ho
    have h1 : ((i : Int) < (m : Int)) := by omega
    have hi' : wi64 ((i : Int) + 1) = ((i + 1 : Nat) : Int) := by rw [wrap_i64] <;> omega
    have hp := c_product n hn1 hn o z (ho.mono (by omega)) (hz.mono (by omega))
    apply vi_PowerNormal_9
    simp only [enc] at hp
    rcases pw_step hn1 ho hz with ⟨e, hk⟩ | e
    · have e' := e
      simp only [enc] at e'
      simp only [bi_PowerNormal_9, decide_eq_true h1, cond_true, hp, Option.bind_some, getTV_here, getTV_next, c_limited, e', bne_self_eq_false, cond_false, hi', ih (i + 1) _ (by omega) hk, pwL, e, if_true]
    · have e' := e
      simp only [enc] at e'
      have : ((3 : Int) != 0) = true := by decide
      simp only [bi_PowerNormal_9, decide_eq_true h1, cond_true, hp, Option.bind_some, getTV_here, getTV_next, c_limited, e', this, pwL, e]
      rfl
theorem zero_ok (n b : Nat) : OkN ((0, []) : Nm n) b := ⟨Lat.Proper.nil, by simp, by simp only; omega, by simp only; omega, fun _ => rfl⟩
/-- The factor and how often. -/
noncomputable def pwF {n : Nat} (v : Nm n) (k : Int) : Nm n := if k < 0 then invN v else v
noncomputable def vPow {n : Nat} (v : Nm n) (k : Int) : (Int × Int × List (List Int)) × Int :=
  if -50 ≤ k ∧ k ≤ 50 then (match pwL (pwF v k) k.natAbs (0, []) with
    | some u => (enc u, 0)
    | none => (NoV, 3)) else (NoV, 2)
theorem c_PowerNormal_bad {a : Int × Int × List (List Int)} (ha : Rows8 a.2.2) (h : isNm a = false) (k : Int) : R is_PowerNormal [tPIPILA8 a, tI k] = some [tPIPILA8 NoV, tI 1] ∧ R ii_PowerNormal [tPIPILA8 a, tI k] = some [tPIPILA8 NoV, tI 1] := by
  constructor
  · apply vs_PowerNormal
    simp [bs_PowerNormal, c_l03Is a ha, h]
  · apply vi_PowerNormal
    simp [bi_PowerNormal, c_IsNormal a ha, h]
theorem c_PowerNormal_ok {n : Nat} (hn1 : 1 ≤ n) (hn : n ≤ 8) {v : Nm n} (hv : OkN v 200) (k : Int) :
    R is_PowerNormal [tPIPILA8 (enc v), tI k] = some [tPIPILA8 (vPow v k).1, tI (vPow v k).2] ∧ R ii_PowerNormal [tPIPILA8 (enc v), tI k] = some [tPIPILA8 (vPow v k).1, tI (vPow v k).2] := by
  have hr : Rows8 (enc v).2.2 := sL_rows hn v.2
  have h := isNm_enc hn1 hn hv
  have hb : k < -50 ∨ 50 < k ∨ (-50 ≤ k ∧ k ≤ 50) := by omega
  by_cases hk : -50 ≤ k ∧ k ≤ 50
  · have hz : OkN (pwF v k) 1000 := by
      unfold pwF
      split
      · exact invN_ok hn1 hv
      · exact hv.mono (by omega)
    have hs := c_PowerNormal_10 n hn1 hn (pwF v k) hz 0 0 [] k.natAbs (0, []) (by omega) (zero_ok n _)
    have hi := c_PowerNormal_9 n hn1 hn (pwF v k) hz 0 0 [] k.natAbs (by omega) k.natAbs 0 (0, []) (by omega) (zero_ok n _)
    have e1 : R ii_size [tI k] = some [tI (k.natAbs : Int)] := by
      apply vi_size
      have e0 : mx k (0 - k) = (k.natAbs : Int) := by
        unfold mx
        split <;> omega
      simp only [bi_size]
      rw [wrap_i64 (by omega) (by omega), e0]
    have i1 := c_l03Inverse n hn1 hn v hv
    have i2 := c_inverse n hn1 hn v hv
    simp only [enc, sL_nil, Int.natCast_zero] at hs hi i1 i2 h hr ⊢
    have hk1 := hk.1
    have hk2 := hk.2
    by_cases hneg : k < 0
    · have e2 : wi64 (0 - k) = (k.natAbs : Int) := by rw [wrap_i64] <;> omega
      simp only [pwF, if_pos hneg] at hs hi
      have hr' : Rows8 ((n : Int), v.1, sL v.2).2.2 := hr
      constructor
      · apply vs_PowerNormal
        simp only [bs_PowerNormal, c_l03Is _ hr', h, c_l01In, decide_eq_true hk1, decide_eq_true hk2, decide_eq_true hneg, i1, Option.bind_some, getTV_here, getTV_next, Bool.not_true, Bool.and_true, cond_true, cond_false, e2, hs, vPow, if_pos hk, pwF, if_pos hneg]
        cases pwL (invN v) k.natAbs (0, []) <;> rfl
      · apply vi_PowerNormal
        simp only [bi_PowerNormal, c_IsNormal _ hr', h, c_within, decide_eq_true hk1, decide_eq_true hk2, decide_eq_true hneg, i2, Option.bind_some, getTV_here, getTV_next, Bool.not_true, Bool.and_true, cond_true, cond_false, e1, hi, vPow, if_pos hk, pwF, if_pos hneg]
        cases pwL (invN v) k.natAbs (0, []) <;> rfl
    · have e2 : k = (k.natAbs : Int) := by omega
      simp only [pwF, if_neg hneg] at hs hi
      have hr' : Rows8 ((n : Int), v.1, sL v.2).2.2 := hr
      constructor
      · apply vs_PowerNormal
        rw [← e2] at hs
        simp only [bs_PowerNormal, c_l03Is _ hr', h, c_l01In, decide_eq_true hk1, decide_eq_true hk2, decide_eq_false hneg, Option.bind_some, getTV_here, getTV_next, Bool.not_true, Bool.and_true, cond_true, cond_false, hs, vPow, if_pos hk, pwF, if_neg hneg]
        cases pwL v k.natAbs (0, []) <;> rfl
      · apply vi_PowerNormal
        simp only [bi_PowerNormal, c_IsNormal _ hr', h, c_within, decide_eq_true hk1, decide_eq_true hk2, decide_eq_false hneg, Option.bind_some, getTV_here, getTV_next, Bool.not_true, Bool.and_true, cond_true, cond_false, e1, hi, vPow, if_pos hk, pwF, if_neg hneg]
        cases pwL v k.natAbs (0, []) <;> rfl
  · have hd : (decide (-50 ≤ k) && decide (k ≤ 50)) = false := by
      rw [Bool.and_eq_false_iff]
      by_cases h1 : -50 ≤ k
      · right; exact decide_eq_false (fun h2 => hk ⟨h1, h2⟩)
      · left; exact decide_eq_false h1
    constructor
    · apply vs_PowerNormal
      simp only [bs_PowerNormal, c_l03Is _ hr, h, c_l01In, hd, Option.bind_some, getTV_here, Bool.not_true, Bool.not_false, cond_true, cond_false, vPow, if_neg hk]
    · apply vi_PowerNormal
      simp only [bi_PowerNormal, c_IsNormal _ hr, h, c_within, hd, Option.bind_some, getTV_here, Bool.not_true, Bool.not_false, cond_true, cond_false, vPow, if_neg hk]
theorem vPow_ok {n : Nat} (hn1 : 1 ≤ n) {v : Nm n} (hv : OkN v 200) (k : Int) : (vPow v k).1.2.2.length ≤ 200 ∧ Len8 (vPow v k).1.2.2 := by
  unfold vPow
  split
  · have hz : OkN (pwF v k) 1000 := by
      unfold pwF
      split
      · exact invN_ok hn1 hv
      · exact hv.mono (by omega)
    split
    · rename_i u hu
      have := (pwL_ok hn1 hz _ _ _ (zero_ok n 200) hu).len
      exact ⟨by simp only [enc, sL_len]; omega, sL_8 _⟩
    · exact ⟨by simp, fun x hx => by simp at hx⟩
  · exact ⟨by simp, fun x hx => by simp at hx⟩
/-! ### IsPeriodic -/
noncomputable def pN {n : Nat} (z : Nm n) : Nat → Nm n
  | 0 => (0, [])
  | k + 1 => prod (pN z k) z
def bd : Nat → Nat
  | 0 => 0
  | k + 1 => 2 * (bd k + 200)
theorem pN_ok {n : Nat} (hn1 : 1 ≤ n) {z : Nm n} (hz : OkN z 200) : ∀ k, OkN (pN z k) (bd k)
  | 0 => zero_ok n _
  | k + 1 => prod_ok hn1 (pN_ok hn1 hz k) hz
theorem pN_ok5 {n : Nat} (hn1 : 1 ≤ n) {z : Nm n} (hz : OkN z 200) {k : Nat} (hk : k ≤ 7) : OkN (pN z k) 100000 := by
  refine (pN_ok hn1 hz k).mono ?_
  have h : k = 0 ∨ k = 1 ∨ k = 2 ∨ k = 3 ∨ k = 4 ∨ k = 5 ∨ k = 6 ∨ k = 7 := by omega
  rcases h with rfl | rfl | rfl | rfl | rfl | rfl | rfl | rfl <;> decide
noncomputable def perB {n : Nat} (z : Nm n) : Bool := decide ((pN z (n - 1)).2.length = 0) || decide ((pN z n).2.length = 0)
end Go.Ev.Ytpfpjhfimmmkmaa
