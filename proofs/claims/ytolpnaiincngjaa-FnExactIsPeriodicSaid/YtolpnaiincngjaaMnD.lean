/- SummitLengths, PowerNormal, IsPeriodic: the laws. -/
import Derived.Test.YtolpnaiincngjaaMnC
set_option linter.unusedVariables false
set_option linter.unusedSimpArgs false
namespace Go.Ev.Ytolpnaiincngjaa
open Go.Ev Go.Gar
/-! ### SummitLengths -/
theorem c_SummitLengths_bad {a : Int × Int × List (List Int)} (ha : Rows8 a.2.2) (h : isNm a = false) : R is_SummitLengths [tPIPILA8 a] = some [tLI [], tI 1] ∧ R ii_SummitLengths [tPIPILA8 a] = some [tLI [], tI 1] := by
  constructor
  · apply vs_SummitLengths
    simp [bs_SummitLengths, c_l03Is a ha, h]
  · apply vi_SummitLengths
    simp [bi_SummitLengths, c_IsNormal a ha, h]
theorem c_SummitLengths_ok {n : Nat} (hn1 : 1 ≤ n) (hn : n ≤ 8) {v : Nm n} (hv : OkN v 200) :
    R is_SummitLengths [tPIPILA8 (enc v)] = some [tLI [(enc (sumN v)).2.1, ((enc (sumN v)).2.2.length : Int)], tI 0] ∧ R ii_SummitLengths [tPIPILA8 (enc v)] = some [tLI [(enc (sumN v)).2.1, ((enc (sumN v)).2.2.length : Int)], tI 0] := by
  have hr : Rows8 (enc v).2.2 := sL_rows hn v.2
  have h := isNm_enc hn1 hn hv
  have e1 := c_l04Summit n hn1 hn v (hv.mono (by omega))
  have e2 := c_summit n hn1 hn v (hv.mono (by omega))
  constructor
  · apply vs_SummitLengths
    simp [bs_SummitLengths, c_l03Is _ hr, h, e1]
  · apply vi_SummitLengths
    simp [bi_SummitLengths, c_IsNormal _ hr, h, e2]
theorem law_FnExactSummitLengths (a : Int × Int × List (List Int)) (h : Fit (.pair (.int .i64) (.pair (.int .i64) (.slice (.arr .u8 8)))) a) : R iw_FnExactSummitLengths [tPIPILA8 a] = some [tB true] := by
  obtain ⟨hl, hw⟩ := fit_normal h
  apply vw_FnExactSummitLengths
  by_cases hb : (1048576 : Int) < a.2.2.length
  · simp [bw_FnExactSummitLengths, c_szNormal a 1048576 hl (by omega) (by omega), hb]
  · have hs : a.2.2.length < 1000000000 := by omega
    have e : ¬ (1048576 - (a.2.2.length : Int) < 0) := by omega
    have e1 : ¬ (1 + 8 * (a.2.2.length : Int) < 0) := by omega
    obtain ⟨r, c, hv, hss, hii⟩ : ∃ (r : List Int) (c : Int), r.length ≤ 200 ∧ R is_SummitLengths [tPIPILA8 a] = some [tLI r, tI c] ∧ R ii_SummitLengths [tPIPILA8 a] = some [tLI r, tI c] := by
      rcases nm_cases a with h1 | ⟨_, n, v, q1, q2, q3, rfl⟩
      · have := c_SummitLengths_bad hw h1
        exact ⟨[], 1, by simp, this.1, this.2⟩
      · have := c_SummitLengths_ok q1 q2 q3
        exact ⟨_, _, by simp, this.1, this.2⟩
    have e2 : ¬ (1 + (r.length : Int) < 0) := by omega
    simp [bw_FnExactSummitLengths, c_szNormal a 1048576 hl (by omega) (by omega), hb, e, c_toNormal a hw.len8 hs, hss, hii, c_eqNormal a _ hw.len8 hw.len8 hs, c_eqInt64S r _ (by omega),
      c_markNormal a 1 hw.len8 (by omega) (by omega), c_markInt64S r 1 (by omega) (by omega), c_heldInt64S 1 r.length (by omega) (by omega), e1, e2]
/-! ### PowerNormal -/
noncomputable def pwL {n : Nat} (z : Nm n) : Nat → Nm n → Option (Nm n)
  | 0, o => some o
  | d + 1, o => if (limV (enc (prod o z))).2 = 0 then pwL z d (prod o z) else none
theorem pw_step {n : Nat} (hn1 : 1 ≤ n) {o z : Nm n} (ho : OkN o 200) (hz : OkN z 1000) : (limV (enc (prod o z)) = (enc (prod o z), 0) ∧ OkN (prod o z) 200) ∨ limV (enc (prod o z)) = (NoV, 3) := by
  have hp := prod_ok hn1 ho hz
  exact lim_enc _ hp.P hp.one
theorem pwL_ok {n : Nat} (hn1 : 1 ≤ n) {z : Nm n} (hz : OkN z 1000) : ∀ (d : Nat) (o u : Nm n), OkN o 200 → pwL z d o = some u → OkN u 200 := by
  intro d
  induction d with
  | zero => intro o u ho h; simp only [pwL, Option.some.injEq] at h; exact h ▸ ho
  | succ d ih =>
    intro o u ho h
    rcases pw_step hn1 ho hz with ⟨e, hk⟩ | e
    · simp only [pwL, e, if_true] at h
      exact ih _ _ hk h
    · simp [pwL, e] at h
theorem c_PowerNormal_10 (n : Nat) (hn1 : 1 ≤ n) (hn : n ≤ 8) (z : Nm n) (hz : OkN z 1000) (x0 x1 : Int) (x2 : List (List Int)) : ∀ (d : Nat) (o : Nm n), d < 1000 → OkN o 200 →
    R is_PowerNormal_10 [tI x0, tI x1, tLA8 x2, tI (n : Int), tI z.1, tLA8 (sL z.2), tI (n : Int), tI o.1, tLA8 (sL o.2), tI (d : Int)]
      = some (match pwL z d o with
        | some u => [tI 0, tI x0, tI x1, tLA8 x2, tI (n : Int), tI u.1, tLA8 (sL u.2)]
        | none => [tI 1, tI 0, tI 0, tLA8 [], tI 3]) := by
  intro d
  induction d with
  | zero =>
    intro o _ _
    apply vs_PowerNormal_10
    simp only [bs_PowerNormal_10, pwL]
    rfl
  | succ d ih =>
    intro o hd ho
    have h1 : ((0 : Int) < ((d + 1 : Nat) : Int)) := by omega
    have hd' : wi64 (((d + 1 : Nat) : Int) - 1) = (d : Int) := by rw [wrap_i64] <;> omega
    have hp := c_l03Product n hn1 hn o z (ho.mono (by omega)) (hz.mono (by omega))
    apply vs_PowerNormal_10
    simp only [enc] at hp
    rcases pw_step hn1 ho hz with ⟨e, hk⟩ | e
    · have e' := e
      simp only [enc] at e'
      simp only [bs_PowerNormal_10, decide_eq_true h1, cond_true, hp, Option.bind_some, getTV_here, getTV_next, c_l03Fit, e', bne_self_eq_false, cond_false, hd', ih _ (by omega) hk, pwL, e, if_true]
    · have e' := e
      simp only [enc] at e'
      have : ((3 : Int) != 0) = true := by decide
      simp only [bs_PowerNormal_10, decide_eq_true h1, cond_true, hp, Option.bind_some, getTV_here, getTV_next, c_l03Fit, e', this, pwL, e]
      rfl
theorem c_PowerNormal_9 (n : Nat) (hn1 : 1 ≤ n) (hn : n ≤ 8) (z : Nm n) (hz : OkN z 1000) (x0 x1 : Int) (x2 : List (List Int)) (m : Nat) (hm : m < 1000) : ∀ (d i : Nat) (o : Nm n), i + d = m → OkN o 200 →
    R ii_PowerNormal_9 [tI x0, tI x1, tLA8 x2, tI (n : Int), tI z.1, tLA8 (sL z.2), tI (n : Int), tI o.1, tLA8 (sL o.2), tI (m : Int), tI (i : Int)]
      = some (match pwL z d o with
        | some u => [tI 0, tI x0, tI x1, tLA8 x2, tI (n : Int), tI u.1, tLA8 (sL u.2)]
        | none => [tI 1, tI 0, tI 0, tLA8 [], tI 3]) := by
  intro d
  induction d with
  | zero =>
    intro i o hi _
    apply vi_PowerNormal_9
    have h1 : ¬ ((i : Int) < (m : Int)) := by omega
    simp only [bi_PowerNormal_9, pwL, decide_eq_false h1, cond_false]
  | succ d ih =>
    intro i o hi ho
    have h1 : ((i : Int) < (m : Int)) := by omega
    have hi' : wi64 ((i : Int) + 1) = ((i + 1 : Nat) : Int) := by rw [wrap_i64] <;> omega
    have hp := c_product n hn1 hn o z (ho.mono (by omega)) (hz.mono (by omega))
    apply vi_PowerNormal_9
    simp only [enc] at hp
    rcases pw_step hn1 ho hz with ⟨e, hk⟩ | e
    · have e' := e
      simp only [enc] at e'
      simp only [bi_PowerNormal_9, decide_eq_true h1, cond_true, hp, Option.bind_some, getTV_here, getTV_next, c_limited, e', bne_self_eq_false, cond_false, hi', ih (i + 1) _ (by omega) hk, pwL, e, if_true]
    · have e' := e
      simp only [enc] at e'
      have : ((3 : Int) != 0) = true := by decide
      simp only [bi_PowerNormal_9, decide_eq_true h1, cond_true, hp, Option.bind_some, getTV_here, getTV_next, c_limited, e', this, pwL, e]
      rfl
theorem zero_ok (n b : Nat) : OkN ((0, []) : Nm n) b := ⟨Lat.Proper.nil, by simp, by simp only; omega, by simp only; omega, fun _ => rfl⟩
/-- The factor and how often. -/
noncomputable def pwF {n : Nat} (v : Nm n) (k : Int) : Nm n := if k < 0 then invN v else v
noncomputable def vPow {n : Nat} (v : Nm n) (k : Int) : (Int × Int × List (List Int)) × Int :=
  if -50 ≤ k ∧ k ≤ 50 then (match pwL (pwF v k) k.natAbs (0, []) with
    | some u => (enc u, 0)
    | none => (NoV, 3)) else (NoV, 2)
theorem c_PowerNormal_bad {a : Int × Int × List (List Int)} (ha : Rows8 a.2.2) (h : isNm a = false) (k : Int) : R is_PowerNormal [tPIPILA8 a, tI k] = some [tPIPILA8 NoV, tI 1] ∧ R ii_PowerNormal [tPIPILA8 a, tI k] = some [tPIPILA8 NoV, tI 1] := by
  constructor
  · apply vs_PowerNormal
    simp [bs_PowerNormal, c_l03Is a ha, h]
  · apply vi_PowerNormal
    simp [bi_PowerNormal, c_IsNormal a ha, h]
theorem c_PowerNormal_ok {n : Nat} (hn1 : 1 ≤ n) (hn : n ≤ 8) {v : Nm n} (hv : OkN v 200) (k : Int) :
    R is_PowerNormal [tPIPILA8 (enc v), tI k] = some [tPIPILA8 (vPow v k).1, tI (vPow v k).2] ∧ R ii_PowerNormal [tPIPILA8 (enc v), tI k] = some [tPIPILA8 (vPow v k).1, tI (vPow v k).2] := by
  have hr : Rows8 (enc v).2.2 := sL_rows hn v.2
  have h := isNm_enc hn1 hn hv
  have hb : k < -50 ∨ 50 < k ∨ (-50 ≤ k ∧ k ≤ 50) := by omega
  by_cases hk : -50 ≤ k ∧ k ≤ 50
  · have hz : OkN (pwF v k) 1000 := by
      unfold pwF
      split
      · exact invN_ok hn1 hv
      · exact hv.mono (by omega)
    have hs := c_PowerNormal_10 n hn1 hn (pwF v k) hz 0 0 [] k.natAbs (0, []) (by omega) (zero_ok n _)
    have hi := c_PowerNormal_9 n hn1 hn (pwF v k) hz 0 0 [] k.natAbs (by omega) k.natAbs 0 (0, []) (by omega) (zero_ok n _)
    have e1 : R ii_size [tI k] = some [tI (k.natAbs : Int)] := by
      apply vi_size
      have e0 : mx k (0 - k) = (k.natAbs : Int) := by
        unfold mx
        split <;> omega
      simp only [bi_size]
      rw [wrap_i64 (by omega) (by omega), e0]
    have i1 := c_l03Inverse n hn1 hn v hv
    have i2 := c_inverse n hn1 hn v hv
    simp only [enc, sL_nil, Int.natCast_zero] at hs hi i1 i2 h hr ⊢
    have hk1 := hk.1
    have hk2 := hk.2
    by_cases hneg : k < 0
    · have e2 : wi64 (0 - k) = (k.natAbs : Int) := by rw [wrap_i64] <;> omega
      simp only [pwF, if_pos hneg] at hs hi
      have hr' : Rows8 ((n : Int), v.1, sL v.2).2.2 := hr
      constructor
      · apply vs_PowerNormal
        simp only [bs_PowerNormal, c_l03Is _ hr', h, c_l01In, decide_eq_true hk1, decide_eq_true hk2, decide_eq_true hneg, i1, Option.bind_some, getTV_here, getTV_next, Bool.not_true, Bool.and_true, cond_true, cond_false, e2, hs, vPow, if_pos hk, pwF, if_pos hneg]
        cases pwL (invN v) k.natAbs (0, []) <;> rfl
      · apply vi_PowerNormal
        simp only [bi_PowerNormal, c_IsNormal _ hr', h, c_within, decide_eq_true hk1, decide_eq_true hk2, decide_eq_true hneg, i2, Option.bind_some, getTV_here, getTV_next, Bool.not_true, Bool.and_true, cond_true, cond_false, e1, hi, vPow, if_pos hk, pwF, if_pos hneg]
        cases pwL (invN v) k.natAbs (0, []) <;> rfl
    · have e2 : k = (k.natAbs : Int) := by omega
      simp only [pwF, if_neg hneg] at hs hi
      have hr' : Rows8 ((n : Int), v.1, sL v.2).2.2 := hr
      constructor
      · apply vs_PowerNormal
        rw [← e2] at hs
        simp only [bs_PowerNormal, c_l03Is _ hr', h, c_l01In, decide_eq_true hk1, decide_eq_true hk2, decide_eq_false hneg, Option.bind_some, getTV_here, getTV_next, Bool.not_true, Bool.and_true, cond_true, cond_false, hs, vPow, if_pos hk, pwF, if_neg hneg]
        cases pwL v k.natAbs (0, []) <;> rfl
      · apply vi_PowerNormal
        simp only [bi_PowerNormal, c_IsNormal _ hr', h, c_within, decide_eq_true hk1, decide_eq_true hk2, decide_eq_false hneg, Option.bind_some, getTV_here, getTV_next, Bool.not_true, Bool.and_true, cond_true, cond_false, e1, hi, vPow, if_pos hk, pwF, if_neg hneg]
        cases pwL v k.natAbs (0, []) <;> rfl
  · have hd : (decide (-50 ≤ k) && decide (k ≤ 50)) = false := by
      rw [Bool.and_eq_false_iff]
      by_cases h1 : -50 ≤ k
      · right; exact decide_eq_false (fun h2 => hk ⟨h1, h2⟩)
      · left; exact decide_eq_false h1
    constructor
    · apply vs_PowerNormal
      simp only [bs_PowerNormal, c_l03Is _ hr, h, c_l01In, hd, Option.bind_some, getTV_here, Bool.not_true, Bool.not_false, cond_true, cond_false, vPow, if_neg hk]
    · apply vi_PowerNormal
      simp only [bi_PowerNormal, c_IsNormal _ hr, h, c_within, hd, Option.bind_some, getTV_here, Bool.not_true, Bool.not_false, cond_true, cond_false, vPow, if_neg hk]
theorem vPow_ok {n : Nat} (hn1 : 1 ≤ n) {v : Nm n} (hv : OkN v 200) (k : Int) : (vPow v k).1.2.2.length ≤ 200 ∧ Len8 (vPow v k).1.2.2 := by
  unfold vPow
  split
  · have hz : OkN (pwF v k) 1000 := by
      unfold pwF
      split
      · exact invN_ok hn1 hv
      · exact hv.mono (by omega)
    split
    · rename_i u hu
      have := (pwL_ok hn1 hz _ _ _ (zero_ok n 200) hu).len
      exact ⟨by simp only [enc, sL_len]; omega, sL_8 _⟩
    · exact ⟨by simp, fun x hx => by simp at hx⟩
  · exact ⟨by simp, fun x hx => by simp at hx⟩
theorem law_FnExactPowerNormal (a : Int × Int × List (List Int)) (h : Fit (.pair (.int .i64) (.pair (.int .i64) (.slice (.arr .u8 8)))) a) (k : Int) (h' : Fit (.int .i64) k) : R iw_FnExactPowerNormal [tPIPILA8 a, tI k] = some [tB true] := by
  obtain ⟨hl, hw⟩ := fit_normal h
  apply vw_FnExactPowerNormal
  by_cases hb : (1048576 : Int) < a.2.2.length
  · simp [bw_FnExactPowerNormal, c_szNormal a 1048576 hl (by omega) (by omega), hb]
  · have hs : a.2.2.length < 1000000000 := by omega
    have e : ¬ (1048576 - (a.2.2.length : Int) < 0) := by omega
    have e1 : ¬ (1 + 8 * (a.2.2.length : Int) < 0) := by omega
    obtain ⟨r, c, hv, h8, hss, hii⟩ : ∃ (r : Int × Int × List (List Int)) (c : Int), r.2.2.length ≤ 200 ∧ Len8 r.2.2 ∧ R is_PowerNormal [tPIPILA8 a, tI k] = some [tPIPILA8 r, tI c] ∧ R ii_PowerNormal [tPIPILA8 a, tI k] = some [tPIPILA8 r, tI c] := by
      rcases nm_cases a with h1 | ⟨_, n, v, q1, q2, q3, rfl⟩
      · have := c_PowerNormal_bad hw h1 k
        exact ⟨NoV, 1, by simp, noV_8, this.1, this.2⟩
      · have := c_PowerNormal_ok q1 q2 q3 k
        exact ⟨_, _, (vPow_ok q1 q3 k).1, (vPow_ok q1 q3 k).2, this.1, this.2⟩
    have e2 : ¬ (1 + 8 * (r.2.2.length : Int) < 0) := by omega
    simp [bw_FnExactPowerNormal, c_szNormal a 1048576 hl (by omega) (by omega), hb, e, c_toNormal a hw.len8 hs, hss, hii, c_eqNormal a _ hw.len8 hw.len8 hs, c_eqNormal r _ h8 h8 (by omega),
      c_markNormal a 1 hw.len8 (by omega) (by omega), c_markNormal r 1 h8 (by omega) (by omega), c_heldNormal _ _ 1 r.2.2.length (by omega) (by omega), e1, e2]
/-! ### IsPeriodic -/
noncomputable def pN {n : Nat} (z : Nm n) : Nat → Nm n
  | 0 => (0, [])
  | k + 1 => prod (pN z k) z
def bd : Nat → Nat
  | 0 => 0
  | k + 1 => 2 * (bd k + 200)
theorem pN_ok {n : Nat} (hn1 : 1 ≤ n) {z : Nm n} (hz : OkN z 200) : ∀ k, OkN (pN z k) (bd k)
  | 0 => zero_ok n _
  | k + 1 => prod_ok hn1 (pN_ok hn1 hz k) hz
theorem pN_ok5 {n : Nat} (hn1 : 1 ≤ n) {z : Nm n} (hz : OkN z 200) {k : Nat} (hk : k ≤ 7) : OkN (pN z k) 100000 := by
  refine (pN_ok hn1 hz k).mono ?_
  have h : k = 0 ∨ k = 1 ∨ k = 2 ∨ k = 3 ∨ k = 4 ∨ k = 5 ∨ k = 6 ∨ k = 7 := by omega
  rcases h with rfl | rfl | rfl | rfl | rfl | rfl | rfl | rfl <;> decide
noncomputable def perB {n : Nat} (z : Nm n) : Bool := decide ((pN z (n - 1)).2.length = 0) || decide ((pN z n).2.length = 0)
theorem c_IsPeriodic_5s (n : Nat) (h2 : 2 ≤ n) (hn : n ≤ 8) (z : Nm n) (hz : OkN z 200) : ∀ (d k : Nat), k + d + 2 = n →
    R is_IsPeriodic_5 [tI (n : Int), tI z.1, tLA8 (sL z.2), tI (n : Int), tI (pN z k).1, tLA8 (sL (pN z k).2), tI ((k + 1 : Nat) : Int)]
      = some (if perB z then [tI 1, tB true, tI 0] else [tI 0]) := by
  have hp : ∀ k, k ≤ 7 → R is_l03Product [tPIPILA8 ((n : Int), (pN z k).1, sL (pN z k).2), tPIPILA8 ((n : Int), z.1, sL z.2)] = some [tPIPILA8 ((n : Int), (pN z (k + 1)).1, sL (pN z (k + 1)).2)] := by
    intro k hk
    have := c_l03Product n (by omega) hn (pN z k) z (pN_ok5 (by omega) hz hk) (hz.mono (by omega))
    exact this
  have en : wi64 ((n : Int) - 1) = ((n - 1 : Nat) : Int) := by rw [wrap_i64] <;> omega
  intro d
  induction d with
  | zero =>
    intro k hk
    have c1 : (((k + 1 : Nat) : Int) ≤ (n : Int)) := by omega
    have c2 : (((n - 1 : Nat) : Int) ≤ ((k + 1 : Nat) : Int)) := by omega
    have c3 : (((k + 1 + 1 : Nat) : Int) ≤ (n : Int)) := by omega
    have c4 : (((n - 1 : Nat) : Int) ≤ ((k + 1 + 1 : Nat) : Int)) := by omega
    have c5 : ¬ (((k + 1 + 1 + 1 : Nat) : Int) ≤ (n : Int)) := by omega
    have w1 : wi64 (((k + 1 : Nat) : Int) + 1) = ((k + 1 + 1 : Nat) : Int) := by rw [wrap_i64] <;> omega
    have w2 : wi64 (((k + 1 + 1 : Nat) : Int) + 1) = ((k + 1 + 1 + 1 : Nat) : Int) := by rw [wrap_i64] <;> omega
    have hpB : perB z = (decide ((pN z (k + 1)).2.length = 0) || decide ((pN z (k + 1 + 1)).2.length = 0)) := by
      unfold perB
      rw [show n - 1 = k + 1 by omega]
      rw [show pN z n = pN z (k + 1 + 1) by rw [show k + 1 + 1 = n by omega]]
    rw [hpB]
    apply vs_IsPeriodic_5
    simp only [bs_IsPeriodic_5, decide_eq_true c1, cond_true, hp k (by omega), Option.bind_some, getTV_here, en, decide_eq_true c2, beq0n, sL_len]
    by_cases z1 : (pN z (k + 1)).2.length = 0
    · simp only [decide_eq_true z1, cond_true, Bool.true_or, if_true]
    · simp only [decide_eq_false z1, cond_false, Bool.false_or, w1]
      apply vs_IsPeriodic_5
      simp only [bs_IsPeriodic_5, decide_eq_true c3, cond_true, hp (k + 1) (by omega), Option.bind_some, getTV_here, en, decide_eq_true c4, beq0n, sL_len]
      by_cases z2 : (pN z (k + 1 + 1)).2.length = 0
      · simp only [decide_eq_true z2, cond_true, if_true]
      · simp only [decide_eq_false z2, cond_false, w2, Bool.false_eq_true, if_false]
        apply vs_IsPeriodic_5
        simp only [bs_IsPeriodic_5, decide_eq_false c5, cond_false]
  | succ d ih =>
    intro k hk
    have c1 : (((k + 1 : Nat) : Int) ≤ (n : Int)) := by omega
    have c2 : ¬ (((n - 1 : Nat) : Int) ≤ ((k + 1 : Nat) : Int)) := by omega
    have w1 : wi64 (((k + 1 : Nat) : Int) + 1) = ((k + 1 + 1 : Nat) : Int) := by rw [wrap_i64] <;> omega
    apply vs_IsPeriodic_5
    simp only [bs_IsPeriodic_5, decide_eq_true c1, cond_true, hp k (by omega), Option.bind_some, getTV_here, en, decide_eq_false c2, cond_false, w1, ih (k + 1) (by omega)]
theorem c_IsPeriodic_5i (n : Nat) (hn1 : 1 ≤ n) (hn : n ≤ 8) (z : Nm n) (hz : OkN z 200) : ∀ (d k : Nat), k + d + 1 = n →
    R ii_IsPeriodic_5 [tI (n : Int), tI z.1, tLA8 (sL z.2), tI (n : Int), tI (pN z k).1, tLA8 (sL (pN z k).2), tI ((n - 1 : Nat) : Int), tI (k : Int)]
      = some [tI 0, tI (n : Int), tI z.1, tLA8 (sL z.2), tI (n : Int), tI (pN z (n - 1)).1, tLA8 (sL (pN z (n - 1)).2)] := by
  intro d
  induction d with
  | zero =>
    intro k hk
    have c1 : ¬ ((k : Int) < ((n - 1 : Nat) : Int)) := by omega
    have e : k = n - 1 := by omega
    subst e
    apply vi_IsPeriodic_5
    simp only [bi_IsPeriodic_5, decide_eq_false c1, cond_false]
  | succ d ih =>
    intro k hk
    have c1 : ((k : Int) < ((n - 1 : Nat) : Int)) := by omega
    have w1 : wi64 ((k : Int) + 1) = ((k + 1 : Nat) : Int) := by rw [wrap_i64] <;> omega
    have hp : R ii_product [tPIPILA8 ((n : Int), (pN z k).1, sL (pN z k).2), tPIPILA8 ((n : Int), z.1, sL z.2)] = some [tPIPILA8 ((n : Int), (pN z (k + 1)).1, sL (pN z (k + 1)).2)] :=
      c_product n hn1 hn (pN z k) z (pN_ok5 hn1 hz (by omega)) (hz.mono (by omega))
    apply vi_IsPeriodic_5
    simp only [bi_IsPeriodic_5, decide_eq_true c1, cond_true, hp, Option.bind_some, getTV_here, w1, ih (k + 1) (by omega)]
theorem c_IsPeriodic_bad {a : Int × Int × List (List Int)} (ha : Rows8 a.2.2) (h : isNm a = false) : R is_IsPeriodic [tPIPILA8 a] = some [tB false, tI 1] ∧ R ii_IsPeriodic [tPIPILA8 a] = some [tB false, tI 1] := by
  constructor
  · apply vs_IsPeriodic
    simp [bs_IsPeriodic, c_l03Is a ha, h]
  · apply vi_IsPeriodic
    simp [bi_IsPeriodic, c_IsNormal a ha, h]
theorem c_IsPeriodic_s {n : Nat} (hn1 : 1 ≤ n) (hn : n ≤ 8) {v : Nm n} (hv : OkN v 200) : R is_IsPeriodic [tPIPILA8 (enc v)] = some [tB (perB v), tI 0] := by
  have hr : Rows8 (enc v).2.2 := sL_rows hn v.2
  have h := isNm_enc hn1 hn hv
  have e5 : R is_IsPeriodic_5 [tI (n : Int), tI v.1, tLA8 (sL v.2), tI (n : Int), tI 0, tLA8 [], tI 1] = some (if perB v then [tI 1, tB true, tI 0] else [tI 0]) := by
    by_cases h2 : 2 ≤ n
    · exact c_IsPeriodic_5s n h2 hn v hv (n - 2) 0 (by omega)
    · have h1 : n = 1 := by omega
      have ev := hv.one h1
      subst ev
      have hp : R is_l03Product [tPIPILA8 ((n : Int), 0, []), tPIPILA8 ((n : Int), 0, [])] = some [tPIPILA8 ((n : Int), 0, [])] := by
        have := c_l03Product n hn1 hn (0, []) (0, []) (zero_ok n _) (zero_ok n _)
        have e : prod ((0, []) : Nm n) (0, []) = (0, []) := mk_nil _
        rw [e] at this
        exact this
      have hpB : perB ((0, []) : Nm n) = true := by
        unfold perB
        rw [show n - 1 = 0 by omega]
        simp [pN]
      rw [hpB]
      have c1 : ((1 : Int) ≤ (n : Int)) := by omega
      have c2 : (wi64 ((n : Int) - 1) ≤ 1) := by rw [wrap_i64] <;> omega
      apply vs_IsPeriodic_5
      simp [bs_IsPeriodic_5, decide_eq_true c1, sL_nil, hp, decide_eq_true c2, c1, c2]
  apply vs_IsPeriodic
  simp only [enc] at h ⊢
  have hr' : Rows8 ((n : Int), v.1, sL v.2).2.2 := hr
  simp only [bs_IsPeriodic, c_l03Is _ hr', h, Option.bind_some, getTV_here, Bool.not_true, cond_false, e5]
  cases perB v <;> rfl
theorem c_IsPeriodic_i {n : Nat} (hn1 : 1 ≤ n) (hn : n ≤ 8) {v : Nm n} (hv : OkN v 200) : R ii_IsPeriodic [tPIPILA8 (enc v)] = some [tB (perB v), tI 0] := by
  have hr : Rows8 (enc v).2.2 := sL_rows hn v.2
  have h := isNm_enc hn1 hn hv
  have e5 := c_IsPeriodic_5i n hn1 hn v hv (n - 1) 0 (by omega)
  have en : wi64 ((n : Int) - 1) = ((n - 1 : Nat) : Int) := by rw [wrap_i64] <;> omega
  have hp : R ii_product [tPIPILA8 ((n : Int), (pN v (n - 1)).1, sL (pN v (n - 1)).2), tPIPILA8 ((n : Int), v.1, sL v.2)] = some [tPIPILA8 ((n : Int), (pN v n).1, sL (pN v n).2)] := by
    have := c_product n hn1 hn (pN v (n - 1)) v (pN_ok5 hn1 hv (by omega)) (hv.mono (by omega))
    have e : prod (pN v (n - 1)) v = pN v n := by
      have : pN v n = pN v (n - 1 + 1) := by rw [show n - 1 + 1 = n by omega]
      rw [this]
      rfl
    rw [e] at this
    exact this
  apply vi_IsPeriodic
  simp only [pN, sL_nil, Int.natCast_zero] at e5
  simp only [enc] at h ⊢
  have hr' : Rows8 ((n : Int), v.1, sL v.2).2.2 := hr
  simp only [bi_IsPeriodic, c_IsNormal _ hr', h, Option.bind_some, getTV_here, getTV_next, Bool.not_true, cond_false, en, e5, hp, sL_len, beq0n, perB]
  by_cases z1 : (pN v (n - 1)).2.length = 0
  · simp [z1]
  · simp [z1]
theorem law_FnExactIsPeriodic (a : Int × Int × List (List Int)) (h : Fit (.pair (.int .i64) (.pair (.int .i64) (.slice (.arr .u8 8)))) a) : R iw_FnExactIsPeriodic [tPIPILA8 a] = some [tB true] := by
  obtain ⟨hl, hw⟩ := fit_normal h
  apply vw_FnExactIsPeriodic
  by_cases hb : (1048576 : Int) < a.2.2.length
  · simp [bw_FnExactIsPeriodic, c_szNormal a 1048576 hl (by omega) (by omega), hb]
  · have hs : a.2.2.length < 1000000000 := by omega
    have e : ¬ (1048576 - (a.2.2.length : Int) < 0) := by omega
    obtain ⟨r, c, hss, hii⟩ : ∃ (r : Bool) (c : Int), R is_IsPeriodic [tPIPILA8 a] = some [tB r, tI c] ∧ R ii_IsPeriodic [tPIPILA8 a] = some [tB r, tI c] := by
      rcases nm_cases a with h1 | ⟨_, n, v, q1, q2, q3, rfl⟩
      · have := c_IsPeriodic_bad hw h1
        exact ⟨_, _, this.1, this.2⟩
      · exact ⟨_, _, c_IsPeriodic_s q1 q2 q3, c_IsPeriodic_i q1 q2 q3⟩
    simp [bw_FnExactIsPeriodic, c_szNormal a 1048576 hl (by omega) (by omega), hb, e, c_toNormal a hw.len8 hs, hss, hii, c_eqNormal a _ hw.len8 hw.len8 hs]
end Go.Ev.Ytolpnaiincngjaa
