/- SameBraid, RightNormalOf: the laws. -/
import Derived.Test.YtolpnaiincngjaaGreatMnA
set_option linter.unusedVariables false
set_option linter.unusedSimpArgs false
namespace Go.Ev.YtolpnaiincngjaaGreat
open Go.Ev Go.Gar
theorem bne_l (a b : List Int) : (a != b) = !decide (a = b) := by rw [Bool.eq_iff_iff]; simp
theorem c_l03Like_4 (x0 x1 x3 x4 : Int) (a b : List (List Int)) (h0 : a.length < 1000000000) (h1 : b.length = a.length) : ∀ i, i ≤ a.length → R is_l03Like_4 [tI x0, tI x1, tLA8 a, tI x3, tI x4, tLA8 b, tI (i : Int)] = some (if a.drop i = b.drop i then [tI 0] else [tI 1, tB false]) := by
  refine up_loop _ ?_ (fun i hi ih => ?_)
  · apply vs_l03Like_4
    rw [List.drop_length, ← h1, List.drop_length]
    simp [bs_l03Like_4, h1]
  · apply vs_l03Like_4
    rw [List.drop_eq_getElem_cons hi, List.drop_eq_getElem_cons (by omega : i < b.length)]
    simp (disch := omega) only [bs_l03Like_4, decide_eq_true, cond_true, Bool.and_true, Int.toNat_natCast, wrap_i64]
    rw [show (i : Int) + 1 = ((i + 1 : Nat) : Int) by omega, ih]
    simp only [List.getD_eq_getElem?_getD, List.getElem?_eq_getElem hi, List.getElem?_eq_getElem (by omega : i < b.length), Option.getD_some, List.cons.injEq]
    by_cases e : a[i] = b[i] <;> simp [e, bne_l]
theorem c_Equal_4 (a b : List (List Int)) (h0 : a.length < 1000000000) (h1 : b.length = a.length) : ∀ i, i ≤ a.length → R ig_Equal___i_Simple_i_Simple__4 [tLA8 a, tLA8 b, tI (a.length : Int), tI (i : Int)] = some (if a.drop i = b.drop i then [tI 0] else [tI 1, tB false]) := by
  refine up_loop _ ?_ (fun i hi ih => ?_)
  · apply vg_Equal___i_Simple_i_Simple__4
    rw [List.drop_length, ← h1, List.drop_length]
    simp [bg_Equal___i_Simple_i_Simple__4, h1]
  · apply vg_Equal___i_Simple_i_Simple__4
    rw [List.drop_eq_getElem_cons hi, List.drop_eq_getElem_cons (by omega : i < b.length)]
    simp (disch := omega) only [bg_Equal___i_Simple_i_Simple__4, decide_eq_true, cond_true, Bool.and_true, Int.toNat_natCast, wrap_i64]
    rw [show (i : Int) + 1 = ((i + 1 : Nat) : Int) by omega, ih]
    simp only [List.getD_eq_getElem?_getD, List.getElem?_eq_getElem hi, List.getElem?_eq_getElem (by omega : i < b.length), Option.getD_some, List.cons.injEq]
    by_cases e : a[i] = b[i] <;> simp [e, bne_l]
theorem c_Equal (a b : List (List Int)) (h0 : a.length < 1000000000) : R ig_Equal___i_Simple_i_Simple_ [tLA8 a, tLA8 b] = some [tB (decide (a = b))] := by
  apply vg_Equal___i_Simple_i_Simple_
  by_cases e : b.length = a.length
  · have := c_Equal_4 a b h0 e 0 (Nat.zero_le _)
    simp only [List.drop_zero, Int.natCast_zero] at this
    simp only [bg_Equal___i_Simple_i_Simple_, e, bne_self_eq_false, cond_false, this]
    by_cases e2 : a = b <;> simp [e2]
  · have : a ≠ b := fun h => e (by rw [h])
    have e3 : ¬ ((a.length : Int) = b.length) := by omega
    simp [bg_Equal___i_Simple_i_Simple_, this, e3, bne_dec]
theorem c_l03Like (a b : Int × Int × List (List Int)) (h0 : a.2.2.length < 1000000000) : R is_l03Like [tPIPILA8 a, tPIPILA8 b] = some [tB (decide (a = b))] := by
  apply vs_l03Like
  obtain ⟨a1, a2, a3⟩ := a
  obtain ⟨b1, b2, b3⟩ := b
  by_cases q1 : a1 = b1
  · by_cases q2 : a2 = b2
    · by_cases e : b3.length = a3.length
      · have := c_l03Like_4 a1 a2 b1 b2 a3 b3 h0 e 0 (Nat.zero_le _)
        simp only [List.drop_zero, Int.natCast_zero] at this
        subst q1
        subst q2
        simp only [bs_l03Like, e, bne_self_eq_false, cond_false, this]
        by_cases e2 : a3 = b3 <;> simp [e2]
      · have : a3 ≠ b3 := fun h => e (by rw [h])
        have e3 : ¬ ((a3.length : Int) = b3.length) := by omega
        simp [bs_l03Like, this, e3, bne_dec]
    · simp [bs_l03Like, q2, bne_dec]
  · simp [bs_l03Like, q1, bne_dec]
theorem c_sameNormal (a b : Int × Int × List (List Int)) (h0 : a.2.2.length < 1000000000) : R ii_sameNormal [tPIPILA8 a, tPIPILA8 b] = some [tB (decide (a = b))] := by
  apply vi_sameNormal
  obtain ⟨a1, a2, a3⟩ := a
  obtain ⟨b1, b2, b3⟩ := b
  by_cases q1 : a1 = b1
  · by_cases q2 : a2 = b2
    · simp [bi_sameNormal, q1, q2, c_Equal a3 b3 h0]
    · simp [bi_sameNormal, q2, beq_dec]
  · simp [bi_sameNormal, q1, beq_dec]
end Go.Ev.YtolpnaiincngjaaGreat
