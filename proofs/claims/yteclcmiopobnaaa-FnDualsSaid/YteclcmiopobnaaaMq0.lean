/- Letters inverted, words turned round and joined. -/
import Derived.Test.YteclcmiopobnaaaWa
set_option linter.unusedVariables false
set_option linter.unusedSimpArgs false
namespace Go.Ev.Yteclcmiopobnaaa.P
open Go.Ev.Yteclcmiopobnaaa
open Go.Ev
def Lt (w : List Int) : Prop := ∀ x ∈ w, x ≠ 0 ∧ -8 ≤ x ∧ x ≤ 8
theorem Lt.at {w : List Int} (h : Lt w) {i : Nat} (hi : i < w.length) : w[i] ≠ 0 ∧ -8 ≤ w[i] ∧ w[i] ≤ 8 := h _ (List.getElem_mem hi)
theorem cz_size (x : Int) (h : -1000000000 ≤ x) (h' : x ≤ 1000000000) : R ii_size [tI x] = some [tI (x.natAbs : Int)] := by
 apply vi_size
 rw [bi_size, wrap_i64 (by omega) (by omega)]
 have : mx x (0 - x) = (x.natAbs : Int) := by simp only [mx]; split <;> omega
 rw [this]
def invL (w : List Int) : List Int := w.reverse.map fun x => -x
theorem invL_len (w : List Int) : (invL w).length = w.length := by simp [invL]
theorem c_reversed_3 (n a c : Int) (u l : List Int) (hl : l.length < 1000000000) : ∀ k, k ≤ l.length → ∀ out : List Int, out.length + k < 10000000000 →
  R ii_reversed_3 [tI n, tLI l, tI a, tLI u, tI c, tLI out, tI ((k : Int) - 1)] = some [tI 0, tI a, tLI u, tI c, tLI (out ++ (l.take k).reverse)] := by
 intro k
 induction k with
 | zero =>
  intro _ out _
  apply vi_reversed_3
  simp [bi_reversed_3]
 | succ k ih =>
  intro hk out ho
  have hk' : k < l.length := by omega
  apply vi_reversed_3
  rw [show ((k + 1 : Nat) : Int) - 1 = (k : Int) by omega]
  simp (disch := omega) only [bi_reversed_3, decide_eq_true, cond_true, Bool.and_true, Int.toNat_natCast, wrap_i64, getD_at hk', apOk1]
  rw [ih (by omega) _ (by simp; omega), take_rev hk']
  simp only [List.map_cons, List.append_assoc, List.cons_append, List.nil_append]
theorem c_reversed (a : Int × List Int) (hl : a.2.length < 1000000000) : R ii_reversed [tPILI a] = some [tPILI (a.1, a.2.reverse)] := by
 apply vi_reversed
 have h := c_reversed_3 a.1 0 a.1 [] a.2 hl a.2.length (Nat.le_refl _) [] (by simp; omega)
 simp (disch := omega) only [bi_reversed, wrap_i64, h, Option.bind_some, getTV_here, getTV_next, List.nil_append, List.take_length]
theorem c_opposite (x : Int) (h : -1000000000 ≤ x) (h' : x ≤ 1000000000) : R ii_opposite [tI x] = some [tI (-x)] := by
 apply vi_opposite
 rw [bi_opposite, wrap_i64 (by omega) (by omega), Int.zero_sub]
theorem c_letterBy_3 (a c : Int) (u l : List Int) (hw : Lt l) (hl : l.length < 1000000000) : ∀ i, i ≤ l.length → ∀ out : List Int, out.length + l.length < 10000000000 + i →
  R ii_letterBy_3 [tI a, tLI u, tI c, tLI out, tLI l, tI (l.length : Int), tI (i : Int)] = some [tI 0, tI a, tLI u, tI c, tLI (out ++ (l.drop i).map fun x => -x)] := by
 refine up_loop _ (fun out ho => ?_) (fun i hi ih out ho => ?_)
 · apply vi_letterBy_3
   simp [bi_letterBy_3]
 · have b1 := hw.at hi
   apply vi_letterBy_3
   rw [List.drop_eq_getElem_cons hi]
   simp (disch := omega) only [bi_letterBy_3, decide_eq_true, cond_true, Bool.and_true, Int.toNat_natCast, wrap_i64, getD_at hi, c_opposite, Option.bind_some, getTV_here, apOk1]
   rw [show (i : Int) + 1 = ((i + 1 : Nat) : Int) by omega, ih _ (by simp; omega)]
   simp only [List.map_cons, List.append_assoc, List.cons_append, List.nil_append]
theorem c_letterBy (a : Int × List Int) (hw : Lt a.2) (hl : a.2.length < 1000000000) : R ii_letterBy [tPILI a] = some [tPILI (a.1, a.2.map fun x => -x)] := by
 apply vi_letterBy
 have h := c_letterBy_3 0 a.1 [] a.2 hw hl 0 (Nat.zero_le _) [] (by simp; omega)
 simp only [Int.natCast_zero, List.drop_zero, List.nil_append] at h
 simp only [bi_letterBy, h, Option.bind_some, getTV_here, getTV_next]
theorem c_joined (a b : Int × List Int) (ha : a.2.length < 1000000000) (hb : b.2.length < 1000000000) : R ii_joined [tPILI a, tPILI b] = some [tPILI (a.1, a.2 ++ b.2)] := by
 apply vi_joined
 rw [bi_joined, apOk0 (by omega), apOk2 (by omega), cond_true, cond_true]
theorem c_l01Inverse_3 (l : List Int) (hw : Lt l) (hl : l.length < 1000000000) : ∀ k, k ≤ l.length → ∀ out : List Int, out.length + k < 10000000000 →
  R is_l01Inverse_3 [tLI l, tLI out, tI ((k : Int) - 1)] = some [tI 0, tLI (out ++ (l.take k).reverse.map fun x => -x)] := by
 intro k
 induction k with
 | zero =>
  intro _ out _
  apply vs_l01Inverse_3
  simp [bs_l01Inverse_3]
 | succ k ih =>
  intro hk out ho
  have hk' : k < l.length := by omega
  have b1 := hw.at hk'
  apply vs_l01Inverse_3
  rw [show ((k + 1 : Nat) : Int) - 1 = (k : Int) by omega]
  simp (disch := omega) only [bs_l01Inverse_3, decide_eq_true, cond_true, Bool.and_true, Int.toNat_natCast, wrap_i64, getD_at hk', apOk1, Int.zero_sub]
  rw [ih (by omega) _ (by simp; omega), take_rev hk']
  simp only [List.map_cons, List.append_assoc, List.cons_append, List.nil_append]
theorem c_l01Inverse (l : List Int) (hw : Lt l) (hl : l.length < 1000000000) : R is_l01Inverse [tLI l] = some [tLI (invL l)] := by
 apply vs_l01Inverse
 have h := c_l01Inverse_3 l hw hl l.length (Nat.le_refl _) [] (by simp; omega)
 simp (disch := omega) only [bs_l01Inverse, wrap_i64, h, Option.bind_some, getTV_here, getTV_next, List.nil_append, List.take_length]
 rfl
end Go.Ev.Yteclcmiopobnaaa.P
