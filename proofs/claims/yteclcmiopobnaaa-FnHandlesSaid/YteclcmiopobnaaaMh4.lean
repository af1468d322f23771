/- The exported words on handles: what they answer, both ways. -/
import Derived.Test.YteclcmiopobnaaaMh3
set_option linter.unusedVariables false
set_option linter.unusedSimpArgs false
namespace Go.Ev.Yteclcmiopobnaaa
open Go.Ev
theorem isBr_Lt {b : Int × List Int} (h : isBr b = true) : Lt b.2 := by
  have := isBr_ok h
  intro x hx
  have := this.2.2.2 x hx
  omega
theorem isBr_len {b : Int × List Int} (h : isBr b = true) : b.2.length ≤ 200 := (isBr_ok h).2.2.1
/-! ### inverse letters -/
def invL (w : List Int) : List Int := w.reverse.map fun x => -x
theorem invL_Lt {w : List Int} (h : Lt w) : Lt (invL w) := by
  intro x hx
  simp only [invL, List.mem_map, List.mem_reverse] at hx
  obtain ⟨y, hy, rfl⟩ := hx
  have := h y hy
  omega
theorem invL_len (w : List Int) : (invL w).length = w.length := by simp [invL]
theorem c_l01Inverse_3 (l : List Int) (hw : Lt l) (hl : l.length < 1000000000) : ∀ k, k ≤ l.length → ∀ out : List Int, out.length + k < 10000000000 →
    R is_l01Inverse_3 [tLI l, tLI out, tI ((k : Int) - 1)] = some [tI 0, tLI (out ++ (l.take k).reverse.map fun x => -x)] := by
  intro k
  induction k with
  | zero =>
    intro _ out _
    apply vs_l01Inverse_3
    simp [bs_l01Inverse_3]
  | succ k ih =>
    intro hk out ho
    have hk' : k < l.length := by omega
    have b1 := hw.at hk'
    apply vs_l01Inverse_3
    rw [show ((k + 1 : Nat) : Int) - 1 = (k : Int) by omega]
    simp (disch := omega) only [bs_l01Inverse_3, decide_eq_true, cond_true, Bool.and_true, Int.toNat_natCast, wrap_i64, getD_at hk', apOk1, Int.zero_sub]
    rw [ih (by omega) _ (by simp; omega), take_rev hk']
    simp only [List.map_cons, List.append_assoc, List.cons_append, List.nil_append]
theorem c_l01Inverse (l : List Int) (hw : Lt l) (hl : l.length < 1000000000) : R is_l01Inverse [tLI l] = some [tLI (invL l)] := by
  apply vs_l01Inverse
  have h := c_l01Inverse_3 l hw hl l.length (Nat.le_refl _) [] (by simp; omega)
  simp (disch := omega) only [bs_l01Inverse, wrap_i64, h, Option.bind_some, getTV_here, getTV_next, List.nil_append, List.take_length]
  rfl
/-! ### answers -/
def vWordSign (a : Int × List Int) : Int × Int := if isBr a then (sgn (mainL a.2), 0) else (0, 1)
theorem c_WordSign_s (a : Int × List Int) (hl : a.2.length < 1000000000) (hw : I64 a.2) : R is_WordSign [tPILI a] = some [tI (vWordSign a).1, tI (vWordSign a).2] := by
  apply vs_WordSign
  simp only [bs_WordSign, c_l01Is a hl hw, Option.bind_some, getTV_here, vWordSign]
  cases h : isBr a with
  | false => simp
  | true => simp [c_l06Main a.2 (isBr_Lt h) hl]
theorem c_WordSign_i (a : Int × List Int) (hl : a.2.length < 1000000000) : R ii_WordSign [tPILI a] = some [tI (vWordSign a).1, tI (vWordSign a).2] := by
  apply vi_WordSign
  simp only [bi_WordSign, c_IsBraid a hl, Option.bind_some, getTV_here, vWordSign]
  cases h : isBr a with
  | false => simp
  | true =>
    simp only [Bool.not_true, cond_false, c_mainOf a.2 (isBr_Lt h) hl, Option.bind_some, getTV_here, c_sign]
    by_cases h1 : mainL a.2 = 0
    · simp [h1, sgn]
    · by_cases h2 : 0 < mainL a.2
      · simp [h1, sgn, h2, beq_dec]
      · have h3 : mainL a.2 < 0 := by omega
        simp [h1, sgn, h2, h3, beq_dec]
def vFirstHandle (a : Int × List Int) : List Int × Int := if isBr a then (match fh a.2 with
  | some r => ([(r.1 : Int), (r.2 : Int)], 0)
  | none => ([], 4)) else ([], 1)
theorem c_FirstHandle_s (a : Int × List Int) (hl : a.2.length < 1000000000) (hw : I64 a.2) : R is_FirstHandle [tPILI a] = some [tLI (vFirstHandle a).1, tI (vFirstHandle a).2] := by
  apply vs_FirstHandle
  simp only [bs_FirstHandle, c_l01Is a hl hw, Option.bind_some, getTV_here, vFirstHandle]
  cases h : isBr a with
  | false => simp
  | true =>
    simp only [Bool.not_true, cond_false, c_l06Handle a.2 (isBr_Lt h) hl, Option.bind_some]
    cases fh a.2 <;> simp
theorem c_FirstHandle_i (a : Int × List Int) (hl : a.2.length < 1000000000) : R ii_FirstHandle [tPILI a] = some [tLI (vFirstHandle a).1, tI (vFirstHandle a).2] := by
  apply vi_FirstHandle
  simp only [bi_FirstHandle, c_IsBraid a hl, Option.bind_some, getTV_here, vFirstHandle]
  cases h : isBr a with
  | false => simp
  | true =>
    simp only [Bool.not_true, cond_false, c_firstHandle a.2 (isBr_Lt h) hl, Option.bind_some]
    cases fh a.2 <;> simp
theorem vFirstHandle_len (a : Int × List Int) : (vFirstHandle a).1.length ≤ 2 := by
  unfold vFirstHandle
  split
  · split <;> simp
  · simp
def vReduceHandle (a : Int × List Int) : (Int × List Int) × Int := if isBr a then (match fh a.2 with
  | some r => if 200 < (rdl a.2 r.1 r.2).length then ((0, []), 3) else ((a.1, rdl a.2 r.1 r.2), 0)
  | none => ((0, []), 4)) else ((0, []), 1)
theorem c_ReduceHandle_s (a : Int × List Int) (hl : a.2.length < 1000000000) (hw : I64 a.2) : R is_ReduceHandle [tPILI a] = some [tPILI (vReduceHandle a).1, tI (vReduceHandle a).2] := by
  apply vs_ReduceHandle
  simp only [bs_ReduceHandle, c_l01Is a hl hw, Option.bind_some, getTV_here, vReduceHandle]
  cases h : isBr a with
  | false => simp
  | true =>
    have := isBr_len h
    simp only [Bool.not_true, cond_false, c_l06Handle a.2 (isBr_Lt h) hl, Option.bind_some]
    cases hf : fh a.2 with
    | none => simp
    | some r =>
      have hr := fh_lt hf
      simp only [getTV_here, getTV_next, Bool.not_true, cond_false, c_l06Step a.2 (isBr_Lt h) (by omega) r.1 r.2 hr.1 hr.2.1 hr.2.2, Option.bind_some]
      by_cases h2 : 200 < (rdl a.2 r.1 r.2).length
      · have h3 : (200 : Int) < ((rdl a.2 r.1 r.2).length : Int) := by omega
        simp [h2, h3]
      · have h3 : ¬ (200 : Int) < ((rdl a.2 r.1 r.2).length : Int) := by omega
        simp [h2, h3]
theorem c_ReduceHandle_i (a : Int × List Int) (hl : a.2.length < 1000000000) : R ii_ReduceHandle [tPILI a] = some [tPILI (vReduceHandle a).1, tI (vReduceHandle a).2] := by
  apply vi_ReduceHandle
  simp only [bi_ReduceHandle, c_IsBraid a hl, Option.bind_some, getTV_here, vReduceHandle]
  cases h : isBr a with
  | false => simp
  | true =>
    have := isBr_len h
    simp only [Bool.not_true, cond_false, c_firstHandle a.2 (isBr_Lt h) hl, Option.bind_some]
    cases hf : fh a.2 with
    | none => simp
    | some r =>
      have hr := fh_lt hf
      simp only [getTV_here, getTV_next, Bool.not_true, cond_false, c_reduced a.2 (isBr_Lt h) (by omega) r.1 r.2 hr.1 hr.2.1, Option.bind_some]
      by_cases h2 : 200 < (rdl a.2 r.1 r.2).length
      · have h3 : (200 : Int) < ((rdl a.2 r.1 r.2).length : Int) := by omega
        simp [h2, h3]
      · have h3 : ¬ (200 : Int) < ((rdl a.2 r.1 r.2).length : Int) := by omega
        simp [h2, h3]
theorem vReduceHandle_len (a : Int × List Int) : (vReduceHandle a).1.2.length ≤ 200 := by
  unfold vReduceHandle
  split
  · split
    · split
      · simp
      · simp only; omega
    · simp
  · simp
def vHandleFree (a : Int × List Int) : (Int × List Int) × Int := if isBr a then (match rdc 3000 a.2 with
  | some v => if 200 < v.length then ((0, []), 3) else ((a.1, v), 0)
  | none => ((0, []), 3)) else ((0, []), 1)
theorem c_HandleFree_s (a : Int × List Int) (hl : a.2.length < 1000000000) (hw : I64 a.2) : R is_HandleFree [tPILI a] = some [tPILI (vHandleFree a).1, tI (vHandleFree a).2] := by
  apply vs_HandleFree
  simp only [bs_HandleFree, c_l01Is a hl hw, Option.bind_some, getTV_here, vHandleFree]
  cases h : isBr a with
  | false => simp
  | true =>
    have := isBr_len h
    simp only [Bool.not_true, cond_false, c_l06Reduce a.2 (isBr_Lt h) (by omega), Option.bind_some]
    cases hf : rdc 3000 a.2 with
    | none => simp
    | some v =>
      have hr := rdc_ok hf (isBr_Lt h)
      by_cases h2 : 200 < v.length
      · have h3 : (200 : Int) < (v.length : Int) := by omega
        simp [h2, h3]
      · have h3 : ¬ (200 : Int) < (v.length : Int) := by omega
        simp [h2, h3, c_l01Own v (by omega)]
theorem c_HandleFree_i (a : Int × List Int) (hl : a.2.length < 1000000000) : R ii_HandleFree [tPILI a] = some [tPILI (vHandleFree a).1, tI (vHandleFree a).2] := by
  apply vi_HandleFree
  simp only [bi_HandleFree, c_IsBraid a hl, Option.bind_some, getTV_here, vHandleFree]
  cases h : isBr a with
  | false => simp
  | true =>
    have := isBr_len h
    simp only [Bool.not_true, cond_false, c_reduction a.2 (isBr_Lt h) (by omega), Option.bind_some]
    cases hf : rdc 3000 a.2 with
    | none => simp
    | some v =>
      have hr := rdc_ok hf (isBr_Lt h)
      by_cases h2 : 200 < v.length
      · have h3 : (200 : Int) < (v.length : Int) := by omega
        simp [h2, h3]
      · have h3 : ¬ (200 : Int) < (v.length : Int) := by omega
        simp [h2, h3, apOk0 (ys := v) (by omega)]
theorem vHandleFree_len (a : Int × List Int) : (vHandleFree a).1.2.length ≤ 200 := by
  unfold vHandleFree
  split
  · split
    · split
      · simp
      · simp only; omega
    · simp
  · simp
def letterOf (w : List Int) : Int × Int := match rdc 3000 w with
  | some v => (mainL v, 0)
  | none => (0, 3)
theorem mainL_bd {w : List Int} (hw : Lt w) : -8 ≤ mainL w ∧ mainL w ≤ 8 := by
  have h1 := (main_sign hw).2
  have h2 := least_bd w
  have h3 : sgn (mainL w) = 1 ∨ sgn (mainL w) = -1 ∨ sgn (mainL w) = 0 := by unfold sgn; split <;> (try split) <;> simp
  rcases h3 with h3 | h3 | h3 <;> rw [h3] at h1 <;> omega
theorem c_l06Letter (w : List Int) (hw : Lt w) (hl : w.length < 10000) : R is_l06Letter [tLI w] = some [tI (letterOf w).1, tB ((letterOf w).2 == 0)] := by
  apply vs_l06Letter
  simp only [bs_l06Letter, c_l06Reduce w hw hl, Option.bind_some, letterOf]
  cases hf : rdc 3000 w with
  | none => simp
  | some v =>
    have hr := rdc_ok hf hw
    have hb := mainL_bd hr.1
    simp only [getTV_here, getTV_next, Bool.not_true, cond_false, c_l06Main v hr.1 (by omega), Option.bind_some, (main_sign hr.1).2]
    rw [wrap_i64 (by omega) (by omega)]
    rfl
theorem mainL_nil : mainL [] = 0 := rfl
theorem c_mainLetter (w : List Int) (hw : Lt w) (hl : w.length < 10000) : R ii_mainLetter [tLI w] = some [tI (letterOf w).1, tI (letterOf w).2] := by
  apply vi_mainLetter
  simp only [bi_mainLetter, c_reduction w hw hl, Option.bind_some, letterOf]
  cases hf : rdc 3000 w with
  | none => simp [c_mainOf [] (fun x hx => by simp at hx) (by simp), mainL_nil]
  | some v =>
    have hr := rdc_ok hf hw
    simp [c_mainOf v hr.1 (by omega)]
def vMainLetter (a : Int × List Int) : Int × Int := if isBr a then letterOf a.2 else (0, 1)
theorem letterOf_code (w : List Int) : (letterOf w).2 = 0 ∨ letterOf w = (0, 3) := by
  unfold letterOf
  split <;> simp
theorem c_MainLetter_s (a : Int × List Int) (hl : a.2.length < 1000000000) (hw : I64 a.2) : R is_MainLetter [tPILI a] = some [tI (vMainLetter a).1, tI (vMainLetter a).2] := by
  apply vs_MainLetter
  simp only [bs_MainLetter, c_l01Is a hl hw, Option.bind_some, getTV_here, vMainLetter]
  cases h : isBr a with
  | false => simp
  | true =>
    have := isBr_len h
    simp only [Bool.not_true, cond_false, c_l06Letter a.2 (isBr_Lt h) (by omega), Option.bind_some]
    rcases letterOf_code a.2 with h | h <;> simp [h]
theorem c_MainLetter_i (a : Int × List Int) (hl : a.2.length < 1000000000) : R ii_MainLetter [tPILI a] = some [tI (vMainLetter a).1, tI (vMainLetter a).2] := by
  apply vi_MainLetter
  simp only [bi_MainLetter, c_IsBraid a hl, Option.bind_some, getTV_here, vMainLetter]
  cases h : isBr a with
  | false => simp
  | true =>
    have := isBr_len h
    simp [c_mainLetter a.2 (isBr_Lt h) (by omega)]
def vIsTrivial (a : Int × List Int) : Bool × Int := ((vMainLetter a).1 == 0 && (vMainLetter a).2 == 0, (vMainLetter a).2)
theorem c_IsTrivial_s (a : Int × List Int) (hl : a.2.length < 1000000000) (hw : I64 a.2) : R is_IsTrivial [tPILI a] = some [tB (vIsTrivial a).1, tI (vIsTrivial a).2] := by
  apply vs_IsTrivial
  simp only [bs_IsTrivial, c_MainLetter_s a hl hw, Option.bind_some, getTV_here, getTV_next, vIsTrivial]
  cases h : (vMainLetter a).2 == 0 <;> simp
theorem c_IsTrivial_i (a : Int × List Int) (hl : a.2.length < 1000000000) : R ii_IsTrivial [tPILI a] = some [tB (vIsTrivial a).1, tI (vIsTrivial a).2] := by
  apply vi_IsTrivial
  simp only [bi_IsTrivial, c_MainLetter_i a hl, Option.bind_some, getTV_here, getTV_next, vIsTrivial]
  cases h : (vMainLetter a).1 == 0 <;> simp
/-! ### order -/
def cmpOf (u v : List Int) : Int × Int := (-sgn (letterOf (invL u ++ v)).1, (letterOf (invL u ++ v)).2)
def vCompare (a b : Int × List Int) : Int × Int := if isBr a && isBr b then (if a.1 = b.1 then (if (cmpOf a.2 b.2).2 = 0 then ((cmpOf a.2 b.2).1, 0) else (0, 3)) else (0, 2)) else (0, 1)
theorem cmpOf_code (u v : List Int) : (cmpOf u v).2 = 0 ∨ cmpOf u v = (0, 3) := by
  unfold cmpOf
  rcases letterOf_code (invL u ++ v) with h | h
  · exact .inl h
  · right; rw [h]; rfl
end Go.Ev.Yteclcmiopobnaaa
