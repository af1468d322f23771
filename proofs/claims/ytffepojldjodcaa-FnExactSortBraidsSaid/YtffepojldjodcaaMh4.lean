/- The exported words on handles: what they answer, both ways. -/
import Derived.Test.YtffepojldjodcaaMh3
import Derived.Test.YtffepojldjodcaaMk0
set_option linter.unusedVariables false
set_option linter.unusedSimpArgs false
namespace Go.Ev.Ytffepojldjodcaa
open Go.Ev
theorem isBr_Lt {b : Int × List Int} (h : isBr b = true) : Lt b.2 := by
  have := isBr_ok h
  intro x hx
  have := this.2.2.2 x hx
  omega
theorem isBr_len {b : Int × List Int} (h : isBr b = true) : b.2.length ≤ 200 := (isBr_ok h).2.2.1
/-! ### inverse letters -/
theorem invL_Lt {w : List Int} (h : Lt w) : Lt (invL w) := by
  intro x hx
  simp only [invL, List.mem_map, List.mem_reverse] at hx
  obtain ⟨y, hy, rfl⟩ := hx
  have := h y hy
  omega
theorem c_reversed_3 (n a c : Int) (u l : List Int) (hl : l.length < 1000000000) : ∀ k, k ≤ l.length → ∀ out : List Int, out.length + k < 10000000000 →
    R ii_reversed_3 [tI n, tLI l, tI a, tLI u, tI c, tLI out, tI ((k : Int) - 1)] = some [tI 0, tI a, tLI u, tI c, tLI (out ++ (l.take k).reverse)] := by
  intro k
  induction k with
  | zero =>
    intro _ out _
    apply vi_reversed_3
    simp [bi_reversed_3]
  | succ k ih =>
    intro hk out ho
    have hk' : k < l.length := by omega
    apply vi_reversed_3
    rw [show ((k + 1 : Nat) : Int) - 1 = (k : Int) by omega]
    simp (disch := omega) only [bi_reversed_3, decide_eq_true, cond_true, Bool.and_true, Int.toNat_natCast, wrap_i64, getD_at hk', apOk1]
    rw [ih (by omega) _ (by simp; omega), take_rev hk']
    simp only [List.map_cons, List.append_assoc, List.cons_append, List.nil_append]
theorem c_reversed (a : Int × List Int) (hl : a.2.length < 1000000000) : R ii_reversed [tPILI a] = some [tPILI (a.1, a.2.reverse)] := by
  apply vi_reversed
  have h := c_reversed_3 a.1 0 a.1 [] a.2 hl a.2.length (Nat.le_refl _) [] (by simp; omega)
  simp (disch := omega) only [bi_reversed, wrap_i64, h, Option.bind_some, getTV_here, getTV_next, List.nil_append, List.take_length]
theorem c_opposite (x : Int) (h : -1000000000 ≤ x) (h' : x ≤ 1000000000) : R ii_opposite [tI x] = some [tI (-x)] := by
  apply vi_opposite
  rw [bi_opposite, wrap_i64 (by omega) (by omega), Int.zero_sub]
theorem c_letterBy_3 (a c : Int) (u l : List Int) (hw : Lt l) (hl : l.length < 1000000000) : ∀ i, i ≤ l.length → ∀ out : List Int, out.length + l.length < 10000000000 + i →
    R ii_letterBy_3 [tI a, tLI u, tI c, tLI out, tLI l, tI (l.length : Int), tI (i : Int)] = some [tI 0, tI a, tLI u, tI c, tLI (out ++ (l.drop i).map fun x => -x)] := by
  refine up_loop _ (fun out ho => ?_) (fun i hi ih out ho => ?_)
  · apply vi_letterBy_3
    simp [bi_letterBy_3]
  · have b1 := hw.at hi
    apply vi_letterBy_3
    rw [List.drop_eq_getElem_cons hi]
    simp (disch := omega) only [bi_letterBy_3, decide_eq_true, cond_true, Bool.and_true, Int.toNat_natCast, wrap_i64, getD_at hi, c_opposite, Option.bind_some, getTV_here, apOk1]
    rw [show (i : Int) + 1 = ((i + 1 : Nat) : Int) by omega, ih _ (by simp; omega)]
    simp only [List.map_cons, List.append_assoc, List.cons_append, List.nil_append]
theorem c_letterBy (a : Int × List Int) (hw : Lt a.2) (hl : a.2.length < 1000000000) : R ii_letterBy [tPILI a] = some [tPILI (a.1, a.2.map fun x => -x)] := by
  apply vi_letterBy
  have h := c_letterBy_3 0 a.1 [] a.2 hw hl 0 (Nat.zero_le _) [] (by simp; omega)
  simp only [Int.natCast_zero, List.drop_zero, List.nil_append] at h
  simp only [bi_letterBy, h, Option.bind_some, getTV_here, getTV_next]
theorem c_joined (a b : Int × List Int) (ha : a.2.length < 1000000000) (hb : b.2.length < 1000000000) : R ii_joined [tPILI a, tPILI b] = some [tPILI (a.1, a.2 ++ b.2)] := by
  apply vi_joined
  rw [bi_joined, apOk0 (by omega), apOk2 (by omega), cond_true, cond_true]
theorem c_l01Inverse_3 (l : List Int) (hw : Lt l) (hl : l.length < 1000000000) : ∀ k, k ≤ l.length → ∀ out : List Int, out.length + k < 10000000000 →
    R is_l01Inverse_3 [tLI l, tLI out, tI ((k : Int) - 1)] = some [tI 0, tLI (out ++ (l.take k).reverse.map fun x => -x)] := by
  intro k
  induction k with
  | zero =>
    intro _ out _
    apply vs_l01Inverse_3
    simp [bs_l01Inverse_3]
  | succ k ih =>
    intro hk out ho
    have hk' : k < l.length := by omega
    have b1 := hw.at hk'
    apply vs_l01Inverse_3
    rw [show ((k + 1 : Nat) : Int) - 1 = (k : Int) by omega]
    simp (disch := omega) only [bs_l01Inverse_3, decide_eq_true, cond_true, Bool.and_true, Int.toNat_natCast, wrap_i64, getD_at hk', apOk1, Int.zero_sub]
    rw [ih (by omega) _ (by simp; omega), take_rev hk']
    simp only [List.map_cons, List.append_assoc, List.cons_append, List.nil_append]
theorem c_l01Inverse (l : List Int) (hw : Lt l) (hl : l.length < 1000000000) : R is_l01Inverse [tLI l] = some [tLI (invL l)] := by
  apply vs_l01Inverse
  have h := c_l01Inverse_3 l hw hl l.length (Nat.le_refl _) [] (by simp; omega)
  simp (disch := omega) only [bs_l01Inverse, wrap_i64, h, Option.bind_some, getTV_here, getTV_next, List.nil_append, List.take_length]
  rfl
/-! ### answers -/
def vWordSign (a : Int × List Int) : Int × Int := if isBr a then (sgn (mainL a.2), 0) else (0, 1)
def vFirstHandle (a : Int × List Int) : List Int × Int := if isBr a then (match fh a.2 with
  | some r => ([(r.1 : Int), (r.2 : Int)], 0)
  | none => ([], 4)) else ([], 1)
theorem vFirstHandle_len (a : Int × List Int) : (vFirstHandle a).1.length ≤ 2 := by
  unfold vFirstHandle
  split
  · split <;> simp
  · simp
def vReduceHandle (a : Int × List Int) : (Int × List Int) × Int := if isBr a then (match fh a.2 with
  | some r => if 200 < (rdl a.2 r.1 r.2).length then ((0, []), 3) else ((a.1, rdl a.2 r.1 r.2), 0)
  | none => ((0, []), 4)) else ((0, []), 1)
theorem vReduceHandle_len (a : Int × List Int) : (vReduceHandle a).1.2.length ≤ 200 := by
  unfold vReduceHandle
  split
  · split
    · split
      · simp
      · simp only; omega
    · simp
  · simp
def vHandleFree (a : Int × List Int) : (Int × List Int) × Int := if isBr a then (match rdc 3000 a.2 with
  | some v => if 200 < v.length then ((0, []), 3) else ((a.1, v), 0)
  | none => ((0, []), 3)) else ((0, []), 1)
theorem vHandleFree_len (a : Int × List Int) : (vHandleFree a).1.2.length ≤ 200 := by
  unfold vHandleFree
  split
  · split
    · split
      · simp
      · simp only; omega
    · simp
  · simp
def letterOf (w : List Int) : Int × Int := match rdc 3000 w with
  | some v => (mainL v, 0)
  | none => (0, 3)
theorem mainL_bd {w : List Int} (hw : Lt w) : -8 ≤ mainL w ∧ mainL w ≤ 8 := by
  have h1 := (main_sign hw).2
  have h2 := least_bd w
  have h3 : sgn (mainL w) = 1 ∨ sgn (mainL w) = -1 ∨ sgn (mainL w) = 0 := by unfold sgn; split <;> (try split) <;> simp
  rcases h3 with h3 | h3 | h3 <;> rw [h3] at h1 <;> omega
theorem c_l06Letter (w : List Int) (hw : Lt w) (hl : w.length < 10000) : R is_l06Letter [tLI w] = some [tI (letterOf w).1, tB ((letterOf w).2 == 0)] := by
  apply vs_l06Letter
  simp only [bs_l06Letter, c_l06Reduce w hw hl, Option.bind_some, letterOf]
  cases hf : rdc 3000 w with
  | none => simp
  | some v =>
    have hr := rdc_ok hf hw
    have hb := mainL_bd hr.1
    simp only [getTV_here, getTV_next, Bool.not_true, cond_false, c_l06Main v hr.1 (by omega), Option.bind_some, (main_sign hr.1).2]
    rw [wrap_i64 (by omega) (by omega)]
    rfl
theorem mainL_nil : mainL [] = 0 := rfl
theorem c_mainLetter (w : List Int) (hw : Lt w) (hl : w.length < 10000) : R ii_mainLetter [tLI w] = some [tI (letterOf w).1, tI (letterOf w).2] := by
  apply vi_mainLetter
  simp only [bi_mainLetter, c_reduction w hw hl, Option.bind_some, letterOf]
  cases hf : rdc 3000 w with
  | none => simp [c_mainOf [] (fun x hx => by simp at hx) (by simp), mainL_nil]
  | some v =>
    have hr := rdc_ok hf hw
    simp [c_mainOf v hr.1 (by omega)]
def vMainLetter (a : Int × List Int) : Int × Int := if isBr a then letterOf a.2 else (0, 1)
theorem letterOf_code (w : List Int) : (letterOf w).2 = 0 ∨ letterOf w = (0, 3) := by
  unfold letterOf
  split <;> simp
def vIsTrivial (a : Int × List Int) : Bool × Int := ((vMainLetter a).1 == 0 && (vMainLetter a).2 == 0, (vMainLetter a).2)
/-! ### order -/
def cmpOf (u v : List Int) : Int × Int := (-sgn (letterOf (invL u ++ v)).1, (letterOf (invL u ++ v)).2)
theorem c_l06Compare (u v : List Int) (hu : Lt u) (hv : Lt v) (hl : u.length < 4000) (hl' : v.length < 4000) : R is_l06Compare [tLI u, tLI v] = some [tI (cmpOf u v).1, tB ((cmpOf u v).2 == 0)] := by
  apply vs_l06Compare
  have hi := invL_len u
  have hlt : Lt (invL u ++ v) := fun x hx => (List.mem_append.1 hx).elim (invL_Lt hu x) (hv x)
  simp only [bs_l06Compare, c_l01Inverse u hu (by omega), Option.bind_some, getTV_here, getTV_next, apOk2 (xs := invL u) (ys := v) (by omega), cond_true, c_l06Letter (invL u ++ v) hlt (by simp; omega), cmpOf]
  generalize letterOf (invL u ++ v) = r
  by_cases h1 : 0 < r.1
  · simp [h1, sgn]
  · by_cases h2 : r.1 < 0
    · simp [h1, h2, sgn]
    · simp [h1, h2, sgn]
theorem c_compare (a b : Int × List Int) (hu : Lt a.2) (hv : Lt b.2) (hl : a.2.length < 4000) (hl' : b.2.length < 4000) : R ii_compare [tPILI a, tPILI b] = some [tI (cmpOf a.2 b.2).1, tI (cmpOf a.2 b.2).2] := by
  apply vi_compare
  have hi := invL_len a.2
  have hr : Lt a.2.reverse := hu.sub fun x hx => by simpa using hx
  have hlt : Lt (invL a.2 ++ b.2) := fun x hx => (List.mem_append.1 hx).elim (invL_Lt hu x) (hv x)
  have e : (a.2.reverse.map fun x => -x) = invL a.2 := rfl
  simp only [bi_compare, c_reversed a (by omega), Option.bind_some, getTV_here, getTV_next, c_letterBy (a.1, a.2.reverse) hr (by simp; omega), e, c_joined (a.1, invL a.2) b (by simp; omega) (by omega),
    c_mainLetter (invL a.2 ++ b.2) hlt (by simp; omega), cmpOf]
  rcases letterOf_code (invL a.2 ++ b.2) with h | h
  · simp only [h]
    generalize (letterOf (invL a.2 ++ b.2)).1 = r
    by_cases h1 : r = 0
    · simp [h1, sgn]
    · by_cases h2 : 0 < r
      · simp [h1, h2, sgn, beq_dec]
      · have h3 : r < 0 := by omega
        simp [h1, h2, h3, sgn, beq_dec]
  · simp [h, sgn]
def vCompare (a b : Int × List Int) : Int × Int := if isBr a && isBr b then (if a.1 = b.1 then (if (cmpOf a.2 b.2).2 = 0 then ((cmpOf a.2 b.2).1, 0) else (0, 3)) else (0, 2)) else (0, 1)
theorem cmpOf_code (u v : List Int) : (cmpOf u v).2 = 0 ∨ cmpOf u v = (0, 3) := by
  unfold cmpOf
  rcases letterOf_code (invL u ++ v) with h | h
  · exact .inl h
  · right; rw [h]; rfl
end Go.Ev.Ytffepojldjodcaa
