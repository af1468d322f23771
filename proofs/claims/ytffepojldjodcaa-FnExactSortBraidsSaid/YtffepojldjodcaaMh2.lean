/- Handles reduced. -/
import Derived.Test.YtffepojldjodcaaMh1
set_option linter.unusedVariables false
set_option linter.unusedSimpArgs false
namespace Go.Ev.Ytffepojldjodcaa
open Go.Ev
/-- A letter within a handle of index i. -/
def rd1 (i : Nat) (y x : Int) : List Int := if x.natAbs = i + 1 then [y, if 0 < x then (i : Int) else -(i : Int), -y] else [x]
def yOf (z : Int) : Int := if 0 < z then (z.natAbs : Int) + 1 else -((z.natAbs : Int) + 1)
/-- The word whose handle from p to q has been reduced. -/
def rdl (w : List Int) (p q : Nat) : List Int :=
  w.take p ++ ((w.take q).drop (p + 1)).flatMap (rd1 (List.getD w q 0).natAbs (yOf (List.getD w q 0))) ++ w.drop (q + 1)
theorem Lt.sub {w v : List Int} (h : Lt w) (hv : ∀ x ∈ v, x ∈ w) : Lt v := fun x hx => h x (hv x hx)
theorem c_reduced_5 (w seg : List Int) (q : Int) (i : Nat) (y : Int) (hi : i ≤ 8) (hy : -9 ≤ y) (hy' : y ≤ 9) (hs : Lt seg) (hl : seg.length < 100000) :
    ∀ j, j ≤ seg.length → ∀ out : List Int, out.length < 100000 + 3 * j → R ii_reduced_5 [tLI w, tLI out, tLI seg, tI q, tI (i : Int), tI y, tI (seg.length : Int), tI (j : Int)] =
      some [tI 0, tLI w, tLI (out ++ (seg.drop j).flatMap (rd1 i y)), tI q] := by
  refine up_loop _ (fun out ho => ?_) (fun j hj ih out ho => ?_)
  · apply vi_reduced_5
    simp [bi_reduced_5]
  · apply vi_reduced_5
    have b1 := hs.at hj
    rw [List.drop_eq_getElem_cons hj]
    simp (disch := omega) only [bi_reduced_5, decide_eq_true, cond_true, Bool.and_true, Int.toNat_natCast, wrap_i64, getD_at hj, c_size, c_sign, Option.bind_some, getTV_here, apOk1, apOk3, List.flatMap_cons]
    rw [show (j : Int) + 1 = ((j + 1 : Nat) : Int) by omega]
    by_cases h : seg[j].natAbs = i + 1
    · have e : ((seg[j].natAbs : Int) == (i : Int) + 1) = true := by simp; omega
      rw [e, cond_true, ih _ (by simp; omega)]
      have e2 : wi64 ((i : Int) * (if 0 < seg[j] then 1 else -1)) = (if 0 < seg[j] then (i : Int) else -(i : Int)) := by
        split
        · rw [wrap_i64] <;> omega
        · rw [wrap_i64] <;> omega
      simp [rd1, h, e2]
    · have e : ((seg[j].natAbs : Int) == (i : Int) + 1) = false := by simp; omega
      rw [e, cond_false, ih _ (by simp; omega)]
      simp [rd1, h]
theorem mem_seg {w : List Int} {p q : Nat} {x : Int} (h : x ∈ (w.take q).drop p) : x ∈ w := List.mem_of_mem_take (List.mem_of_mem_drop h)
theorem c_reduced (w : List Int) (hw : Lt w) (hl : w.length < 50000) (p q : Nat) (hp : p < q) (hq : q < w.length) : R ii_reduced [tLI w, tI (p : Int), tI (q : Int)] = some [tLI (rdl w p q)] := by
  have b2 := hw.at hq
  have e1 : wi64 (wi64 ((w[q].natAbs : Int) + 1) * (if 0 < w[q] then 1 else -1)) = yOf w[q] := by
    rw [wrap_i64 (x := (w[q].natAbs : Int) + 1) (by omega) (by omega)]
    unfold yOf
    split
    · rw [wrap_i64] <;> omega
    · rw [wrap_i64] <;> omega
  have hy : -9 ≤ yOf w[q] ∧ yOf w[q] ≤ 9 := by unfold yOf; split <;> omega
  have h := c_reduced_5 w ((w.take q).drop (p + 1)) q w[q].natAbs (yOf w[q]) (by omega) hy.1 hy.2 (hw.sub fun x hx => mem_seg hx) (by simp; omega) 0 (Nat.zero_le _) (w.take p) (by simp; omega)
  simp only [Int.natCast_zero, List.drop_zero] at h
  apply vi_reduced
  have e2 : wi64 ((p : Int) + 1) = ((p + 1 : Nat) : Int) := by rw [wrap_i64] <;> omega
  have e3 : wi64 ((q : Int) + 1) = ((q + 1 : Nat) : Int) := by rw [wrap_i64] <;> omega
  have e4 : apOk [] (List.take p w) = true := apOk0 (by simp; omega)
  have hlen : (w.take p ++ ((w.take q).drop (p + 1)).flatMap (rd1 w[q].natAbs (yOf w[q]))).length + (w.drop (q + 1)).length < 100000000000 := by
    have : (((w.take q).drop (p + 1)).flatMap (rd1 w[q].natAbs (yOf w[q]))).length ≤ 3 * ((w.take q).drop (p + 1)).length := by
      generalize (w.take q).drop (p + 1) = l
      induction l with
      | nil => simp
      | cons a l ih =>
        simp only [List.flatMap_cons, List.length_append, List.length_cons]
        have : (rd1 w[q].natAbs (yOf w[q]) a).length ≤ 3 := by unfold rd1; split <;> simp
        omega
    simp only [List.length_append, List.length_take, List.length_drop] at this ⊢
    omega
  simp (disch := omega) only [bi_reduced, decide_eq_true, cond_true, Bool.and_true, Int.toNat_natCast, getD_at hq, c_size, c_sign, Option.bind_some, getTV_here, getTV_next, e2, e3, e4, e1, h, apOk2 hlen]
  simp [rdl, List.getElem?_eq_getElem hq]
theorem c_l06Step_5 (w : List Int) (hw : Lt w) (q : Nat) (hq : q ≤ w.length) (hl : w.length < 50000) (i : Nat) (hi : i ≤ 8) (s : Int) (hs : s = 1 ∨ s = -1) :
    ∀ k, k ≤ q → ∀ out : List Int, out.length < 100000 + 3 * k → R is_l06Step_5 [tLI w, tLI out, tI (q : Int), tI (i : Int), tI s, tI (k : Int)] =
      some [tI 0, tLI w, tLI (out ++ ((w.take q).drop k).flatMap (rd1 i (s * ((i : Int) + 1)))), tI (q : Int)] := by
  refine up_loop _ (fun out ho => ?_) (fun j hj ih out ho => ?_)
  · apply vs_l06Step_5
    simp [bs_l06Step_5, List.drop_of_length_le]
  · have hj' : j < w.length := by omega
    have b1 := hw.at hj'
    apply vs_l06Step_5
    have e0 : (w.take q).drop j = w[j] :: (w.take q).drop (j + 1) := by
      rw [List.drop_eq_getElem_cons (by simp; omega)]
      simp
    have e1 : wi64 ((i : Int) + 1) = (i : Int) + 1 := by rw [wrap_i64] <;> omega
    have e2 : wi64 (s * ((i : Int) + 1)) = s * ((i : Int) + 1) := by rcases hs with rfl | rfl <;> rw [wrap_i64] <;> omega
    have e3 : wi64 (wi64 (0 - s) * ((i : Int) + 1)) = -(s * ((i : Int) + 1)) := by
      rcases hs with rfl | rfl
      · rw [show wi64 (0 - 1) = -1 by decide, wrap_i64] <;> omega
      · rw [show wi64 (0 - -1) = 1 by decide, wrap_i64] <;> omega
    rw [e0]
    simp (disch := omega) only [bs_l06Step_5, decide_eq_true, cond_true, Bool.and_true, Int.toNat_natCast, getD_at hj', c_index, Option.bind_some, getTV_here, apOk1, apOk3, List.flatMap_cons, e1, e2, e3]
    rw [show wi64 ((j : Int) + 1) = ((j + 1 : Nat) : Int) by rw [wrap_i64] <;> omega, show wi64 (0 - (i : Int)) = -(i : Int) by rw [wrap_i64] <;> omega]
    by_cases h : w[j].natAbs = i + 1
    · have e : ((w[j].natAbs : Int) != (i : Int) + 1) = false := by simp; omega
      rw [e, cond_false]
      by_cases h2 : w[j] < 0
      · have h3 : ¬ (0 < w[j]) := by omega
        rw [decide_eq_true h2, cond_true, ih _ (by simp; omega)]
        simp [rd1, h, h3]
      · have h3 : 0 < w[j] := by omega
        rw [decide_eq_false h2, cond_false, ih _ (by simp; omega)]
        simp [rd1, h, h3]
    · have e : ((w[j].natAbs : Int) != (i : Int) + 1) = true := by simp; omega
      rw [e, cond_true, ih _ (by simp; omega)]
      simp [rd1, h]
theorem c_l01Own (l : List Int) (h : l.length < 100000000000) : R is_l01Own [tLI l] = some [tLI l] := by
  apply vs_l01Own
  rw [bs_l01Own, apOk0 h, cond_true]
theorem rdl_mid {w : List Int} {p q : Nat} {i : Nat} {y : Int} (hq : q < w.length) (hp : p < q) : (w.take p ++ ((w.take q).drop (p + 1)).flatMap (rd1 i y)).length + (w.drop (q + 1)).length ≤ 3 * w.length := by
  have : (((w.take q).drop (p + 1)).flatMap (rd1 i y)).length ≤ 3 * ((w.take q).drop (p + 1)).length := by
    generalize (w.take q).drop (p + 1) = l
    induction l with
    | nil => simp
    | cons a l ih =>
      simp only [List.flatMap_cons, List.length_append, List.length_cons]
      have : (rd1 i y a).length ≤ 3 := by unfold rd1; split <;> simp
      omega
  simp only [List.length_append, List.length_take, List.length_drop] at this ⊢
  omega
theorem rdl_len {w : List Int} {p q : Nat} (hq : q < w.length) (hp : p < q) : (rdl w p q).length ≤ 3 * w.length := by
  have := rdl_mid (i := (List.getD w q 0).natAbs) (y := yOf (List.getD w q 0)) hq hp
  rw [rdl, List.length_append]
  exact this
theorem rdl_Lt {w : List Int} (hw : Lt w) {p q : Nat} (hq : q < w.length) (hp : p < q) : Lt (rdl w p q) := by
  intro x hx
  have b2 := hw.at hq
  simp only [rdl, getD_at hq, List.mem_append, List.mem_flatMap] at hx
  rcases hx with (hx | ⟨z, hz, hx⟩) | hx
  · exact hw x (List.mem_of_mem_take hx)
  · have hz' := hw z (mem_seg hz)
    unfold rd1 at hx
    split at hx
    · rename_i h
      simp only [List.mem_cons, List.not_mem_nil, or_false] at hx
      have : (yOf w[q]).natAbs = w[q].natAbs + 1 := by unfold yOf; split <;> omega
      rcases hx with rfl | rfl | rfl
      · omega
      · split <;> omega
      · omega
    · simp only [List.mem_cons, List.not_mem_nil, or_false] at hx
      subst hx
      exact hz'
  · exact hw x (List.mem_of_mem_drop hx)
theorem c_l06Step (w : List Int) (hw : Lt w) (hl : w.length < 50000) (p q : Nat) (hp : p < q) (hq : q < w.length) (hpq : List.getD w p 0 = -List.getD w q 0) : R is_l06Step [tLI w, tI (p : Int), tI (q : Int)] = some [tLI (rdl w p q)] := by
  have b2 := hw.at hq
  have hp' : p < w.length := by omega
  have b1 := hw.at hp'
  rw [getD_at hp', getD_at hq] at hpq
  apply vs_l06Step
  have e2 : wi64 ((p : Int) + 1) = ((p + 1 : Nat) : Int) := by rw [wrap_i64] <;> omega
  have e3 : wi64 ((q : Int) + 1) = ((q + 1 : Nat) : Int) := by rw [wrap_i64] <;> omega
  have e4 : (w[p]).natAbs = w[q].natAbs := by omega
  have e5 : R is_l01Own [tLI (List.take p w)] = some [tLI (List.take p w)] := c_l01Own _ (by simp; omega)
  have h := fun s hs => c_l06Step_5 w hw q (by omega) hl w[q].natAbs (by omega) s hs (p + 1) (by omega) (w.take p) (by simp; omega)
  have hlen := fun y => rdl_mid (i := w[q].natAbs) (y := y) hq hp
  simp (disch := omega) only [bs_l06Step, decide_eq_true, cond_true, Bool.and_true, Int.toNat_natCast, getD_at hq, getD_at hp', c_index, Option.bind_some, getTV_here, getTV_next, e2, e5, e4]
  by_cases hs : w[q] < 0
  · rw [decide_eq_true hs, cond_true, h (-1) (.inr rfl)]
    have ha := apOk2 (Nat.lt_of_le_of_lt (hlen (-1 * ((w[q].natAbs : Int) + 1))) (by omega))
    simp (disch := omega) only [decide_eq_true, cond_true, Bool.and_true, Int.toNat_natCast, Option.bind_some, getTV_here, getTV_next, e3, ha]
    have : yOf w[q] = -1 * ((w[q].natAbs : Int) + 1) := by unfold yOf; split <;> omega
    rw [rdl, getD_at hq, this]
  · rw [decide_eq_false hs, cond_false, h 1 (.inl rfl)]
    have ha := apOk2 (Nat.lt_of_le_of_lt (hlen (1 * ((w[q].natAbs : Int) + 1))) (by omega))
    simp (disch := omega) only [decide_eq_true, cond_true, Bool.and_true, Int.toNat_natCast, Option.bind_some, getTV_here, getTV_next, e3, ha]
    have : yOf w[q] = 1 * ((w[q].natAbs : Int) + 1) := by unfold yOf; split <;> omega
    rw [rdl, getD_at hq, this]
/-- The reduction, of at most k steps. -/
def rdc : Nat → List Int → Option (List Int)
  | 0, w => if 2000 < w.length then none else match fh w with
    | none => some w
    | some _ => none
  | k + 1, w => if 2000 < w.length then none else match fh w with
    | none => some w
    | some r => rdc k (rdl w r.1 r.2)
theorem rdc_ok : ∀ {k : Nat} {w v : List Int}, rdc k w = some v → Lt w → Lt v ∧ v.length ≤ 2000
  | 0, w, v, h, hw => by
    unfold rdc at h
    split at h
    · simp at h
    · split at h
      · simp only [Option.some.injEq] at h
        subst h
        exact ⟨hw, by omega⟩
      · simp at h
  | k + 1, w, v, h, hw => by
    unfold rdc at h
    split at h
    · simp at h
    · split at h
      · simp only [Option.some.injEq] at h
        subst h
        exact ⟨hw, by omega⟩
      · rename_i r hr
        have := fh_lt hr
        exact rdc_ok h (rdl_Lt hw this.2.1 this.1)
theorem c_l06Reduce_3 : ∀ k, k ≤ 3000 → ∀ w : List Int, Lt w → w.length < 10000 → R is_l06Reduce_3 [tLI w, tI ((3000 - k : Nat) : Int)] = some (match rdc k w with
    | some v => [tI 0, tLI v, tB true]
    | none => [tI 0, tLI [], tB false]) := by
  intro k
  induction k with
  | zero =>
    intro _ w hw hl
    apply vs_l06Reduce_3
    by_cases h : 2000 < w.length
    · have h' : (2000 : Int) < w.length := by omega
      simp [bs_l06Reduce_3, rdc, h, h']
    · have h' : ¬ (2000 : Int) < w.length := by omega
      simp only [bs_l06Reduce_3, rdc, h, h', decide_false, cond_false, if_false, c_l06Handle w hw (by omega), Option.bind_some]
      cases fh w <;> simp
  | succ k ih =>
    intro hk w hw hl
    apply vs_l06Reduce_3
    by_cases h : 2000 < w.length
    · have h' : (2000 : Int) < w.length := by omega
      simp [bs_l06Reduce_3, rdc, h, h']
    · have h' : ¬ (2000 : Int) < w.length := by omega
      simp only [bs_l06Reduce_3, rdc, h, h', decide_false, cond_false, if_false, c_l06Handle w hw (by omega), Option.bind_some]
      cases hf : fh w with
      | none => simp
      | some r =>
        have hr := fh_lt hf
        have e : (((3000 - (k + 1) : Nat) : Int) == 3000) = false := by simp; omega
        have e2 : wi64 (((3000 - (k + 1) : Nat) : Int) + 1) = ((3000 - k : Nat) : Int) := by rw [wrap_i64] <;> omega
        simp only [getTV_here, getTV_next, Bool.not_true, cond_false, e, c_l06Step w hw (by omega) r.1 r.2 hr.1 hr.2.1 hr.2.2, Option.bind_some, e2]
        have := rdl_len hr.2.1 hr.1
        exact ih (by omega) _ (rdl_Lt hw hr.2.1 hr.1) (by omega)
theorem c_reduction_3 : ∀ k, k ≤ 3000 → ∀ w : List Int, Lt w → w.length < 10000 → R ii_reduction_3 [tLI w, tI ((3000 - k : Nat) : Int)] = some (match rdc k w with
    | some v => [tI 0, tLI v, tI 0]
    | none => [tI 0, tLI [], tI 3]) := by
  intro k
  induction k with
  | zero =>
    intro _ w hw hl
    apply vi_reduction_3
    by_cases h : 2000 < w.length
    · have h' : (2000 : Int) < w.length := by omega
      simp [bi_reduction_3, rdc, h, h']
    · have h' : ¬ (2000 : Int) < w.length := by omega
      simp only [bi_reduction_3, rdc, h, h', decide_false, cond_false, if_false, c_firstHandle w hw (by omega), Option.bind_some]
      cases fh w <;> simp
  | succ k ih =>
    intro hk w hw hl
    apply vi_reduction_3
    by_cases h : 2000 < w.length
    · have h' : (2000 : Int) < w.length := by omega
      simp [bi_reduction_3, rdc, h, h']
    · have h' : ¬ (2000 : Int) < w.length := by omega
      simp only [bi_reduction_3, rdc, h, h', decide_false, cond_false, if_false, c_firstHandle w hw (by omega), Option.bind_some]
      cases hf : fh w with
      | none => simp
      | some r =>
        have hr := fh_lt hf
        have e : (((3000 - (k + 1) : Nat) : Int) == 3000) = false := by simp; omega
        have e2 : wi64 (((3000 - (k + 1) : Nat) : Int) + 1) = ((3000 - k : Nat) : Int) := by rw [wrap_i64] <;> omega
        simp only [getTV_here, getTV_next, Bool.not_true, cond_false, e, c_reduced w hw (by omega) r.1 r.2 hr.1 hr.2.1, Option.bind_some, e2]
        have := rdl_len hr.2.1 hr.1
        exact ih (by omega) _ (rdl_Lt hw hr.2.1 hr.1) (by omega)
theorem c_l06Reduce (w : List Int) (hw : Lt w) (hl : w.length < 10000) : R is_l06Reduce [tLI w] = some (match rdc 3000 w with
    | some v => [tLI v, tB true]
    | none => [tLI [], tB false]) := by
  apply vs_l06Reduce
  have := c_l06Reduce_3 3000 (Nat.le_refl _) w hw hl
  simp only [Nat.sub_self, Int.natCast_zero] at this
  simp only [bs_l06Reduce, this]
  cases rdc 3000 w <;> simp
theorem c_reduction (w : List Int) (hw : Lt w) (hl : w.length < 10000) : R ii_reduction [tLI w] = some (match rdc 3000 w with
    | some v => [tLI v, tI 0]
    | none => [tLI [], tI 3]) := by
  apply vi_reduction
  have := c_reduction_3 3000 (Nat.le_refl _) w hw hl
  simp only [Nat.sub_self, Int.natCast_zero] at this
  simp only [bi_reduction, this]
  cases rdc 3000 w <;> simp
end Go.Ev.Ytffepojldjodcaa
