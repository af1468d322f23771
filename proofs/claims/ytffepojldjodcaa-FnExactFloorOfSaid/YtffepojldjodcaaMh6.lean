/- The floor of a braid. -/
import Derived.Test.YtffepojldjodcaaMh4
import Derived.Test.YtffepojldjodcaaMb3
set_option linter.unusedVariables false
set_option linter.unusedSimpArgs false
namespace Go.Ev.Ytffepojldjodcaa
open Go.Ev
/-- The letters of the half turn of k + 1 strands. -/
def halfGo : Nat → List Int
  | 0 => []
  | k + 1 => marks 1 (k + 1) ++ halfGo k
theorem marks_Lt : ∀ (n : Nat) (k : Int), 1 ≤ k → k + n ≤ 9 → Lt (marks k n)
  | 0, k, _, _ => fun x hx => by simp [marks] at hx
  | n + 1, k, h1, h2 => fun x hx => by
    simp only [marks, List.mem_cons] at hx
    rcases hx with rfl | hx
    · omega
    · exact marks_Lt n (k + 1) (by omega) (by omega) x hx
theorem halfGo_Lt : ∀ k, k ≤ 8 → Lt (halfGo k)
  | 0, _ => fun x hx => by simp [halfGo] at hx
  | k + 1, h => fun x hx => by
    simp only [halfGo, List.mem_append] at hx
    rcases hx with hx | hx
    · exact marks_Lt (k + 1) 1 (by omega) (by omega) x hx
    · exact halfGo_Lt k (by omega) x hx
theorem halfGo_len : ∀ k, k ≤ 8 → (halfGo k).length ≤ 8 * k
  | 0, _ => by simp [halfGo]
  | k + 1, h => by
    have := halfGo_len k (by omega)
    simp only [halfGo, List.length_append, marks_len]
    omega
theorem c_l01Half_6 (k : Nat) (hk : k ≤ 8) : ∀ m, m ≤ k → ∀ x0 : List Int, x0.length + m < 1000000 → R is_l01Half_6 [tLI x0, tI (k : Int), tI ((k : Int) + 1 - m)] = some [tI 0, tLI (x0 ++ marks ((k : Int) + 1 - m) m), tI (k : Int)] := by
  intro m
  induction m with
  | zero =>
    intro _ x0 _
    apply vs_l01Half_6
    have e : ¬ ((k : Int) + 1 ≤ k) := by omega
    simp only [bs_l01Half_6, Int.natCast_zero, Int.sub_zero, decide_eq_false e, cond_false, marks, List.append_nil]
  | succ m ih =>
    intro hm x0 h0
    apply vs_l01Half_6
    simp (disch := omega) only [bs_l01Half_6, decide_eq_true, cond_true, apOk1, wrap_i64]
    rw [show (k : Int) + 1 - ((m + 1 : Nat) : Int) + 1 = (k : Int) + 1 - (m : Int) by omega, ih (by omega) _ (by simp; omega), marks]
    rw [show (k : Int) + 1 - ((m + 1 : Nat) : Int) + 1 = (k : Int) + 1 - (m : Int) by omega]
    simp only [List.append_assoc, List.cons_append, List.nil_append]
theorem c_l01Half_3 : ∀ k, k ≤ 8 → ∀ x0 : List Int, x0.length + 8 * k < 100000 → R is_l01Half_3 [tLI x0, tI (k : Int)] = some [tI 0, tLI (x0 ++ halfGo k)] := by
  intro k
  induction k with
  | zero =>
    intro _ x0 _
    apply vs_l01Half_3
    simp [bs_l01Half_3, halfGo]
  | succ k ih =>
    intro hk x0 h0
    apply vs_l01Half_3
    have h := c_l01Half_6 (k + 1) hk (k + 1) (Nat.le_refl _) x0 (by omega)
    rw [show ((k + 1 : Nat) : Int) + 1 - ((k + 1 : Nat) : Int) = 1 by omega] at h
    simp (disch := omega) only [bs_l01Half_3, decide_eq_true, cond_true, h, Option.bind_some, getTV_here, getTV_next, wrap_i64]
    rw [show ((k + 1 : Nat) : Int) - 1 = (k : Int) by omega, ih (by omega) _ (by simp [marks_len]; omega)]
    simp only [halfGo, List.append_assoc]
theorem c_l01Half (n : Nat) (h1 : 1 ≤ n) (h2 : n ≤ 8) : R is_l01Half [tI (n : Int)] = some [tLI (halfGo (n - 1))] := by
  apply vs_l01Half
  have h := c_l01Half_3 (n - 1) (by omega) [] (by simp; omega)
  simp (disch := omega) only [bs_l01Half, wrap_i64]
  rw [show (n : Int) - 1 = ((n - 1 : Nat) : Int) by omega, h]
  simp
def repL : Nat → List Int → List Int
  | 0, _ => []
  | k + 1, l => l ++ repL k l
theorem repL_len (k : Nat) (l : List Int) : (repL k l).length = k * l.length := by
  induction k with
  | zero => simp [repL]
  | succ k ih => simp [repL, ih, Nat.succ_mul, Nat.add_comm]
theorem repL_Lt {l : List Int} (h : Lt l) : ∀ k, Lt (repL k l)
  | 0 => fun x hx => by simp [repL] at hx
  | k + 1 => fun x hx => by
    simp only [repL, List.mem_append] at hx
    exact hx.elim (h x) (repL_Lt h k x)
def fullL (n : Nat) : List Int := halfGo (n - 1) ++ halfGo (n - 1)
theorem fullL_Lt {n : Nat} (h : n ≤ 8) : Lt (fullL n) := fun x hx => (List.mem_append.1 hx).elim (halfGo_Lt _ (by omega) x) (halfGo_Lt _ (by omega) x)
theorem fullL_len {n : Nat} (h : n ≤ 8) : (fullL n).length ≤ 112 := by
  have := halfGo_len (n - 1) (by omega)
  simp only [fullL, List.length_append]
  omega
def factL (n : Nat) (m : Int) : List Int := if m < 0 then invL (fullL n) else fullL n
theorem factL_Lt {n : Nat} {m : Int} (h : n ≤ 8) : Lt (factL n m) := by
  unfold factL
  split
  · exact invL_Lt (fullL_Lt h)
  · exact fullL_Lt h
theorem factL_len {n : Nat} {m : Int} (h : n ≤ 8) : (factL n m).length ≤ 112 := by
  have := fullL_len h
  unfold factL
  split
  · rw [invL_len]; exact this
  · exact this
def turnsL (n : Nat) (m : Int) : List Int := repL m.natAbs (factL n m)
theorem turnsL_Lt {n : Nat} {m : Int} (h : n ≤ 8) : Lt (turnsL n m) := repL_Lt (factL_Lt h) _
theorem turnsL_len {n : Nat} {m : Int} (h : n ≤ 8) (h1 : -8 ≤ m) (h2 : m ≤ 8) : (turnsL n m).length ≤ 1000 := by
  have := factL_len (m := m) h
  rw [turnsL, repL_len]
  have h3 : m.natAbs ≤ 8 := by omega
  have := Nat.mul_le_mul h3 this
  omega
theorem c_l06Turns_5 (l : List Int) (hl : l.length ≤ 112) : ∀ k, k ≤ 8 → ∀ x0 : List Int, x0.length + 112 * k < 1000000 → R is_l06Turns_5 [tLI x0, tLI l, tI (k : Int)] = some [tI 0, tLI (x0 ++ repL k l)] := by
  intro k
  induction k with
  | zero =>
    intro _ x0 _
    apply vs_l06Turns_5
    simp [bs_l06Turns_5, repL]
  | succ k ih =>
    intro hk x0 h0
    apply vs_l06Turns_5
    simp (disch := omega) only [bs_l06Turns_5, decide_eq_true, cond_true, apOk2, wrap_i64]
    rw [show ((k + 1 : Nat) : Int) - 1 = (k : Int) by omega, ih (by omega) _ (by simp; omega)]
    simp only [repL, List.append_assoc]
theorem mx_abs (m : Int) (h1 : -1000 ≤ m) (h2 : m ≤ 1000) : mx m (wi64 (0 - m)) = (m.natAbs : Int) := by
  rw [wrap_i64 (by omega) (by omega)]
  simp only [mx]
  split <;> omega
theorem c_l06Turns (n : Nat) (m : Int) (h1 : 1 ≤ n) (h2 : n ≤ 8) (h3 : -8 ≤ m) (h4 : m ≤ 8) : R is_l06Turns [tI (n : Int), tI m] = some [tLI (turnsL n m)] := by
  apply vs_l06Turns
  have hl := halfGo_len (n - 1) (by omega)
  have hf := fullL_len (n := n) (by omega)
  have hft := fullL_Lt (n := n) (by omega)
  have e : halfGo (n - 1) ++ halfGo (n - 1) = fullL n := rfl
  simp only [bs_l06Turns, c_l01Half n h1 h2, Option.bind_some, getTV_here, apOk2 (xs := halfGo (n - 1)) (ys := halfGo (n - 1)) (by omega), cond_true, e, mx_abs m (by omega) (by omega)]
  by_cases h : m < 0
  · have h5 : (invL (fullL n)).length ≤ 112 := by rw [invL_len]; exact hf
    simp only [decide_eq_true h, cond_true, c_l01Inverse (fullL n) hft (by omega), Option.bind_some, getTV_here, c_l06Turns_5 _ h5 m.natAbs (by omega) [] (by simp; omega), getTV_next]
    simp [turnsL, factL, h]
  · simp only [decide_eq_false h, cond_false, c_l06Turns_5 _ hf m.natAbs (by omega) [] (by simp; omega), Option.bind_some, getTV_here, getTV_next]
    simp [turnsL, factL, h]
/-- The floor, looked for in the last k of the steps. -/
def flo (n : Nat) (b : List Int) : Nat → Option (Int × Int)
  | 0 => none
  | k + 1 =>
    if (cmpOf b (turnsL n (7 - (k : Int)))).2 = 0 then
      if (cmpOf b (turnsL n (7 - (k : Int)))).1 < 0 then (if k = 13 then some (0, 3) else some (6 - (k : Int), 0)) else flo n b k
    else some (0, 3)
theorem c_FloorOf_6 (n : Nat) (b : List Int) (h1 : 1 ≤ n) (h2 : n ≤ 8) (hb : Lt b) (hl : b.length ≤ 200) : ∀ k : Nat, k ≤ 14 → R is_FloorOf_6 [tI (n : Int), tLI b, tI (8 - (k : Int))] = some (match flo n b k with
    | some r => [tI 1, tI r.1, tI r.2]
    | none => [tI 0]) := by
  intro k
  induction k with
  | zero =>
    intro _
    apply vs_FloorOf_6
    simp [bs_FloorOf_6, flo]
  | succ k ih =>
    intro hk
    apply vs_FloorOf_6
    rw [show 8 - ((k + 1 : Nat) : Int) = 7 - (k : Int) by omega]
    have ht := turnsL_len (n := n) (m := 7 - (k : Int)) h2 (by omega) (by omega)
    simp (disch := omega) only [bs_FloorOf_6, decide_eq_true, cond_true, c_l06Turns n (7 - (k : Int)) h1 h2 (by omega) (by omega), Option.bind_some, getTV_here, getTV_next, c_l06Compare b (turnsL n (7 - (k : Int))) hb (turnsL_Lt h2) (by omega) (by omega), wrap_i64, flo]
    have hc := cmpOf_code b (turnsL n (7 - (k : Int)))
    generalize cmpOf b (turnsL n (7 - (k : Int))) = c at hc ⊢
    have e5 : 7 - (k : Int) - 1 = 6 - (k : Int) := by omega
    have e6 : 7 - (k : Int) + 1 = 8 - (k : Int) := by omega
    rw [e5, e6, ih (by omega)]
    rcases hc with e1 | rfl
    · by_cases e2 : c.1 < 0
      · by_cases e3 : k = 13
        · subst e3
          simp [e1, e2]
        · have e4 : ((7 - (k : Int)) == -6) = false := by simp; omega
          simp [e1, e2, e3, e4]
      · simp [e1, e2]
    · simp
def vFloorOf (a : Int × List Int) : Int × Int := if isBr a then (if a.1 < 2 then (0, 2) else (match flo a.1.toNat a.2 14 with
  | some r => r
  | none => (0, 3))) else (0, 1)
theorem c_FloorOf_s (a : Int × List Int) (hl : a.2.length < 1000000000) (hw : I64 a.2) : R is_FloorOf [tPILI a] = some [tI (vFloorOf a).1, tI (vFloorOf a).2] := by
  apply vs_FloorOf
  simp only [bs_FloorOf, c_l01Is a hl hw, Option.bind_some, getTV_here, vFloorOf]
  cases h : isBr a with
  | false => simp
  | true =>
    have hk := isBr_ok h
    by_cases h2 : a.1 < 2
    · simp [h2]
    · have e : a.1 = (a.1.toNat : Int) := by omega
      have hf := c_FloorOf_6 a.1.toNat a.2 (by omega) (by omega) (isBr_Lt h) (isBr_len h) 14 (by omega)
      rw [← e] at hf
      rw [show (8 - ((14 : Nat) : Int)) = -6 by decide] at hf
      simp only [Bool.not_true, cond_false, decide_eq_false h2, hf, Option.bind_some, if_neg h2, if_true]
      cases flo a.1.toNat a.2 14 <;> simp
theorem c_HalfTurnBraid_8 (a c : Int) (u : List Int) (k : Nat) (hk : k ≤ 8) : ∀ m, m ≤ k → ∀ x0 : List Int, x0.length + m < 1000000 →
    R ii_HalfTurnBraid_8 [tI a, tLI u, tI c, tLI x0, tI (k : Int), tI ((k : Int) + 1 - m)] = some [tI 0, tI a, tLI u, tI c, tLI (x0 ++ marks ((k : Int) + 1 - m) m), tI (k : Int)] := by
  intro m
  induction m with
  | zero =>
    intro _ x0 _
    apply vi_HalfTurnBraid_8
    have e : ¬ ((k : Int) + 1 ≤ k) := by omega
    simp only [bi_HalfTurnBraid_8, Int.natCast_zero, Int.sub_zero, decide_eq_false e, cond_false, marks, List.append_nil]
  | succ m ih =>
    intro hm x0 h0
    apply vi_HalfTurnBraid_8
    simp (disch := omega) only [bi_HalfTurnBraid_8, decide_eq_true, cond_true, apOk1, wrap_i64]
    rw [show (k : Int) + 1 - ((m + 1 : Nat) : Int) + 1 = (k : Int) + 1 - (m : Int) by omega, ih (by omega) _ (by simp; omega), marks]
    rw [show (k : Int) + 1 - ((m + 1 : Nat) : Int) + 1 = (k : Int) + 1 - (m : Int) by omega]
    simp only [List.append_assoc, List.cons_append, List.nil_append]
theorem c_HalfTurnBraid_5 (a c : Int) (u : List Int) : ∀ k, k ≤ 8 → ∀ x0 : List Int, x0.length + 8 * k < 100000 → R ii_HalfTurnBraid_5 [tI a, tLI u, tI c, tLI x0, tI (k : Int)] = some [tI 0, tI a, tLI u, tI c, tLI (x0 ++ halfGo k)] := by
  intro k
  induction k with
  | zero =>
    intro _ x0 _
    apply vi_HalfTurnBraid_5
    simp [bi_HalfTurnBraid_5, halfGo]
  | succ k ih =>
    intro hk x0 h0
    apply vi_HalfTurnBraid_5
    have h := c_HalfTurnBraid_8 a c u (k + 1) hk (k + 1) (Nat.le_refl _) x0 (by omega)
    rw [show ((k + 1 : Nat) : Int) + 1 - ((k + 1 : Nat) : Int) = 1 by omega] at h
    simp (disch := omega) only [bi_HalfTurnBraid_5, decide_eq_true, cond_true, h, Option.bind_some, getTV_here, getTV_next, wrap_i64]
    rw [show ((k + 1 : Nat) : Int) - 1 = (k : Int) by omega, ih (by omega) _ (by simp [marks_len]; omega)]
    simp only [halfGo, List.append_assoc]
theorem c_FullTurnBraid (n : Nat) (h1 : 1 ≤ n) (h2 : n ≤ 8) : R ii_FullTurnBraid [tI (n : Int)] = some [tPILI ((n : Int), fullL n), tI 0] := by
  have hh : R ii_HalfTurnBraid [tI (n : Int)] = some [tPILI ((n : Int), halfGo (n - 1)), tI 0] := by
    apply vi_HalfTurnBraid
    have h := c_HalfTurnBraid_5 0 (n : Int) [] (n - 1) (by omega) [] (by simp; omega)
    have e1 : (decide (1 ≤ (n : Int)) && decide ((n : Int) ≤ 8)) = true := by simp; omega
    simp (disch := omega) only [bi_HalfTurnBraid, c_isCount, Option.bind_some, getTV_here, e1, Bool.not_true, cond_false, wrap_i64]
    rw [show (n : Int) - 1 = ((n - 1 : Nat) : Int) by omega, h]
    simp
  apply vi_FullTurnBraid
  have hl := halfGo_len (n - 1) (by omega)
  simp [bi_FullTurnBraid, hh, c_joined ((n : Int), halfGo (n - 1)) ((n : Int), halfGo (n - 1)) (by simp; omega) (by simp; omega), fullL]
theorem c_FloorOf_13 (n c d : Int) (b f l : List Int) (m : Int) (hl : l.length ≤ 112) (k : Nat) (hk : k ≤ 8) : ∀ j, j ≤ k → ∀ x0 : List Int, x0.length ≤ 112 * j →
    R ii_FloorOf_13 [tI n, tLI b, tI c, tLI f, tI d, tLI l, tI n, tLI x0, tI m, tI (k : Int), tI (j : Int)] = some [tI 0, tI n, tLI b, tI c, tLI f, tI n, tLI (x0 ++ repL (k - j) l), tI m] := by
  refine up_loop _ (fun x0 h0 => ?_) (fun j hj ih x0 h0 => ?_)
  · apply vi_FloorOf_13
    simp [bi_FloorOf_13, repL]
  · apply vi_FloorOf_13
    simp (disch := omega) only [bi_FloorOf_13, decide_eq_true, cond_true, c_joined (n, x0) (d, l) (by simp; omega) (by simp; omega), Option.bind_some, getTV_here, wrap_i64]
    rw [show (j : Int) + 1 = ((j + 1 : Nat) : Int) by omega, ih _ (by simp; omega), show k - j = (k - (j + 1)) + 1 by omega]
    simp only [repL, List.append_assoc]
theorem c_FloorOf_7 (n : Nat) (b : List Int) (h1 : 1 ≤ n) (h2 : n ≤ 8) (hb : Lt b) (hl : b.length ≤ 200) : ∀ k : Nat, k ≤ 14 → R ii_FloorOf_7 [tI (n : Int), tLI b, tI (n : Int), tLI (fullL n), tI (8 - (k : Int))] = some (match flo n b k with
    | some r => [tI 1, tI r.1, tI r.2]
    | none => [tI 0]) := by
  have hf := fullL_len (n := n) (by omega)
  have hft := fullL_Lt (n := n) (by omega)
  intro k
  induction k with
  | zero =>
    intro _
    apply vi_FloorOf_7
    simp [bi_FloorOf_7, flo]
  | succ k ih =>
    intro hk
    apply vi_FloorOf_7
    rw [show 8 - ((k + 1 : Nat) : Int) = 7 - (k : Int) by omega]
    have ht := turnsL_len (n := n) (m := 7 - (k : Int)) h2 (by omega) (by omega)
    have hcmp := c_compare ((n : Int), b) ((n : Int), turnsL n (7 - (k : Int))) hb (turnsL_Lt h2) (by simp; omega) (by simp; omega)
    simp (disch := omega) only [bi_FloorOf_7, decide_eq_true, cond_true, c_size, Option.bind_some, getTV_here, getTV_next, wrap_i64, flo]
    by_cases h : 7 - (k : Int) < 0
    · have hr : Lt (fullL n).reverse := hft.sub fun x hx => by simpa using hx
      have e0 : ((fullL n).reverse.map fun x => -x) = factL n (7 - (k : Int)) := by rw [factL, if_pos h]; rfl
      have h13 := c_FloorOf_13 (n : Int) (n : Int) (n : Int) b (fullL n) (factL n (7 - (k : Int))) (7 - (k : Int)) (factL_len h2) (7 - (k : Int)).natAbs (by omega) 0 (by omega) [] (by simp)
      simp only [Int.natCast_zero, Nat.sub_zero, List.nil_append] at h13
      rw [← turnsL] at h13
      simp only [decide_eq_true h, cond_true, c_reversed ((n : Int), fullL n) (by simp; omega), Option.bind_some, getTV_here, getTV_next, c_letterBy ((n : Int), (fullL n).reverse) hr (by simp; omega), e0, h13, hcmp]
      have hc := cmpOf_code b (turnsL n (7 - (k : Int)))
      generalize cmpOf b (turnsL n (7 - (k : Int))) = c at hc ⊢
      have e5 : wi64 (7 - (k : Int) - 1) = 6 - (k : Int) := by rw [wrap_i64] <;> omega
      have e6 : wi64 (7 - (k : Int) + 1) = 8 - (k : Int) := by rw [wrap_i64] <;> omega
      rw [e5, e6, ih (by omega)]
      rcases hc with e1 | rfl
      · by_cases e2 : c.1 < 0
        · by_cases e3 : k = 13
          · subst e3
            simp [e1, e2]
          · have e4 : ((7 - (k : Int)) == -6) = false := by simp; omega
            simp [e1, e2, e3, e4]
        · simp [e1, e2]
      · simp
    · have e0 : fullL n = factL n (7 - (k : Int)) := by rw [factL, if_neg h]
      have h13 := c_FloorOf_13 (n : Int) (n : Int) (n : Int) b (fullL n) (factL n (7 - (k : Int))) (7 - (k : Int)) (factL_len h2) (7 - (k : Int)).natAbs (by omega) 0 (by omega) [] (by simp)
      simp only [Int.natCast_zero, Nat.sub_zero, List.nil_append] at h13
      rw [← turnsL, ← e0] at h13
      simp only [decide_eq_false h, cond_false, Option.bind_some, getTV_here, getTV_next, h13, hcmp]
      have hc := cmpOf_code b (turnsL n (7 - (k : Int)))
      generalize cmpOf b (turnsL n (7 - (k : Int))) = c at hc ⊢
      have e5 : wi64 (7 - (k : Int) - 1) = 6 - (k : Int) := by rw [wrap_i64] <;> omega
      have e6 : wi64 (7 - (k : Int) + 1) = 8 - (k : Int) := by rw [wrap_i64] <;> omega
      rw [e5, e6, ih (by omega)]
      rcases hc with e1 | rfl
      · by_cases e2 : c.1 < 0
        · by_cases e3 : k = 13
          · subst e3
            simp [e1, e2]
          · have e4 : ((7 - (k : Int)) == -6) = false := by simp; omega
            simp [e1, e2, e3, e4]
        · simp [e1, e2]
      · simp
theorem c_FloorOf_i (a : Int × List Int) (hl : a.2.length < 1000000000) : R ii_FloorOf [tPILI a] = some [tI (vFloorOf a).1, tI (vFloorOf a).2] := by
  apply vi_FloorOf
  simp only [bi_FloorOf, c_IsBraid a hl, Option.bind_some, getTV_here, vFloorOf]
  cases h : isBr a with
  | false => simp
  | true =>
    have hk := isBr_ok h
    by_cases h2 : a.1 < 2
    · simp [h2]
    · have e : a.1 = (a.1.toNat : Int) := by omega
      have hf := c_FloorOf_7 a.1.toNat a.2 (by omega) (by omega) (isBr_Lt h) (isBr_len h) 14 (by omega)
      have hg := c_FullTurnBraid a.1.toNat (by omega) (by omega)
      rw [← e] at hf hg
      rw [show (8 - ((14 : Nat) : Int)) = -6 by decide] at hf
      simp only [Bool.not_true, cond_false, decide_eq_false h2, hg, hf, Option.bind_some, getTV_here, if_neg h2, if_true]
      cases flo a.1.toNat a.2 14 <;> simp
theorem law_FnExactFloorOf (a : Int × List Int) (h : Fit (.pair (.int .i64) (.slice (.int .i64))) a) : R iw_FnExactFloorOf [tPILI a] = some [tB true] := by
  obtain ⟨hl, hw⟩ := fit_braid h
  apply vw_FnExactFloorOf
  by_cases hb : (1048576 : Int) < a.2.length
  · simp [bw_FnExactFloorOf, c_szBraid a 1048576 hl (by omega) (by omega), hb]
  · have hs : a.2.length < 1000000000 := by omega
    have e : ¬ (1048576 - (a.2.length : Int) < 0) := by omega
    simp [bw_FnExactFloorOf, c_szBraid a 1048576 hl (by omega) (by omega), hb, e, c_toBraid a hs, c_FloorOf_s a hs hw, c_FloorOf_i a hs, c_eqBraid a _ hs]
end Go.Ev.Ytffepojldjodcaa
