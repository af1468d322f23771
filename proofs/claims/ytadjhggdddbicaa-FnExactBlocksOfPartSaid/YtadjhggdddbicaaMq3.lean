/- Labels told by any list of eight: crossings, made parts. -/
import Derived.Test.YtadjhggdddbicaaMp4
set_option linter.unusedVariables false
set_option linter.unusedSimpArgs false
namespace Go.Ev.Ytadjhggdddbicaa
open Go.Ev
theorem L_l07Made_7 (n : Nat) (hn : n ≤ 8) (g : Nat → Nat) (L : List Int) (hL : ∀ x, x < n → List.getD L x 0 = (g x : Int)) (x1 : List Int) (i : Nat) (hi : i < n) : ∀ (c : Nat) (h : Nat → Nat), i + c < n → h i = nx g i (n - (i + c + 1)) (i + c + 1) →
    R is_l07Made_7 [tAi8 L, tA8 x1, tA8 (A8 n h), tI (n : Int), tI (i : Int), tI ((i + c : Nat) : Int)] = some [tI 0, tAi8 L, tA8 x1, tA8 (A8 n (fun x => if x = i then mdf n g i else h x)), tI (n : Int), tI (i : Int)] := by
  intro c
  induction c with
  | zero =>
    intro h _ hh
    apply vs_l07Made_7
    have h1 : ¬ ((i : Int) < ((i + 0 : Nat) : Int)) := by omega
    have e : A8 n h = A8 n (fun x => if x = i then mdf n g i else h x) := by
      apply A8_congr
      intro x _
      by_cases hx : x = i
      · rw [if_pos hx, hx, hh]; rfl
      · rw [if_neg hx]
    simp only [bs_l07Made_7, decide_eq_false h1, cond_false, e]
  | succ c ih =>
    intro h hc hh
    apply vs_l07Made_7
    have h1 : ((i : Int) < ((i + (c + 1) : Nat) : Int)) := by omega
    have u1 : (((i + (c + 1) : Nat) : Int) < 8) := by omega
    have u2 : ((0 : Int) ≤ ((i + (c + 1) : Nat) : Int)) := by omega
    have u3 : ((i : Int) < 8) := by omega
    have u4 : ((0 : Int) ≤ (i : Int)) := by omega
    have w : wi64 (((i + (c + 1) : Nat) : Int) - 1) = ((i + c : Nat) : Int) := by rw [wrap_i64] <;> omega
    have w8 : wu8 ((i + (c + 1) : Nat) : Int) = ((i + (c + 1) : Nat) : Int) := by rw [wrap_u8] <;> omega
    have en : nx g i (n - (i + c + 1)) (i + c + 1) = if g (i + (c + 1)) = g i then i + (c + 1) else nx g i (n - (i + (c + 1) + 1)) (i + (c + 1) + 1) := by
      rw [show n - (i + c + 1) = (n - (i + (c + 1) + 1)) + 1 by omega, nx]
      rfl
    simp only [bs_l07Made_7, decide_eq_true h1, decide_eq_true u1, decide_eq_true u2, decide_eq_true u3, decide_eq_true u4, cond_true, Bool.and_true, Int.toNat_natCast, hL _ hc, hL _ hi, beq_nn, w, w8, A8_set hi hn]
    by_cases hg : g (i + (c + 1)) = g i
    · rw [if_pos hg] at en
      have ih' := ih (fun x => if x = i then i + (c + 1) else h x) (by omega) (by simp only [if_true]; exact en.symm)
      have e : A8 n (fun x => if x = i then mdf n g i else if x = i then i + (c + 1) else h x) = A8 n (fun x => if x = i then mdf n g i else h x) := by
        apply A8_congr
        intro x _
        by_cases hx : x = i
        · rw [if_pos hx, if_pos hx]
        · rw [if_neg hx, if_neg hx, if_neg hx]
      rw [e] at ih'
      rw [decide_eq_true hg, cond_true, ih']
    · rw [if_neg hg] at en
      rw [decide_eq_false hg, cond_false, ih h (by omega) (by rw [hh, en])]
theorem L_l07Made_3 (n : Nat) (hn : n ≤ 8) (g : Nat → Nat) (L : List Int) (hL : ∀ x, x < n → List.getD L x 0 = (g x : Int)) (hg : Can n g) (x1 : List Int) : ∀ i, i ≤ n →
    R is_l07Made_3 [tAi8 L, tA8 x1, tA8 (A8 n (fun x => if x < i then mdf n g x else 0)), tI (n : Int), tI (i : Int)] = some [tI 0, tA8 x1, tA8 (A8 n (mdf n g))] := by
  refine up_loop _ ?_ (fun i hi ih => ?_)
  · apply vs_l07Made_3
    have h1 : ¬ ((n : Int) < (n : Int)) := by omega
    have e : A8 n (fun x => if x < n then mdf n g x else 0) = A8 n (mdf n g) := A8_congr (fun x hx => if_pos hx)
    simp only [bs_l07Made_3, decide_eq_false h1, cond_false, e]
  · apply vs_l07Made_3
    have h1 : ((i : Int) < (n : Int)) := by omega
    have u3 : ((i : Int) < 8) := by omega
    have u4 : ((0 : Int) ≤ (i : Int)) := by omega
    have gi := (hg i hi).1
    have w : wi64 ((n : Int) - 1) = ((i + (n - 1 - i) : Nat) : Int) := by rw [wrap_i64] <;> omega
    have w1 : wi64 ((i : Int) + 1) = ((i + 1 : Nat) : Int) := by rw [wrap_i64] <;> omega
    have w8 : wu8 ((g i : Nat) : Int) = ((g i : Nat) : Int) := by rw [wrap_u8] <;> omega
    have h7 := L_l07Made_7 n hn g L hL x1 i hi (n - 1 - i) (fun x => if x = i then g i else if x < i then mdf n g x else 0) (by omega) (by
      simp only [if_true]
      rw [show n - (i + (n - 1 - i) + 1) = 0 by omega]
      rfl)
    have e : A8 n (fun x => if x = i then mdf n g i else if x = i then g i else if x < i then mdf n g x else 0) = A8 n (fun x => if x < i + 1 then mdf n g x else 0) := by
      apply A8_congr
      intro x _
      by_cases hx : x = i
      · rw [if_pos hx, if_pos (by omega), hx]
      · rw [if_neg hx, if_neg hx]
        by_cases hx' : x < i
        · rw [if_pos hx', if_pos (by omega)]
        · rw [if_neg hx', if_neg (by omega)]
    rw [e] at h7
    simp only [bs_l07Made_3, decide_eq_true h1, decide_eq_true u3, decide_eq_true u4, cond_true, Bool.and_true, Int.toNat_natCast, hL _ hi, w8, A8_set hi hn, w, h7, Option.bind_some, getTV_here, getTV_next, w1, ih]
theorem L_l07Made (n : Nat) (hn : n ≤ 8) (g : Nat → Nat) (L : List Int) (hL : ∀ x, x < n → List.getD L x 0 = (g x : Int)) (hg : Can n g) : R is_l07Made [tAi8 L, tI (n : Int)] = some [tA8 (A8 n (mdf n g))] := by
  apply vs_l07Made
  have h3 := L_l07Made_3 n hn g L hL hg (List.replicate 8 0) 0 (Nat.zero_le _)
  have e : A8 n (fun x => if x < 0 then mdf n g x else 0) = List.replicate 8 0 := by
    rw [A8_zero n]
    apply A8_congr
    intro x _
    rw [if_neg (by omega)]
  rw [e] at h3
  simp only [Int.natCast_zero] at h3
  simp only [bs_l07Made, h3, Option.bind_some, getTV_here, getTV_next]
/-! ### crossings -/
theorem L_l07Crossing_11 (n : Nat) (hn : n ≤ 8) (g : Nat → Nat) (L : List Int) (hL : ∀ x, x < n → List.getD L x 0 = (g x : Int)) (a b c : Nat) (ha : a < n) (hb : b < n) (hc : c < n) : ∀ (d x : Nat), x + d = n →
    R is_l07Crossing_11 [tAi8 L, tI (n : Int), tI (a : Int), tI (b : Int), tI (c : Int), tI (x : Int)] = some (if c5 g a b c d x then [tI 1, tB true] else [tI 0, tAi8 L, tI (n : Int), tI (a : Int), tI (b : Int), tI (c : Int)]) := by
  intro d
  induction d with
  | zero =>
    intro x hx
    apply vs_l07Crossing_11
    have h1 : ¬ ((x : Int) < (n : Int)) := by omega
    simp only [bs_l07Crossing_11, decide_eq_false h1, cond_false, c5]
    rfl
  | succ d ih =>
    intro x hx
    apply vs_l07Crossing_11
    have hxn : x < n := by omega
    have h1 : ((x : Int) < (n : Int)) := by omega
    have w : wi64 ((x : Int) + 1) = ((x + 1 : Nat) : Int) := by rw [wrap_i64] <;> omega
    simp (disch := omega) only [bs_l07Crossing_11, decide_eq_true, cond_true, Bool.and_true, Int.toNat_natCast, hL _ ha, hL _ hb, hL _ hc, hL _ hxn, beq_nn, bne_nn, w, ih (x + 1) (by omega), c5]
    by_cases e1 : g a = g c
    · by_cases e2 : g b = g x
      · by_cases e3 : g a = g b
        · simp only [decide_eq_true e1, decide_eq_true e2, decide_eq_true e3, cond_true, cond_false, Bool.not_true, Bool.and_false, Bool.false_or]
        · simp only [decide_eq_true e1, decide_eq_true e2, decide_eq_false e3, cond_true, cond_false, Bool.not_false, Bool.and_true, Bool.true_or, if_true]
      · simp only [decide_eq_true e1, decide_eq_false e2, cond_true, cond_false, Bool.and_false, Bool.false_and, Bool.false_or]
    · simp only [decide_eq_false e1, cond_false, Bool.false_and, Bool.false_or]
theorem L_l07Crossing_8 (n : Nat) (hn : n ≤ 8) (g : Nat → Nat) (L : List Int) (hL : ∀ x, x < n → List.getD L x 0 = (g x : Int)) (a b : Nat) (ha : a < n) (hb : b < n) : ∀ (d x : Nat), x + d = n →
    R is_l07Crossing_8 [tAi8 L, tI (n : Int), tI (a : Int), tI (b : Int), tI (x : Int)] = some (if c4 n g a b d x then [tI 1, tB true] else [tI 0, tAi8 L, tI (n : Int), tI (a : Int), tI (b : Int)]) := by
  intro d
  induction d with
  | zero =>
    intro x hx
    apply vs_l07Crossing_8
    have h1 : ¬ ((x : Int) < (n : Int)) := by omega
    simp only [bs_l07Crossing_8, decide_eq_false h1, cond_false, c4]
    rfl
  | succ d ih =>
    intro x hx
    apply vs_l07Crossing_8
    have hxn : x < n := by omega
    have h1 : ((x : Int) < (n : Int)) := by omega
    have w : wi64 ((x : Int) + 1) = ((x + 1 : Nat) : Int) := by rw [wrap_i64] <;> omega
    have h5 := L_l07Crossing_11 n hn g L hL a b x ha hb hxn (n - (x + 1)) (x + 1) (by omega)
    simp only [bs_l07Crossing_8, decide_eq_true h1, cond_true, w, h5, c4]
    by_cases hb5 : c5 g a b x (n - (x + 1)) (x + 1) = true
    · simp only [hb5, if_true, Bool.true_or]
      rfl
    · have hb6 : c5 g a b x (n - (x + 1)) (x + 1) = false := by simpa using hb5
      have c0 : ((0 : Int) == 0) = true := rfl
      simp only [hb6, Bool.false_eq_true, if_false, Option.bind_some, getTV_here, getTV_next, c0, cond_true, w, ih (x + 1) (by omega), Bool.false_or]
theorem L_l07Crossing_5 (n : Nat) (hn : n ≤ 8) (g : Nat → Nat) (L : List Int) (hL : ∀ x, x < n → List.getD L x 0 = (g x : Int)) (a : Nat) (ha : a < n) : ∀ (d x : Nat), x + d = n →
    R is_l07Crossing_5 [tAi8 L, tI (n : Int), tI (a : Int), tI (x : Int)] = some (if c3 n g a d x then [tI 1, tB true] else [tI 0, tAi8 L, tI (n : Int), tI (a : Int)]) := by
  intro d
  induction d with
  | zero =>
    intro x hx
    apply vs_l07Crossing_5
    have h1 : ¬ ((x : Int) < (n : Int)) := by omega
    simp only [bs_l07Crossing_5, decide_eq_false h1, cond_false, c3]
    rfl
  | succ d ih =>
    intro x hx
    apply vs_l07Crossing_5
    have hxn : x < n := by omega
    have h1 : ((x : Int) < (n : Int)) := by omega
    have w : wi64 ((x : Int) + 1) = ((x + 1 : Nat) : Int) := by rw [wrap_i64] <;> omega
    have h5 := L_l07Crossing_8 n hn g L hL a x ha hxn (n - (x + 1)) (x + 1) (by omega)
    simp only [bs_l07Crossing_5, decide_eq_true h1, cond_true, w, h5, c3]
    by_cases hb5 : c4 n g a x (n - (x + 1)) (x + 1) = true
    · simp only [hb5, if_true, Bool.true_or]
      rfl
    · have hb6 : c4 n g a x (n - (x + 1)) (x + 1) = false := by simpa using hb5
      have c0 : ((0 : Int) == 0) = true := rfl
      simp only [hb6, Bool.false_eq_true, if_false, Option.bind_some, getTV_here, getTV_next, c0, cond_true, w, ih (x + 1) (by omega), Bool.false_or]
theorem L_l07Crossing_2 (n : Nat) (hn : n ≤ 8) (g : Nat → Nat) (L : List Int) (hL : ∀ x, x < n → List.getD L x 0 = (g x : Int)) : ∀ (d x : Nat), x + d = n →
    R is_l07Crossing_2 [tAi8 L, tI (n : Int), tI (x : Int)] = some (if c2 n g d x then [tI 1, tB true] else [tI 0]) := by
  intro d
  induction d with
  | zero =>
    intro x hx
    apply vs_l07Crossing_2
    have h1 : ¬ ((x : Int) < (n : Int)) := by omega
    simp only [bs_l07Crossing_2, decide_eq_false h1, cond_false, c2]
    rfl
  | succ d ih =>
    intro x hx
    apply vs_l07Crossing_2
    have hxn : x < n := by omega
    have h1 : ((x : Int) < (n : Int)) := by omega
    have w : wi64 ((x : Int) + 1) = ((x + 1 : Nat) : Int) := by rw [wrap_i64] <;> omega
    have h5 := L_l07Crossing_5 n hn g L hL x hxn (n - (x + 1)) (x + 1) (by omega)
    simp only [bs_l07Crossing_2, decide_eq_true h1, cond_true, w, h5, c2]
    by_cases hb5 : c3 n g x (n - (x + 1)) (x + 1) = true
    · simp only [hb5, if_true, Bool.true_or]
      rfl
    · have hb6 : c3 n g x (n - (x + 1)) (x + 1) = false := by simpa using hb5
      have c0 : ((0 : Int) == 0) = true := rfl
      simp only [hb6, Bool.false_eq_true, if_false, Option.bind_some, getTV_here, getTV_next, c0, cond_true, w, ih (x + 1) (by omega), Bool.false_or]
theorem L_l07Crossing (n : Nat) (hn : n ≤ 8) (g : Nat → Nat) (L : List Int) (hL : ∀ x, x < n → List.getD L x 0 = (g x : Int)) : R is_l07Crossing [tAi8 L, tI (n : Int)] = some [tB (crs n g)] := by
  apply vs_l07Crossing
  have h2 := L_l07Crossing_2 n hn g L hL n 0 (by omega)
  simp only [Int.natCast_zero] at h2
  simp only [bs_l07Crossing, h2, Option.bind_some, crs]
  cases c2 n g n 0 <;> rfl
end Go.Ev.Ytadjhggdddbicaa
