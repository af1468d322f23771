/- The word of a normal form: the walk. -/
import Derived.Test.YtpfpjhfimmmkmaaMw1
set_option linter.unusedVariables false
set_option linter.unusedSimpArgs false
namespace Go.Ev.Ytpfpjhfimmmkmaa
open Go.Ev Go.Gar
theorem c_l03Word_3 (x0 p : Int) (L : List (List Int)) (w : List Int) (hw : w.length ≤ 100) (hp : p ≤ 1000) : ∀ (d : Nat) (i : Int) (out : List Int), 0 ≤ i → i + d = p ∨ (d = 0 ∧ p ≤ i) → i ≤ 1000 → out.length + 100 * d ≤ 1000000 →
    R is_l03Word_3 [tI x0, tI p, tLA8 L, tLI w, tLI out, tI i] = some [tI 0, tI x0, tI p, tLA8 L, tLI w, tLI (out ++ times w d)] := by
  intro d
  induction d with
  | zero =>
    intro i out h0 h _ _
    apply vs_l03Word_3
    have p1 : decide (i < p) = false := decide_eq_false (by omega)
    simp only [bs_l03Word_3, p1, cond_false, times, List.append_nil]
  | succ d ih =>
    intro i out h0 h hi ho
    apply vs_l03Word_3
    have p1 : decide (i < p) = true := decide_eq_true (by omega)
    have ap : apOk out w = true := apOk2 (by omega)
    have w1 : wi64 (i + 1) = i + 1 := by rw [wrap_i64] <;> omega
    simp only [bs_l03Word_3, p1, cond_true, ap, w1, times]
    rw [ih (i + 1) (out ++ w) (by omega) (by omega) (by omega) (by simp; omega), List.append_assoc]
theorem neg_take {w : List Int} {k : Nat} (h : k < w.length) : ((w.take (k + 1)).reverse.map fun x => -x) = -w[k] :: ((w.take k).reverse.map fun x => -x) := by
  rw [take_snoc h, List.reverse_append]
  rfl
theorem c_l03Word_10 (x0 p x5 : Int) (L : List (List Int)) (w : List Int) (hw : w.length ≤ 100) (hr : ∀ x ∈ w, -100 ≤ x ∧ x ≤ 100) : ∀ (k : Nat), k ≤ w.length → ∀ (out : List Int), out.length + k ≤ 1000000 →
    R is_l03Word_10 [tI x0, tI p, tLA8 L, tLI w, tLI out, tI x5, tI ((k : Int) - 1)] = some [tI 0, tI x0, tI p, tLA8 L, tLI w, tLI (out ++ (w.take k).reverse.map fun x => -x), tI x5] := by
  intro k
  induction k with
  | zero =>
    intro _ out _
    apply vs_l03Word_10
    simp [bs_l03Word_10]
  | succ k ih =>
    intro hk out ho
    apply vs_l03Word_10
    have p1 : decide (0 ≤ ((k + 1 : Nat) : Int) - 1) = true := decide_eq_true (by omega)
    have p2 : decide (((k + 1 : Nat) : Int) - 1 < ((w.length : Nat) : Int)) = true := decide_eq_true (by omega)
    have e : (((k + 1 : Nat) : Int) - 1).toNat = k := by omega
    have hx := hr _ (List.getElem_mem (show k < w.length by omega))
    have g : List.getD w k 0 = w[k] := getD_at (by omega)
    have w1 : wi64 (0 - w[k]) = -w[k] := by rw [wrap_i64] <;> omega
    have w2 : wi64 (((k + 1 : Nat) : Int) - 1 - 1) = (k : Int) - 1 := by rw [wrap_i64] <;> omega
    have ap : apOk out [-w[k]] = true := apOk1 (by omega)
    simp only [bs_l03Word_10, p1, p2, cond_true, Bool.and_true, e, g, w1, w2, ap]
    rw [ih (by omega) _ (by simp; omega), neg_take (show k < w.length by omega), List.append_assoc]
    rfl
theorem c_l03Word_7 (x0 p : Int) (L : List (List Int)) (w : List Int) (hw : w.length ≤ 100) (hr : ∀ x ∈ w, -100 ≤ x ∧ x ≤ 100) : ∀ (d : Nat) (i : Int) (out : List Int), i + d = 0 ∨ (d = 0 ∧ 0 ≤ i) → -1000 ≤ i → i ≤ 1000 → out.length + 100 * d ≤ 1000000 →
    R is_l03Word_7 [tI x0, tI p, tLA8 L, tLI w, tLI out, tI i] = some [tI 0, tI x0, tI p, tLA8 L, tLI (out ++ times (invW w) d)] := by
  intro d
  induction d with
  | zero =>
    intro i out h _ _ _
    apply vs_l03Word_7
    have p1 : decide (i < 0) = false := decide_eq_false (by omega)
    simp only [bs_l03Word_7, p1, cond_false, times, List.append_nil]
  | succ d ih =>
    intro i out h h1 h2 ho
    apply vs_l03Word_7
    have p1 : decide (i < 0) = true := decide_eq_true (by omega)
    have w1 : wi64 (i + 1) = i + 1 := by rw [wrap_i64] <;> omega
    have w2 : wi64 (((w.length : Nat) : Int) - 1) = ((w.length : Nat) : Int) - 1 := by rw [wrap_i64] <;> omega
    have c := c_l03Word_10 x0 p i L w hw hr w.length (Nat.le_refl _) out (by omega)
    rw [List.take_length, show (w.reverse.map fun x => -x) = invW w from rfl] at c
    simp only [bs_l03Word_7, p1, cond_true, w2, c, Option.bind_some, getTV_here, getTV_next, w1, times]
    rw [ih (i + 1) (out ++ invW w) (by omega) (by omega) (by omega) (by simp [invW]; omega), List.append_assoc]
theorem c_l03Word_14 (n : Nat) (hn : n ≤ 8) (p : Int) (A : List (Pm n)) (hA : A.length ≤ 1000) : ∀ (d i : Nat) (out : List Int), i + d = A.length → out.length + 100 * d ≤ 1000000 →
    R is_l03Word_14 [tI (n : Int), tI p, tLA8 (sL A), tLI out, tI (i : Int)] = some [tI 0, tLI (out ++ (A.drop i).flatMap wL)] := by
  intro d
  induction d with
  | zero =>
    intro i out h _
    apply vs_l03Word_14
    have p1 : decide ((i : Int) < ((A.length : Nat) : Int)) = false := decide_eq_false (by omega)
    rw [List.drop_eq_nil_of_le (by omega)]
    simp only [bs_l03Word_14, sL_len, p1, cond_false, List.flatMap_nil, List.append_nil]
  | succ d ih =>
    intro i out h ho
    apply vs_l03Word_14
    have p1 : decide ((i : Int) < ((A.length : Nat) : Int)) = true := decide_eq_true (by omega)
    have p2 : decide (0 ≤ (i : Int)) = true := decide_eq_true (by omega)
    have w1 : wi64 ((i : Int) + 1) = ((i + 1 : Nat) : Int) := by rw [wrap_i64] <;> omega
    have hl := wL_len hn (A[i]'(by omega))
    have ap : apOk out (wL (A[i]'(by omega))) = true := apOk2 (by omega)
    simp only [bs_l03Word_14, sL_len, p1, p2, cond_true, Bool.and_true, Int.toNat_natCast, sL_get (show i < A.length by omega), c_l02Word n hn, Option.bind_some, getTV_here, ap, w1]
    have da : A.drop i = A[i]'(by omega) :: A.drop (i + 1) := List.drop_eq_getElem_cons _
    rw [ih (i + 1) _ (by omega) (by simp only [List.length_append]; omega), da, List.flatMap_cons, List.append_assoc]
theorem wL_rng {n : Nat} (hn : n ≤ 8) (s : Pm n) : ∀ x ∈ wL s, -100 ≤ x ∧ x ≤ 100 := fun x hx => by
  have := wL_Lw s x hx
  omega
theorem wordN_split {n : Nat} (v : Nm n) : wordN v = times (wL (Pm.half n)) v.1.toNat ++ (times (invW (wL (Pm.half n))) (-v.1).toNat ++ v.2.flatMap wL) := by
  unfold wordN
  by_cases h : v.1 < 0
  · rw [if_pos h, show v.1.toNat = 0 by omega, show (-v.1).toNat = v.1.natAbs by omega]
    rfl
  · rw [if_neg h, show (-v.1).toNat = 0 by omega, show v.1.toNat = v.1.natAbs by omega]
    rfl
theorem flat_len {n : Nat} (hn : n ≤ 8) : ∀ (A : List (Pm n)), (A.flatMap wL).length ≤ 65 * A.length
  | [] => by simp
  | a :: A => by
    have := flat_len hn A
    have := wL_len hn a
    simp only [List.flatMap_cons, List.length_append, List.length_cons]
    omega
theorem invW_len (w : List Int) : (invW w).length = w.length := by simp [invW]
theorem times_le {w : List Int} (h : w.length ≤ 65) (k : Nat) : (times w k).length ≤ 65 * k := by
  rw [times_len, Nat.mul_comm]
  exact Nat.mul_le_mul_right _ h
theorem c_l03Word (n : Nat) (hn : n ≤ 8) (v : Nm n) (hv : OkN v 200) : R is_l03Word [tPIPILA8 (enc v)] = some [tLI (wordN v)] := by
  have h1 := hv.lo
  have h2 := hv.hi
  have h3 := hv.len
  have hl := wL_len hn (Pm.half n)
  have hr := wL_rng hn (Pm.half n)
  have t1 := times_le hl v.1.toNat
  have t2 := times_le (w := invW (wL (Pm.half n))) (by rw [invW_len]; exact hl) (-v.1).toNat
  apply vs_l03Word
  have c1 := c_l03Word_3 (n : Int) v.1 (sL v.2) (wL (Pm.half n)) (by omega) (by omega) v.1.toNat 0 [] (by omega) (by omega) (by omega) (by simp only [List.length_nil]; omega)
  have c2 := c_l03Word_7 (n : Int) v.1 (sL v.2) (wL (Pm.half n)) (by omega) hr (-v.1).toNat v.1 (times (wL (Pm.half n)) v.1.toNat) (by omega) (by omega) (by omega) (by omega)
  have c3 := c_l03Word_14 n hn v.1 v.2 (by omega) v.2.length 0 (times (wL (Pm.half n)) v.1.toNat ++ times (invW (wL (Pm.half n))) (-v.1).toNat) (by omega) (by simp only [List.length_append]; omega)
  simp only [List.nil_append] at c1
  simp only [Int.natCast_zero, List.drop_zero] at c3
  simp only [bs_l03Word, enc, c_l02Half n hn, c_l02Word n hn, c1, c2, c3, Option.bind_some, getTV_here, getTV_next]
  rw [wordN_split, List.append_assoc]
theorem c_WordOfNormal_8 (x0 p : Int) (L : List (List Int)) (w : List Int) (hw : w.length ≤ 100) (m : Nat) (hm : m ≤ 1000) : ∀ (d i : Nat) (out : List Int), i + d = m → out.length + 100 * d ≤ 1000000 →
    R ii_WordOfNormal_8 [tI x0, tI p, tLA8 L, tLI w, tLI out, tI (m : Int), tI (i : Int)] = some [tI 0, tI x0, tI p, tLA8 L, tLI (out ++ times w d)] := by
  intro d
  induction d with
  | zero =>
    intro i out h _
    apply vi_WordOfNormal_8
    have p1 : decide ((i : Int) < (m : Int)) = false := decide_eq_false (by omega)
    simp only [bi_WordOfNormal_8, p1, cond_false, times, List.append_nil]
  | succ d ih =>
    intro i out h ho
    apply vi_WordOfNormal_8
    have p1 : decide ((i : Int) < (m : Int)) = true := decide_eq_true (by omega)
    have ap : apOk out w = true := apOk2 (by omega)
    have w1 : wi64 ((i : Int) + 1) = ((i + 1 : Nat) : Int) := by rw [wrap_i64] <;> omega
    simp only [bi_WordOfNormal_8, p1, cond_true, ap, w1, times]
    rw [ih (i + 1) (out ++ w) (by omega) (by simp; omega), List.append_assoc]
theorem c_WordOfNormal_12 (n : Nat) (hn : n ≤ 8) (p : Int) (A : List (Pm n)) (hA : A.length ≤ 1000) : ∀ (d i : Nat) (out : List Int), i + d = A.length → out.length + 100 * d ≤ 1000000 →
    R ii_WordOfNormal_12 [tI (n : Int), tI p, tLA8 (sL A), tLI out, tI (A.length : Int), tI (i : Int)] = some [tI 0, tLI (out ++ (A.drop i).flatMap wL)] := by
  intro d
  induction d with
  | zero =>
    intro i out h _
    apply vi_WordOfNormal_12
    have p1 : decide ((i : Int) < ((A.length : Nat) : Int)) = false := decide_eq_false (by omega)
    rw [List.drop_eq_nil_of_le (by omega)]
    simp only [bi_WordOfNormal_12, p1, cond_false, List.flatMap_nil, List.append_nil]
  | succ d ih =>
    intro i out h ho
    apply vi_WordOfNormal_12
    have p1 : decide ((i : Int) < ((A.length : Nat) : Int)) = true := decide_eq_true (by omega)
    have p2 : decide (0 ≤ (i : Int)) = true := decide_eq_true (by omega)
    have w1 : wi64 ((i : Int) + 1) = ((i + 1 : Nat) : Int) := by rw [wrap_i64] <;> omega
    have hl := wL_len hn (A[i]'(by omega))
    have ap : apOk out (wL (A[i]'(by omega))) = true := apOk2 (by omega)
    simp only [bi_WordOfNormal_12, sL_len, p1, p2, cond_true, Bool.and_true, Int.toNat_natCast, sL_get (show i < A.length by omega), c_wordOf n hn, Option.bind_some, getTV_here, ap, w1]
    have da : A.drop i = A[i]'(by omega) :: A.drop (i + 1) := List.drop_eq_getElem_cons _
    rw [ih (i + 1) _ (by omega) (by simp only [List.length_append]; omega), da, List.flatMap_cons, List.append_assoc]
theorem c_letterBy_3 (x0 n : Int) (x1 w : List Int) (hw : w.length ≤ 100) (hr : ∀ x ∈ w, -100 ≤ x ∧ x ≤ 100) : ∀ (d i : Nat) (out : List Int), i + d = w.length → out.length + d ≤ 1000 →
    R ii_letterBy_3 [tI x0, tLI x1, tI n, tLI out, tLI w, tI (w.length : Int), tI (i : Int)] = some [tI 0, tI x0, tLI x1, tI n, tLI (out ++ (w.drop i).map fun x => -x)] := by
  intro d
  induction d with
  | zero =>
    intro i out h _
    apply vi_letterBy_3
    have p1 : decide ((i : Int) < ((w.length : Nat) : Int)) = false := decide_eq_false (by omega)
    rw [List.drop_eq_nil_of_le (by omega)]
    simp only [bi_letterBy_3, p1, cond_false, List.map_nil, List.append_nil]
  | succ d ih =>
    intro i out h ho
    apply vi_letterBy_3
    have p1 : decide ((i : Int) < ((w.length : Nat) : Int)) = true := decide_eq_true (by omega)
    have p2 : decide (0 ≤ (i : Int)) = true := decide_eq_true (by omega)
    have w1 : wi64 ((i : Int) + 1) = ((i + 1 : Nat) : Int) := by rw [wrap_i64] <;> omega
    have hx := hr _ (List.getElem_mem (show i < w.length by omega))
    have g : List.getD w i 0 = w[i]'(by omega) := getD_at (by omega)
    have o : R ii_opposite [tI (w[i]'(by omega))] = some [tI (-(w[i]'(by omega)))] := by
      apply vi_opposite
      have w0 : wi64 (0 - w[i]'(by omega)) = -w[i]'(by omega) := by rw [wrap_i64] <;> omega
      simp only [bi_opposite, w0]
    have ap : apOk out [-(w[i]'(by omega))] = true := apOk1 (by omega)
    simp only [bi_letterBy_3, p1, p2, cond_true, Bool.and_true, Int.toNat_natCast, g, o, Option.bind_some, getTV_here, ap, w1]
    have da : w.drop i = w[i]'(by omega) :: w.drop (i + 1) := List.drop_eq_getElem_cons _
    rw [ih (i + 1) _ (by omega) (by simp only [List.length_append, List.length_cons, List.length_nil]; omega), da, List.map_cons, List.append_assoc]
    rfl
theorem c_letterBy (n : Int) (w : List Int) (hw : w.length ≤ 100) (hr : ∀ x ∈ w, -100 ≤ x ∧ x ≤ 100) : R ii_letterBy [tPILI (n, w)] = some [tPILI (n, w.map fun x => -x)] := by
  apply vi_letterBy
  have := c_letterBy_3 0 n [] w hw hr w.length 0 [] (by omega) (by simp; omega)
  simp only [Int.natCast_zero, List.drop_zero, List.nil_append] at this
  simp only [bi_letterBy, this, Option.bind_some, getTV_here, getTV_next]
theorem c_reversed (n : Int) (w : List Int) (hw : w.length ≤ 100) : R ii_reversed [tPILI (n, w)] = some [tPILI (n, w.reverse)] := by
  apply vi_reversed
  have w1 : wi64 (((w.length : Nat) : Int) - 1) = ((w.length : Nat) : Int) - 1 := by rw [wrap_i64] <;> omega
  have h3 := cr_reversed_3 n 0 n [] w (by omega) w.length (Nat.le_refl _) [] (by simp; omega)
  simp only [bi_reversed, w1, h3, Option.bind_some, getTV_here, getTV_next, List.nil_append, List.take_length]
theorem c_size (p : Int) (h1 : -1000 ≤ p) (h2 : p ≤ 1000) : R ii_size [tI p] = some [tI ((p.natAbs : Nat) : Int)] := by
  apply vi_size
  have w0 : wi64 (0 - p) = -p := by rw [wrap_i64] <;> omega
  have : mx p (-p) = ((p.natAbs : Nat) : Int) := by unfold mx; split <;> omega
  simp only [bi_size, w0, this]
noncomputable def vWord (a : Int × Int × List (List Int)) (w : List Int) : List Int × Int := if (200 : Int) < w.length then ([], 3) else (w, 0)
theorem c_WordOfNormal_bad {a : Int × Int × List (List Int)} (ha : Rows8 a.2.2) (h : isNm a = false) : R is_WordOfNormal [tPIPILA8 a] = some [tLI [], tI 1] ∧ R ii_WordOfNormal [tPIPILA8 a] = some [tLI [], tI 1] := by
  constructor
  · apply vs_WordOfNormal
    simp [bs_WordOfNormal, c_l03Is a ha, h]
  · apply vi_WordOfNormal
    simp [bi_WordOfNormal, c_IsNormal a ha, h]
def lim3 (w : List Int) : List Int × Int := if 200 < w.length then ([], 3) else (w, 0)
theorem c_WordOfNormal_s {n : Nat} (hn1 : 1 ≤ n) (hn : n ≤ 8) {v : Nm n} (hv : OkN v 200) : R is_WordOfNormal [tPIPILA8 (enc v)] = some [tLI (lim3 (wordN v)).1, tI (lim3 (wordN v)).2] := by
  apply vs_WordOfNormal
  have hN := isNm_enc hn1 hn hv
  have c := c_l03Word n hn v hv
  simp only [enc] at hN c
  simp only [bs_WordOfNormal, enc, c_l03Is ((n : Int), v.1, sL v.2) (sL_rows hn _), hN, c, Option.bind_some, getTV_here, Bool.not_true, cond_false, lim3]
  by_cases h : 200 < (wordN v).length
  · have p1 : decide ((200 : Int) < (((wordN v).length : Nat) : Int)) = true := decide_eq_true (by omega)
    simp only [p1, cond_true, if_pos h]
  · have p1 : decide ((200 : Int) < (((wordN v).length : Nat) : Int)) = false := decide_eq_false (by omega)
    simp only [p1, cond_false, if_neg h]
theorem c_WordOfNormal_i {n : Nat} (hn1 : 1 ≤ n) (hn : n ≤ 8) {v : Nm n} (hv : OkN v 200) : R ii_WordOfNormal [tPIPILA8 (enc v)] = some [tLI (lim3 (wordN v)).1, tI (lim3 (wordN v)).2] := by
  show R ii_WordOfNormal [tPIPILA8 ((n : Int), v.1, sL v.2)] = _
  apply vi_WordOfNormal
  have hN := isNm_enc hn1 hn hv
  simp only [enc] at hN
  have h1 := hv.lo
  have h2 := hv.hi
  have h3 := hv.len
  have hl := wL_len hn (Pm.half n)
  have hr := wL_rng hn (Pm.half n)
  have fin : ∀ w : List Int, (bif decide ((200 : Int) < ((w.length : Nat) : Int)) then some [tLI [], tI 3] else some [tLI w, tI 0]) = some [tLI (lim3 w).1, tI (lim3 w).2] := by
    intro w
    unfold lim3
    by_cases h : 200 < w.length
    · have p1 : decide ((200 : Int) < ((w.length : Nat) : Int)) = true := decide_eq_true (by omega)
      simp only [p1, cond_true, if_pos h]
    · have p1 : decide ((200 : Int) < ((w.length : Nat) : Int)) = false := decide_eq_false (by omega)
      simp only [p1, cond_false, if_neg h]
  by_cases h0 : v.1 < 0
  · have p1 : ∀ {i : Decidable (v.1 < 0)}, @decide (v.1 < 0) i = true := dec_t h0
    have hl' : (wL (Pm.half n)).reverse.length ≤ 100 := by rw [List.length_reverse]; omega
    have t2 := times_le (w := invW (wL (Pm.half n))) (by rw [invW_len]; exact hl) v.1.natAbs
    have c1 := c_letterBy (n : Int) (wL (Pm.half n)).reverse hl' (fun x hx => hr x (List.mem_reverse.1 hx))
    have c2 := c_WordOfNormal_8 (n : Int) v.1 (sL v.2) (invW (wL (Pm.half n))) (by rw [invW_len]; omega) v.1.natAbs (by omega) v.1.natAbs 0 [] (by omega) (by simp only [List.length_nil]; omega)
    have c3 := c_WordOfNormal_12 n hn v.1 v.2 (by omega) v.2.length 0 (times (invW (wL (Pm.half n))) v.1.natAbs) (by omega) (by omega)
    simp only [Int.natCast_zero, List.drop_zero, List.nil_append] at c2 c3
    simp only [invW] at c2 c3
    simp only [bi_WordOfNormal, c_IsNormal ((n : Int), v.1, sL v.2) (sL_rows hn _), hN, Option.bind_some, getTV_here, getTV_next, Bool.not_true, cond_false, cond_true, c_halfTurn n hn, c_wordOf n hn, p1, c_reversed (n : Int) (wL (Pm.half n)) (by omega), c1, c_size v.1 (by omega) (by omega), c2, sL_len, c3, fin]
    unfold wordN
    rw [if_pos h0]
    rfl
  · have p1 : ∀ {i : Decidable (v.1 < 0)}, @decide (v.1 < 0) i = false := dec_f h0
    have t2 := times_le hl v.1.natAbs
    have c2 := c_WordOfNormal_8 (n : Int) v.1 (sL v.2) (wL (Pm.half n)) (by omega) v.1.natAbs (by omega) v.1.natAbs 0 [] (by omega) (by simp only [List.length_nil]; omega)
    have c3 := c_WordOfNormal_12 n hn v.1 v.2 (by omega) v.2.length 0 (times (wL (Pm.half n)) v.1.natAbs) (by omega) (by omega)
    simp only [Int.natCast_zero, List.drop_zero, List.nil_append] at c2 c3
    simp only [bi_WordOfNormal, c_IsNormal ((n : Int), v.1, sL v.2) (sL_rows hn _), hN, Option.bind_some, getTV_here, getTV_next, Bool.not_true, cond_false, cond_true, c_halfTurn n hn, c_wordOf n hn, p1, c_size v.1 (by omega) (by omega), c2, sL_len, c3, fin]
    unfold wordN
    rw [if_neg h0]
end Go.Ev.Ytpfpjhfimmmkmaa
