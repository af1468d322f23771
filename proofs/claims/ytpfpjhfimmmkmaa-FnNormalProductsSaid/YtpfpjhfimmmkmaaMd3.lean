/- The laws' own dice and letters. -/
import Derived.Test.YtpfpjhfimmmkmaaMd1
set_option linter.unusedVariables false
set_option linter.unusedSimpArgs false
namespace Go.Ev.Ytpfpjhfimmmkmaa
open Go.Ev Go.Gar
theorem c_roll_3 (a : List Int) : ∀ (d i : Nat) (x : Int), a.length ≤ 4096 → i + d = a.length → ∃ y : Int, R iw_roll_3 [tLU8 a, tI 0, tU64 x, tI (i : Int)] = some [tI 0, tI 0, tU64 y, tLU8 a] := by
  intro d
  induction d with
  | zero =>
    intro i x hl hi
    refine ⟨x, ?_⟩
    apply vw_roll_3
    have p1 : decide ((i : Int) < ((a.length : Nat) : Int)) = false := decide_eq_false (by omega)
    simp only [bw_roll_3, p1, cond_false]
  | succ d ih =>
    intro i x hl hi
    have p1 : decide ((i : Int) < ((a.length : Nat) : Int)) = true := decide_eq_true (by omega)
    have p3 : decide (0 ≤ (i : Int)) = true := decide_eq_true (by omega)
    have w : wi64 ((i : Int) + 1) = ((i + 1 : Nat) : Int) := by rw [wrap_i64] <;> omega
    obtain ⟨y, hy⟩ := ih (i + 1) (wu64 ((wu64 ((wu64 (x * 1099511628211)) + (wu64 ((List.getD a (Int.toNat (i : Int)) 0))))) + 5)) hl (by omega)
    refine ⟨y, ?_⟩
    apply vw_roll_3
    simp only [bw_roll_3, p1, p3, cond_true, Bool.and_true, w, hy]
theorem c_roll (a : List Int) (h : ∀ x ∈ a, 0 ≤ x ∧ x ≤ 255) (hl : a.length ≤ 4096) (t : Int) : ∃ s : Sc, R iw_roll [tLU8 a, tU64 t] = some [tPLU8PIU64 s] ∧ Src s := by
  obtain ⟨y, hy⟩ := c_roll_3 a a.length 0 (wu64 ((wu64 (t * 7919)) + (wu64 (((a.length : Nat) : Int))))) hl (by omega)
  refine ⟨(a, (0, y)), ?_, ⟨hl, h, by show (0 : Int) ≤ 0; omega, by show (0 : Int) ≤ 4096; omega⟩⟩
  apply vw_roll
  simp only [Int.natCast_zero] at hy
  simp only [bw_roll, hy, Option.bind_some, getTV_here, getTV_next]
theorem c_below (s : Sc) (hs : Src s) (n : Int) : ∃ (r : Int) (s' : Sc), R i__w_dice__below [tPLU8PIU64 s, tI n] = some [tI r, tPLU8PIU64 s'] ∧ Src s' ∧ 0 ≤ r ∧ (1 ≤ n → r < n) := by
  by_cases h1 : n < 1
  · refine ⟨0, s, ?_, hs, by omega, by omega⟩
    apply v__w_dice__below
    have p : decide (n < 1) = true := decide_eq_true h1
    simp only [b__w_dice__below, p, cond_true]
  · have p : decide (n < 1) = false := decide_eq_false h1
    have p0 : (n != 0) = true := by simp; omega
    have hl := hs.len
    have ha := hs.lo
    have hh := hs.hi
    by_cases h2 : s.2.1 < (s.1.length : Int)
    · have p1 : decide (s.2.1 < ((s.1.length : Nat) : Int)) = true := decide_eq_true h2
      have p2 : decide (0 ≤ s.2.1) = true := decide_eq_true ha
      have hb := byte_at hs.by' (i := s.2.1.toNat) (by omega)
      have hm := and_lo (shr .u64 (wu64 ((wu64 (s.2.2 * 6364136223846793005)) + 1442695040888963407)) 33)
      generalize hX : bitsAnd .u64 (shr .u64 (wu64 ((wu64 (s.2.2 * 6364136223846793005)) + 1442695040888963407)) 33) 16777215 = X at hm
      generalize hY : List.getD s.1 s.2.1.toNat 0 = Y at hb
      have e1 : wi64 X = X := wrap_i64 (by omega) (by omega)
      have e2 : wi64 Y = Y := wrap_i64 (by omega) (by omega)
      have e3 : wi64 (X + Y) = X + Y := wrap_i64 (by omega) (by omega)
      have e4 : wi64 (s.2.1 + 1) = s.2.1 + 1 := wrap_i64 (by omega) (by omega)
      have t := tmod_lo (a := X + Y) (n := n) (by omega) (by omega)
      refine ⟨Int.tmod (X + Y) n, (s.1, (s.2.1 + 1, wu64 ((wu64 (s.2.2 * 6364136223846793005)) + 1442695040888963407))), ?_, ⟨hs.len, hs.by', by show (0 : Int) ≤ s.2.1 + 1; omega, by show s.2.1 + 1 ≤ (4096 : Int); omega⟩, t.1, fun _ => t.2⟩
      apply v__w_dice__below
      simp only [b__w_dice__below, p, p0, p1, p2, cond_true, cond_false, Bool.and_true, hX, hY, e1, e2, e3, e4]
    · have p1 : decide (s.2.1 < ((s.1.length : Nat) : Int)) = false := decide_eq_false h2
      have hm := and_lo (shr .u64 (wu64 ((wu64 (s.2.2 * 6364136223846793005)) + 1442695040888963407)) 33)
      generalize hX : bitsAnd .u64 (shr .u64 (wu64 ((wu64 (s.2.2 * 6364136223846793005)) + 1442695040888963407)) 33) 16777215 = X at hm
      have e1 : wi64 X = X := wrap_i64 (by omega) (by omega)
      have t := tmod_lo (a := X) (n := n) (by omega) (by omega)
      refine ⟨Int.tmod X n, (s.1, (s.2.1, wu64 ((wu64 (s.2.2 * 6364136223846793005)) + 1442695040888963407))), ?_, ⟨hs.len, hs.by', ha, hh⟩, t.1, fun _ => t.2⟩
      apply v__w_dice__below
      simp only [b__w_dice__below, p, p0, p1, cond_true, cond_false, hX, e1]
theorem letter_of {n : Nat} {r t : Int} (hn : n ≤ 100) (r0 : 0 ≤ r) (r1 : r < (n : Int) - 1) (t0 : 0 ≤ t) (t1 : t < 2) : ∃ x : Int, wi64 ((wi64 (1 + r)) * (wi64 (1 - (wi64 (2 * t))))) = x ∧ x ≠ 0 ∧ 1 - (n : Int) ≤ x ∧ x ≤ (n : Int) - 1 := by
  have w1 : wi64 (1 + r) = 1 + r := by rw [wrap_i64] <;> omega
  have w2 : wi64 (2 * t) = 2 * t := by rw [wrap_i64] <;> omega
  have w3 : wi64 (1 - 2 * t) = 1 - 2 * t := by rw [wrap_i64] <;> omega
  rw [w1, w2, w3]
  by_cases h : t = 0
  · subst h
    refine ⟨1 + r, ?_, by omega, by omega, by omega⟩
    rw [show (1 + r) * (1 - 2 * 0) = 1 + r by omega, wrap_i64] <;> omega
  · obtain rfl : t = 1 := by omega
    refine ⟨-(1 + r), ?_, by omega, by omega, by omega⟩
    rw [show (1 + r) * (1 - 2 * 1) = -(1 + r) by omega, wrap_i64] <;> omega
theorem c_letters9_2 (n : Nat) (hn : n ≤ 100) : ∀ (k : Nat) (s : Sc) (out : List Int), Src s → Lw n out → out.length + k ≤ 1000 → ∃ (s' : Sc) (out' : List Int), R iw_letters9_2 [tI s.2.1, tU64 s.2.2, tLU8 s.1, tLI out, tI (n : Int), tI (k : Int)] = some [tI 0, tI s'.2.1, tU64 s'.2.2, tLU8 s'.1, tLI out'] ∧ Src s' ∧ Lw n out' ∧ out'.length ≤ out.length + k := by
  intro k
  induction k with
  | zero =>
    intro s out hs hw hl
    refine ⟨s, out, ?_, hs, hw, by omega⟩
    apply vw_letters9_2
    simp [bw_letters9_2]
  | succ k ih =>
    intro s out hs hw hl
    have p1 : decide ((0 : Int) < ((k + 1 : Nat) : Int)) = true := decide_eq_true (by omega)
    by_cases h2 : 2 ≤ n
    · have p2 : decide ((1 : Int) < (n : Int)) = true := decide_eq_true (by omega)
      have wn : wi64 ((n : Int) - 1) = (n : Int) - 1 := by rw [wrap_i64] <;> omega
      obtain ⟨r, s1, hr, hs1, r0, r1'⟩ := c_below s hs ((n : Int) - 1)
      have r1 := r1' (by omega)
      obtain ⟨t, s2, ht, hs2, t0, t1'⟩ := c_below s1 hs1 2
      have t1 := t1' (by omega)
      obtain ⟨x, hx, hx'⟩ := letter_of (n := n) hn r0 r1 t0 t1
      obtain ⟨s', out', e, a, b, c⟩ := ih s2 (out ++ [x]) hs2 (hw.snoc hx') (by simp; omega)
      have ap : apOk out [x] = true := apOk1 (by omega)
      have w1 : wi64 (((k + 1 : Nat) : Int) - 1) = (k : Int) := by rw [wrap_i64] <;> omega
      refine ⟨s', out', ?_, a, b, by simp at c; omega⟩
      apply vw_letters9_2
      simp only [bw_letters9_2, p1, p2, cond_true, wn, hr, ht, Option.bind_some, getTV_here, getTV_next, hx, ap, w1]
      exact e
    · have p2 : decide ((1 : Int) < (n : Int)) = false := decide_eq_false (by omega)
      refine ⟨s, out, ?_, hs, hw, by omega⟩
      apply vw_letters9_2
      simp only [bw_letters9_2, p1, p2, cond_true, cond_false]
theorem c_letters9 (s : Sc) (hs : Src s) (n : Nat) (hn : n ≤ 100) (k : Nat) (hk : k ≤ 500) : ∃ (w : List Int) (s' : Sc), R iw_letters9 [tPLU8PIU64 s, tI (n : Int), tI (k : Int)] = some [tLI w, tPLU8PIU64 s'] ∧ Src s' ∧ Lw n w ∧ w.length ≤ k := by
  obtain ⟨s', w, e, a, b, c⟩ := c_letters9_2 n hn k s [] hs (fun x hx => by simp at hx) (by simp; omega)
  refine ⟨w, s', ?_, a, b, by simpa using c⟩
  apply vw_letters9
  simp only [bw_letters9, e, Option.bind_some, getTV_here, getTV_next]
end Go.Ev.Ytpfpjhfimmmkmaa
