/- Is it a part: what the program does, and the law. -/
import Derived.Test.YtadjhggdddbicaaMp3
import Derived.Test.YtadjhggdddbicaaMs2
import Derived.Test.YtadjhggdddbicaaMb3
set_option linter.unusedVariables false
set_option linter.unusedSimpArgs false
namespace Go.Ev.Ytadjhggdddbicaa
open Go.Ev Go.Gar
theorem Gl_snoc (n : Nat) (g : Nat → Nat) : Gl n g ++ [((g n : Nat) : Int)] = Gl (n + 1) g := by
  unfold Gl
  rw [List.range_succ, List.map_append]
  rfl
theorem Gl_zero (g : Nat → Nat) : Gl 0 g = [] := rfl
theorem c_strandsOf_3 (n : Nat) (hn : n ≤ 8) : ∀ i, i ≤ n → R ii_strandsOf_3 [tLI (Gl i id), tI (n : Int), tI (i : Int)] = some [tI 0, tLI (Gl n id)] := by
  refine up_loop _ ?_ (fun i hi ih => ?_)
  · apply vi_strandsOf_3
    have h1 : ¬ ((n : Int) < (n : Int)) := by omega
    simp only [bi_strandsOf_3, decide_eq_false h1, cond_false]
  · apply vi_strandsOf_3
    have h1 : ((i : Int) < (n : Int)) := by omega
    have w : wi64 ((i : Int) + 1) = ((i + 1 : Nat) : Int) := by rw [wrap_i64] <;> omega
    have ap : apOk (Gl i id) [(i : Int)] = true := apOk1 (by rw [Gl_len]; omega)
    have e : Gl i id ++ [(i : Int)] = Gl (i + 1) id := Gl_snoc i id
    simp only [bi_strandsOf_3, decide_eq_true h1, cond_true, ap, w, e, ih]
theorem c_fineGroups (n : Nat) (hn : n ≤ 8) : R ii_fineGroups [tI (n : Int)] = some [tLI (Gl n id)] := by
  have h3 := c_strandsOf_3 n hn 0 (Nat.zero_le _)
  rw [Gl_zero] at h3
  simp only [Int.natCast_zero] at h3
  have h2 : R ii_strandsOf [tI (n : Int)] = some [tLI (Gl n id)] := by
    apply vi_strandsOf
    simp only [bi_strandsOf, h3, Option.bind_some, getTV_here, getTV_next]
  apply vi_fineGroups
  simp only [bi_fineGroups, h2, Option.bind_some, getTV_here]
theorem c_part_7 (n : Nat) (hn : n ≤ 8) (g : Nat → Nat) (x1 : List Int) (i : Nat) (hi : i < n) (x6 x7 : Int) : ∀ (d j : Nat) (h : Nat → Nat), j + d = n → h i = g i →
    R i_i_groups__part_7 [tLI (Gl n g), tA8 x1, tA8 (A8 n h), tI (i : Int), tI ((g i : Nat) : Int), tI (j : Int), tI x6, tI x7] = some [tI 0, tLI (Gl n g), tA8 x1, tA8 (A8 n (fun x => if x = i then nx g i d j else h x)), tI x6, tI x7] := by
  intro d
  induction d with
  | zero =>
    intro j h hj hh
    apply v_i_groups__part_7
    have h1 : ¬ ((j : Int) < (n : Int)) := by omega
    have e : A8 n h = A8 n (fun x => if x = i then nx g i 0 j else h x) := by
      apply A8_congr
      intro x _
      by_cases hx : x = i
      · rw [if_pos hx, hx, hh]; rfl
      · rw [if_neg hx]
    rw [← e]
    simp only [b_i_groups__part_7, Gl_len, decide_eq_false h1, cond_false]
  | succ d ih =>
    intro j h hj hh
    apply v_i_groups__part_7
    have hjn : j < n := by omega
    have h1 : ((j : Int) < (n : Int)) := by omega
    have u2 : ((0 : Int) ≤ (j : Int)) := by omega
    have u3 : ((i : Int) < 8) := by omega
    have u4 : ((0 : Int) ≤ (i : Int)) := by omega
    have w : wi64 ((j : Int) + 1) = ((j + 1 : Nat) : Int) := by rw [wrap_i64] <;> omega
    have w8 : wu8 (j : Int) = (j : Int) := by rw [wrap_u8] <;> omega
    simp only [b_i_groups__part_7, Gl_len, decide_eq_true h1, decide_eq_true u2, decide_eq_true u3, decide_eq_true u4, cond_true, Bool.and_true, Int.toNat_natCast, Gl_get hjn, beq_nn, w, w8, A8_set hi hn, nx]
    by_cases hg : g j = g i
    · simp only [decide_eq_true hg, cond_true, if_pos hg]
    · simp only [decide_eq_false hg, cond_false, if_neg hg, ih (j + 1) h (by omega) hh]
theorem c_part_3 (n : Nat) (hn : n ≤ 8) (g : Nat → Nat) (hg : Can n g) (x1 : List Int) : ∀ i, i ≤ n →
    R i_i_groups__part_3 [tLI (Gl n g), tA8 x1, tA8 (A8 n (fun x => if x < i then mdf n g x else 0)), tI (n : Int), tI (i : Int)] = some [tI 0, tA8 x1, tA8 (A8 n (mdf n g))] := by
  refine up_loop _ ?_ (fun i hi ih => ?_)
  · apply v_i_groups__part_3
    have h1 : ¬ ((n : Int) < (n : Int)) := by omega
    have e : A8 n (fun x => if x < n then mdf n g x else 0) = A8 n (mdf n g) := A8_congr (fun x hx => if_pos hx)
    simp only [b_i_groups__part_3, decide_eq_false h1, cond_false, e]
  · apply v_i_groups__part_3
    have h1 : ((i : Int) < (n : Int)) := by omega
    have u3 : ((i : Int) < 8) := by omega
    have u4 : ((0 : Int) ≤ (i : Int)) := by omega
    have gi := (hg i hi).1
    have w1 : wi64 ((i : Int) + 1) = ((i + 1 : Nat) : Int) := by rw [wrap_i64] <;> omega
    have w8 : wu8 ((g i : Nat) : Int) = ((g i : Nat) : Int) := by rw [wrap_u8] <;> omega
    have h7 := c_part_7 n hn g x1 i hi (n : Int) (i : Int) (n - (i + 1)) (i + 1) (fun x => if x = i then g i else if x < i then mdf n g x else 0) (by omega) (by simp)
    have e : A8 n (fun x => if x = i then nx g i (n - (i + 1)) (i + 1) else if x = i then g i else if x < i then mdf n g x else 0) = A8 n (fun x => if x < i + 1 then mdf n g x else 0) := by
      apply A8_congr
      intro x _
      by_cases hx : x = i
      · rw [if_pos hx, if_pos (by omega), hx]; rfl
      · rw [if_neg hx, if_neg hx]
        by_cases hx' : x < i
        · rw [if_pos hx', if_pos (by omega)]
        · rw [if_neg hx', if_neg (by omega)]
    rw [e] at h7
    simp only [b_i_groups__part_3, Gl_len, decide_eq_true h1, decide_eq_true u3, decide_eq_true u4, cond_true, Bool.and_true, Int.toNat_natCast, Gl_get hi, w8, A8_set hi hn, w1, h7, Option.bind_some, getTV_here, getTV_next, ih]
theorem c_part (n : Nat) (hn : n ≤ 8) (g : Nat → Nat) (hg : Can n g) : R i_i_groups__part [tLI (Gl n g)] = some [tA8 (A8 n (mdf n g))] := by
  apply v_i_groups__part
  have h3 := c_part_3 n hn g hg (List.replicate 8 0) 0 (Nat.zero_le _)
  have e : A8 n (fun x => if x < 0 then mdf n g x else 0) = List.replicate 8 0 := by
    rw [A8_zero n]
    apply A8_congr
    intro x _
    rw [if_neg (by omega)]
  rw [e] at h3
  simp only [Int.natCast_zero] at h3
  simp only [b_i_groups__part, Gl_len, h3, Option.bind_some, getTV_here, getTV_next]
/-! ### crossings -/
theorem c_crossing_12 (n : Nat) (hn : n ≤ 8) (g : Nat → Nat) (a b c : Nat) (ha : a < n) (hb : b < n) (hc : c < n) (x6 x7 : Int) : ∀ (d x : Nat), x + d = n →
    R i_i_groups__crossing_12 [tLI (Gl n g), tI (n : Int), tI (a : Int), tI (b : Int), tI (c : Int), tI (x : Int), tI x6, tI x7] = some (if c5 g a b c d x then [tI 1, tI (a : Int), tI (b : Int), tB true] else [tI 0, tLI (Gl n g), tI (n : Int), tI (a : Int), tI (b : Int), tI (c : Int), tI x6, tI x7]) := by
  intro d
  induction d with
  | zero =>
    intro x hx
    apply v_i_groups__crossing_12
    have h1 : ¬ ((x : Int) < (n : Int)) := by omega
    simp only [b_i_groups__crossing_12, decide_eq_false h1, cond_false, c5]
    rfl
  | succ d ih =>
    intro x hx
    apply v_i_groups__crossing_12
    have hxn : x < n := by omega
    have h1 : ((x : Int) < (n : Int)) := by omega
    have w : wi64 ((x : Int) + 1) = ((x + 1 : Nat) : Int) := by rw [wrap_i64] <;> omega
    simp (disch := omega) only [b_i_groups__crossing_12, Gl_len, decide_eq_true, cond_true, Bool.and_true, Int.toNat_natCast, Gl_get ha, Gl_get hb, Gl_get hc, Gl_get hxn, beq_nn, bne_nn, w, ih (x + 1) (by omega), c5]
    by_cases e1 : g a = g c
    · by_cases e2 : g b = g x
      · by_cases e3 : g a = g b
        · simp only [decide_eq_true e1, decide_eq_true e2, decide_eq_true e3, cond_true, cond_false, Bool.not_true, Bool.and_false, Bool.false_or]
        · simp only [decide_eq_true e1, decide_eq_true e2, decide_eq_false e3, cond_true, cond_false, Bool.not_false, Bool.and_true, Bool.true_or, if_true]
      · simp only [decide_eq_true e1, decide_eq_false e2, cond_true, cond_false, Bool.and_false, Bool.false_and, Bool.false_or]
    · simp only [decide_eq_false e1, cond_false, Bool.false_and, Bool.false_or]
theorem c_crossing_9 (n : Nat) (hn : n ≤ 8) (g : Nat → Nat) (a b : Nat) (ha : a < n) (hb : b < n) (x6 x7 : Int) : ∀ (d x : Nat), x + d = n →
    R i_i_groups__crossing_9 [tLI (Gl n g), tI (n : Int), tI (a : Int), tI (b : Int), tI (x : Int), tI x6, tI x7] = some (if c4 n g a b d x then [tI 1, tI (a : Int), tI (b : Int), tB true] else [tI 0, tLI (Gl n g), tI (n : Int), tI (a : Int), tI (b : Int), tI x6, tI x7]) := by
  intro d
  induction d with
  | zero =>
    intro x hx
    apply v_i_groups__crossing_9
    have h1 : ¬ ((x : Int) < (n : Int)) := by omega
    simp only [b_i_groups__crossing_9, decide_eq_false h1, cond_false, c4]
    rfl
  | succ d ih =>
    intro x hx
    apply v_i_groups__crossing_9
    have hxn : x < n := by omega
    have h1 : ((x : Int) < (n : Int)) := by omega
    have w : wi64 ((x : Int) + 1) = ((x + 1 : Nat) : Int) := by rw [wrap_i64] <;> omega
    have h5 := c_crossing_12 n hn g a b x ha hb hxn x6 x7 (n - (x + 1)) (x + 1) (by omega)
    simp only [b_i_groups__crossing_9, decide_eq_true h1, cond_true, w, h5, c4]
    by_cases hb5 : c5 g a b x (n - (x + 1)) (x + 1) = true
    · simp only [hb5, if_true, Bool.true_or]
      rfl
    · have hb6 : c5 g a b x (n - (x + 1)) (x + 1) = false := by simpa using hb5
      have c0 : ((0 : Int) == 0) = true := rfl
      simp only [hb6, Bool.false_eq_true, if_false, Option.bind_some, getTV_here, getTV_next, c0, cond_true, w, ih (x + 1) (by omega), Bool.false_or]
theorem c_crossing_6 (n : Nat) (hn : n ≤ 8) (g : Nat → Nat) (a : Nat) (ha : a < n) (x6 x7 : Int) : ∀ (d x : Nat), x + d = n →
    ∃ p q : Int, R i_i_groups__crossing_6 [tLI (Gl n g), tI (n : Int), tI (a : Int), tI (x : Int), tI x6, tI x7] = some (if c3 n g a d x then [tI 1, tI p, tI q, tB true] else [tI 0, tLI (Gl n g), tI (n : Int), tI x6, tI x7]) := by
  intro d
  induction d with
  | zero =>
    intro x hx
    refine ⟨0, 0, ?_⟩
    apply v_i_groups__crossing_6
    have h1 : ¬ ((x : Int) < (n : Int)) := by omega
    simp only [b_i_groups__crossing_6, decide_eq_false h1, cond_false, c3]
    rfl
  | succ d ih =>
    intro x hx
    have hxn : x < n := by omega
    have h1 : ((x : Int) < (n : Int)) := by omega
    have w : wi64 ((x : Int) + 1) = ((x + 1 : Nat) : Int) := by rw [wrap_i64] <;> omega
    have h5 := c_crossing_9 n hn g a x ha hxn x6 x7 (n - (x + 1)) (x + 1) (by omega)
    obtain ⟨p, q, ih'⟩ := ih (x + 1) (by omega)
    by_cases hb5 : c4 n g a x (n - (x + 1)) (x + 1) = true
    · refine ⟨a, x, ?_⟩
      apply v_i_groups__crossing_6
      simp only [b_i_groups__crossing_6, decide_eq_true h1, cond_true, w, h5, c3]
      simp only [hb5, if_true, Bool.true_or]
      rfl
    · refine ⟨p, q, ?_⟩
      have hb6 : c4 n g a x (n - (x + 1)) (x + 1) = false := by simpa using hb5
      have c0 : ((0 : Int) == 0) = true := rfl
      apply v_i_groups__crossing_6
      simp only [b_i_groups__crossing_6, decide_eq_true h1, cond_true, w, h5, c3]
      simp only [hb6, Bool.false_eq_true, if_false, Option.bind_some, getTV_here, getTV_next, c0, cond_true, w, ih', Bool.false_or]
theorem c_crossing_3 (n : Nat) (hn : n ≤ 8) (g : Nat → Nat) : ∀ (d x : Nat), x + d = n →
    ∃ p q : Int, R i_i_groups__crossing_3 [tLI (Gl n g), tI (n : Int), tI (n : Int), tI (x : Int)] = some (if c2 n g d x then [tI 1, tI p, tI q, tB true] else [tI 0]) := by
  intro d
  induction d with
  | zero =>
    intro x hx
    refine ⟨0, 0, ?_⟩
    apply v_i_groups__crossing_3
    have h1 : ¬ ((x : Int) < (n : Int)) := by omega
    simp only [b_i_groups__crossing_3, decide_eq_false h1, cond_false, c2]
    rfl
  | succ d ih =>
    intro x hx
    have hxn : x < n := by omega
    have h1 : ((x : Int) < (n : Int)) := by omega
    have w : wi64 ((x : Int) + 1) = ((x + 1 : Nat) : Int) := by rw [wrap_i64] <;> omega
    obtain ⟨p, q, h5⟩ := c_crossing_6 n hn g x hxn (n : Int) (x : Int) (n - (x + 1)) (x + 1) (by omega)
    obtain ⟨p', q', ih'⟩ := ih (x + 1) (by omega)
    by_cases hb5 : c3 n g x (n - (x + 1)) (x + 1) = true
    · refine ⟨p, q, ?_⟩
      apply v_i_groups__crossing_3
      simp only [b_i_groups__crossing_3, decide_eq_true h1, cond_true, w, h5, c2]
      simp only [hb5, if_true, Bool.true_or]
      rfl
    · refine ⟨p', q', ?_⟩
      have hb6 : c3 n g x (n - (x + 1)) (x + 1) = false := by simpa using hb5
      have c0 : ((0 : Int) == 0) = true := rfl
      apply v_i_groups__crossing_3
      simp only [b_i_groups__crossing_3, decide_eq_true h1, cond_true, w, h5, c2]
      simp only [hb6, Bool.false_eq_true, if_false, Option.bind_some, getTV_here, getTV_next, c0, cond_true, w, ih', Bool.false_or]
theorem c_crossing (n : Nat) (hn : n ≤ 8) (g : Nat → Nat) : ∃ p q : Int, R i_i_groups__crossing [tLI (Gl n g)] = some [tI p, tI q, tB (crs n g)] := by
  obtain ⟨p, q, h2⟩ := c_crossing_3 n hn g n 0 (by omega)
  simp only [Int.natCast_zero] at h2
  by_cases hb5 : c2 n g n 0 = true
  · refine ⟨p, q, ?_⟩
    apply v_i_groups__crossing
    simp only [b_i_groups__crossing, Gl_len, h2, Option.bind_some, crs]
    rw [if_pos hb5, hb5]
    rfl
  · have hb6 : c2 n g n 0 = false := by simpa using hb5
    refine ⟨0, 0, ?_⟩
    apply v_i_groups__crossing
    simp only [b_i_groups__crossing, Gl_len, h2, Option.bind_some, crs]
    rw [if_neg hb5, hb6]
    rfl
end Go.Ev.Ytadjhggdddbicaa
