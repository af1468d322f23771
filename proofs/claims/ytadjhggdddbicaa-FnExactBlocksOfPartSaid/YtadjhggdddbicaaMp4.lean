/- Is it a part: what the program does, and the law. -/
import Derived.Test.YtadjhggdddbicaaMp3
import Derived.Test.YtadjhggdddbicaaMs2
import Derived.Test.YtadjhggdddbicaaMb3
set_option linter.unusedVariables false
set_option linter.unusedSimpArgs false
namespace Go.Ev.Ytadjhggdddbicaa
open Go.Ev Go.Gar
theorem Gl_snoc (n : Nat) (g : Nat → Nat) : Gl n g ++ [((g n : Nat) : Int)] = Gl (n + 1) g := by
  unfold Gl
  rw [List.range_succ, List.map_append]
  rfl
theorem Gl_zero (g : Nat → Nat) : Gl 0 g = [] := rfl
theorem c_strandsOf_3 (n : Nat) (hn : n ≤ 8) : ∀ i, i ≤ n → R ii_strandsOf_3 [tLI (Gl i id), tI (n : Int), tI (i : Int)] = some [tI 0, tLI (Gl n id)] := by
  refine up_loop _ ?_ (fun i hi ih => ?_)
  · apply vi_strandsOf_3
    have h1 : ¬ ((n : Int) < (n : Int)) := by omega
    simp only [bi_strandsOf_3, decide_eq_false h1, cond_false]
  · apply vi_strandsOf_3
    have h1 : ((i : Int) < (n : Int)) := by omega
    have w : wi64 ((i : Int) + 1) = ((i + 1 : Nat) : Int) := by rw [wrap_i64] <;> omega
    have ap : apOk (Gl i id) [(i : Int)] = true := apOk1 (by rw [Gl_len]; omega)
    have e : Gl i id ++ [(i : Int)] = Gl (i + 1) id := Gl_snoc i id
    simp only [bi_strandsOf_3, decide_eq_true h1, cond_true, ap, w, e, ih]
theorem c_fineGroups (n : Nat) (hn : n ≤ 8) : R ii_fineGroups [tI (n : Int)] = some [tLI (Gl n id)] := by
  have h3 := c_strandsOf_3 n hn 0 (Nat.zero_le _)
  rw [Gl_zero] at h3
  simp only [Int.natCast_zero] at h3
  have h2 : R ii_strandsOf [tI (n : Int)] = some [tLI (Gl n id)] := by
    apply vi_strandsOf
    simp only [bi_strandsOf, h3, Option.bind_some, getTV_here, getTV_next]
  apply vi_fineGroups
  simp only [bi_fineGroups, h2, Option.bind_some, getTV_here]
theorem c_merge_2 (n : Nat) (hn : n ≤ 8) (G : Nat → Nat) (lo hi : Nat) : ∀ k, k ≤ n → R i_i_groups__merge_2 [tLI (Gl n (fun x => if x < k ∧ G x = hi then lo else G x)), tI (lo : Int), tI (hi : Int), tI (n : Int), tI (k : Int)] = some [tI 0, tLI (Gl n (fun x => if G x = hi then lo else G x))] := by
  refine up_loop _ ?_ (fun k hk ih => ?_)
  · apply v_i_groups__merge_2
    have h1 : ¬ ((n : Int) < (n : Int)) := by omega
    have e : Gl n (fun x => if x < n ∧ G x = hi then lo else G x) = Gl n (fun x => if G x = hi then lo else G x) := by
      apply Gl_congr
      intro x hx
      by_cases h : G x = hi
      · rw [if_pos ⟨hx, h⟩, if_pos h]
      · rw [if_neg (fun h' => h h'.2), if_neg h]
    simp only [b_i_groups__merge_2, decide_eq_false h1, cond_false, e]
  · apply v_i_groups__merge_2
    have h1 : ((k : Int) < (n : Int)) := by omega
    have u2 : ((0 : Int) ≤ (k : Int)) := by omega
    have w : wi64 ((k : Int) + 1) = ((k + 1 : Nat) : Int) := by rw [wrap_i64] <;> omega
    have hk0 : (if k < k ∧ G k = hi then lo else G k) = G k := if_neg (by omega)
    simp only [b_i_groups__merge_2, decide_eq_true h1, decide_eq_true u2, cond_true, Bool.and_true, Int.toNat_natCast, Gl_len, Gl_get hk, hk0, beq_nn, w, Gl_set hk]
    by_cases h : G k = hi
    · have e : Gl n (fun x => if x = k then lo else if x < k ∧ G x = hi then lo else G x) = Gl n (fun x => if x < k + 1 ∧ G x = hi then lo else G x) := by
        apply Gl_congr
        intro x _
        by_cases hx : x = k
        · rw [if_pos hx, if_pos ⟨by omega, by rw [hx]; exact h⟩]
        · rw [if_neg hx]
          by_cases hx' : x < k ∧ G x = hi
          · rw [if_pos hx', if_pos ⟨by omega, hx'.2⟩]
          · rw [if_neg hx', if_neg (fun h' => hx' ⟨by omega, h'.2⟩)]
      rw [decide_eq_true h, cond_true, e, ih]
    · have e : Gl n (fun x => if x < k ∧ G x = hi then lo else G x) = Gl n (fun x => if x < k + 1 ∧ G x = hi then lo else G x) := by
        apply Gl_congr
        intro x _
        by_cases hx' : x < k ∧ G x = hi
        · rw [if_pos hx', if_pos ⟨by omega, hx'.2⟩]
        · rw [if_neg hx']
          rw [if_neg]
          rintro ⟨h1, h2⟩
          by_cases hx : x = k
          · exact h (by rw [← hx]; exact h2)
          · exact hx' ⟨by omega, h2⟩
      rw [decide_eq_false h, cond_false, e, ih]
theorem c_merge (n : Nat) (hn : n ≤ 8) (G : Nat → Nat) (i j : Nat) (hi : i < n) (hj : j < n) : R i_i_groups__merge [tLI (Gl n G), tI (i : Int), tI (j : Int)] = some [tLI (Gl n (mrg G i j))] := by
  apply v_i_groups__merge
  have u1 : ((i : Int) < (n : Int)) := by omega
  have u2 : ((0 : Int) ≤ (i : Int)) := by omega
  have u3 : ((j : Int) < (n : Int)) := by omega
  have u4 : ((0 : Int) ≤ (j : Int)) := by omega
  have m1 : mn ((G i : Nat) : Int) ((G j : Nat) : Int) = ((min (G i) (G j) : Nat) : Int) := by unfold mn; split <;> omega
  have m2 : mx ((G i : Nat) : Int) ((G j : Nat) : Int) = ((max (G i) (G j) : Nat) : Int) := by unfold mx; split <;> omega
  have h2 := c_merge_2 n hn G (min (G i) (G j)) (max (G i) (G j)) 0 (Nat.zero_le _)
  have e : Gl n (fun x => if x < 0 ∧ G x = max (G i) (G j) then min (G i) (G j) else G x) = Gl n G := by
    apply Gl_congr
    intro x _
    rw [if_neg (by omega)]
  rw [e] at h2
  simp only [Int.natCast_zero] at h2
  simp only [b_i_groups__merge, Gl_len, decide_eq_true u1, decide_eq_true u2, decide_eq_true u3, decide_eq_true u4, Bool.and_true, cond_true, Int.toNat_natCast, Gl_get hi, Gl_get hj, m1, m2, h2, Option.bind_some, getTV_here, getTV_next]
  rfl
theorem c_groupsOf_3 (n : Nat) (hn : n ≤ 8) (g : Nat → Nat) (hg : Can n g) : ∀ i, i ≤ n → R ii_groupsOf_3 [tA8 (A8 n (mdf n g)), tLI (Gl n (mg g i)), tI (n : Int), tI (n : Int), tI (i : Int)] = some [tI 0, tA8 (A8 n (mdf n g)), tLI (Gl n g)] := by
  refine up_loop _ ?_ (fun i hi ih => ?_)
  · apply vi_groupsOf_3
    have h1 : ¬ ((n : Int) < (n : Int)) := by omega
    have e : Gl n (mg g n) = Gl n g := Gl_congr (fun x hx => mg_last g hx)
    simp only [bi_groupsOf_3, decide_eq_false h1, cond_false, e]
  · apply vi_groupsOf_3
    have h1 : ((i : Int) < (n : Int)) := by omega
    have u1 : ((i : Int) < 8) := by omega
    have u2 : ((0 : Int) ≤ (i : Int)) := by omega
    have w : wi64 ((i : Int) + 1) = ((i + 1 : Nat) : Int) := by rw [wrap_i64] <;> omega
    have hl := mdf_lt hg hi
    have w2 : wi64 ((mdf n g i : Nat) : Int) = ((mdf n g i : Nat) : Int) := by rw [wrap_i64] <;> omega
    have h2 : ¬ ((n : Int) ≤ ((mdf n g i : Nat) : Int)) := by omega
    have e : Gl n (mrg (mg g i) i (mdf n g i)) = Gl n (mg g (i + 1)) := Gl_congr (fun x hx => mg_step hg hi hx)
    simp only [bi_groupsOf_3, decide_eq_true h1, decide_eq_true u1, decide_eq_true u2, cond_true, Bool.and_true, Int.toNat_natCast, A8_get hi hn, w2, decide_eq_false h2, cond_false, c_merge n hn (mg g i) i (mdf n g i) hi hl, Option.bind_some, getTV_here, e, w, ih]
theorem ex_groupsOf_3 (n : Nat) (hn : n ≤ 8) (a : List Int) (ha : B8 a) : ∀ i, i ≤ n → ∀ G : Nat → Nat, Can n G →
    R ii_groupsOf_3 [tA8 a, tLI (Gl n G), tI (n : Int), tI (n : Int), tI (i : Int)] = some [tI 1, tLI [], tB false] ∧ (∃ y, y < n ∧ (n : Int) ≤ List.getD a y 0) ∨
    ∃ G' : Nat → Nat, Can n G' ∧ R ii_groupsOf_3 [tA8 a, tLI (Gl n G), tI (n : Int), tI (n : Int), tI (i : Int)] = some [tI 0, tA8 a, tLI (Gl n G')] := by
  refine up_loop _ (fun G hG => ?_) (fun i hi ih G hG => ?_)
  · right
    refine ⟨G, hG, ?_⟩
    apply vi_groupsOf_3
    have h1 : ¬ ((n : Int) < (n : Int)) := by omega
    simp only [bi_groupsOf_3, decide_eq_false h1, cond_false]
  · have h1 : ((i : Int) < (n : Int)) := by omega
    have u1 : ((i : Int) < 8) := by omega
    have u2 : ((0 : Int) ≤ (i : Int)) := by omega
    have w : wi64 ((i : Int) + 1) = ((i + 1 : Nat) : Int) := by rw [wrap_i64] <;> omega
    have hb := (ha.at (show i < 8 by omega)).2
    have w2 : wi64 (List.getD a i 0) = List.getD a i 0 := by rw [wrap_i64] <;> omega
    by_cases h2 : (n : Int) ≤ List.getD a i 0
    · left
      refine ⟨?_, i, hi, h2⟩
      apply vi_groupsOf_3
      simp only [bi_groupsOf_3, decide_eq_true h1, decide_eq_true u1, decide_eq_true u2, cond_true, Bool.and_true, Int.toNat_natCast, w2, decide_eq_true h2]
    · obtain ⟨j, hj⟩ : ∃ j : Nat, List.getD a i 0 = (j : Int) := ⟨(List.getD a i 0).toNat, by omega⟩
      have hm := c_merge n hn G i j hi (by omega)
      have hstep : ∀ o : List TV, R ii_groupsOf_3 [tA8 a, tLI (Gl n (mrg G i j)), tI (n : Int), tI (n : Int), tI ((i + 1 : Nat) : Int)] = some o → R ii_groupsOf_3 [tA8 a, tLI (Gl n G), tI (n : Int), tI (n : Int), tI (i : Int)] = some o := by
        intro o ho
        apply vi_groupsOf_3
        simp only [bi_groupsOf_3, decide_eq_true h1, decide_eq_true u1, decide_eq_true u2, cond_true, Bool.and_true, Int.toNat_natCast, w2, decide_eq_false h2, cond_false]
        rw [hj]
        simp only [hm, Option.bind_some, getTV_here, w]
        exact ho
      rcases ih (mrg G i j) (mrg_can hG hi (by omega)) with ⟨r1, r2⟩ | ⟨G', r1, r2⟩
      · exact .inl ⟨hstep _ r1, r2⟩
      · exact .inr ⟨G', r1, hstep _ r2⟩
theorem c_part_7 (n : Nat) (hn : n ≤ 8) (g : Nat → Nat) (x1 : List Int) (i : Nat) (hi : i < n) (x6 x7 : Int) : ∀ (d j : Nat) (h : Nat → Nat), j + d = n → h i = g i →
    R i_i_groups__part_7 [tLI (Gl n g), tA8 x1, tA8 (A8 n h), tI (i : Int), tI ((g i : Nat) : Int), tI (j : Int), tI x6, tI x7] = some [tI 0, tLI (Gl n g), tA8 x1, tA8 (A8 n (fun x => if x = i then nx g i d j else h x)), tI x6, tI x7] := by
  intro d
  induction d with
  | zero =>
    intro j h hj hh
    apply v_i_groups__part_7
    have h1 : ¬ ((j : Int) < (n : Int)) := by omega
    have e : A8 n h = A8 n (fun x => if x = i then nx g i 0 j else h x) := by
      apply A8_congr
      intro x _
      by_cases hx : x = i
      · rw [if_pos hx, hx, hh]; rfl
      · rw [if_neg hx]
    rw [← e]
    simp only [b_i_groups__part_7, Gl_len, decide_eq_false h1, cond_false]
  | succ d ih =>
    intro j h hj hh
    apply v_i_groups__part_7
    have hjn : j < n := by omega
    have h1 : ((j : Int) < (n : Int)) := by omega
    have u2 : ((0 : Int) ≤ (j : Int)) := by omega
    have u3 : ((i : Int) < 8) := by omega
    have u4 : ((0 : Int) ≤ (i : Int)) := by omega
    have w : wi64 ((j : Int) + 1) = ((j + 1 : Nat) : Int) := by rw [wrap_i64] <;> omega
    have w8 : wu8 (j : Int) = (j : Int) := by rw [wrap_u8] <;> omega
    simp only [b_i_groups__part_7, Gl_len, decide_eq_true h1, decide_eq_true u2, decide_eq_true u3, decide_eq_true u4, cond_true, Bool.and_true, Int.toNat_natCast, Gl_get hjn, beq_nn, w, w8, A8_set hi hn, nx]
    by_cases hg : g j = g i
    · simp only [decide_eq_true hg, cond_true, if_pos hg]
    · simp only [decide_eq_false hg, cond_false, if_neg hg, ih (j + 1) h (by omega) hh]
theorem c_part_3 (n : Nat) (hn : n ≤ 8) (g : Nat → Nat) (hg : Can n g) (x1 : List Int) : ∀ i, i ≤ n →
    R i_i_groups__part_3 [tLI (Gl n g), tA8 x1, tA8 (A8 n (fun x => if x < i then mdf n g x else 0)), tI (n : Int), tI (i : Int)] = some [tI 0, tA8 x1, tA8 (A8 n (mdf n g))] := by
  refine up_loop _ ?_ (fun i hi ih => ?_)
  · apply v_i_groups__part_3
    have h1 : ¬ ((n : Int) < (n : Int)) := by omega
    have e : A8 n (fun x => if x < n then mdf n g x else 0) = A8 n (mdf n g) := A8_congr (fun x hx => if_pos hx)
    simp only [b_i_groups__part_3, decide_eq_false h1, cond_false, e]
  · apply v_i_groups__part_3
    have h1 : ((i : Int) < (n : Int)) := by omega
    have u3 : ((i : Int) < 8) := by omega
    have u4 : ((0 : Int) ≤ (i : Int)) := by omega
    have gi := (hg i hi).1
    have w1 : wi64 ((i : Int) + 1) = ((i + 1 : Nat) : Int) := by rw [wrap_i64] <;> omega
    have w8 : wu8 ((g i : Nat) : Int) = ((g i : Nat) : Int) := by rw [wrap_u8] <;> omega
    have h7 := c_part_7 n hn g x1 i hi (n : Int) (i : Int) (n - (i + 1)) (i + 1) (fun x => if x = i then g i else if x < i then mdf n g x else 0) (by omega) (by simp)
    have e : A8 n (fun x => if x = i then nx g i (n - (i + 1)) (i + 1) else if x = i then g i else if x < i then mdf n g x else 0) = A8 n (fun x => if x < i + 1 then mdf n g x else 0) := by
      apply A8_congr
      intro x _
      by_cases hx : x = i
      · rw [if_pos hx, if_pos (by omega), hx]; rfl
      · rw [if_neg hx, if_neg hx]
        by_cases hx' : x < i
        · rw [if_pos hx', if_pos (by omega)]
        · rw [if_neg hx', if_neg (by omega)]
    rw [e] at h7
    simp only [b_i_groups__part_3, Gl_len, decide_eq_true h1, decide_eq_true u3, decide_eq_true u4, cond_true, Bool.and_true, Int.toNat_natCast, Gl_get hi, w8, A8_set hi hn, w1, h7, Option.bind_some, getTV_here, getTV_next, ih]
theorem c_part (n : Nat) (hn : n ≤ 8) (g : Nat → Nat) (hg : Can n g) : R i_i_groups__part [tLI (Gl n g)] = some [tA8 (A8 n (mdf n g))] := by
  apply v_i_groups__part
  have h3 := c_part_3 n hn g hg (List.replicate 8 0) 0 (Nat.zero_le _)
  have e : A8 n (fun x => if x < 0 then mdf n g x else 0) = List.replicate 8 0 := by
    rw [A8_zero n]
    apply A8_congr
    intro x _
    rw [if_neg (by omega)]
  rw [e] at h3
  simp only [Int.natCast_zero] at h3
  simp only [b_i_groups__part, Gl_len, h3, Option.bind_some, getTV_here, getTV_next]
theorem c_groupsOf (n : Nat) (hn : n ≤ 8) (g : Nat → Nat) (hg : Can n g) : R ii_groupsOf [tA8 (A8 n (mdf n g)), tI (n : Int)] = some [tLI (Gl n g), tB true] := by
  have h3 := c_groupsOf_3 n hn g hg 0 (Nat.zero_le _)
  have e : Gl n (mg g 0) = Gl n id := Gl_congr (fun x hx => mg_zero hg hx)
  rw [e] at h3
  simp only [Int.natCast_zero] at h3
  apply vi_groupsOf
  have c0 : ((0 : Int) == 0) = true := rfl
  simp only [bi_groupsOf, c_fineGroups n hn, h3, Option.bind_some, getTV_here, getTV_next, c0, cond_true, c_part n hn g hg, beq_self_eq_true]
theorem ex_groupsOf (n : Nat) (hn : n ≤ 8) (a : List Int) (ha : B8 a) : (∃ x, R ii_groupsOf [tA8 a, tI (n : Int)] = some [tLI x, tB false] ∧ ¬ ∃ g, Can n g ∧ a = A8 n (mdf n g)) ∨ ∃ g, Can n g ∧ a = A8 n (mdf n g) := by
  by_cases hP : ∃ g, Can n g ∧ a = A8 n (mdf n g)
  · exact .inr hP
  · left
    have hid : Can n id := fun x _ => ⟨Nat.le_refl _, rfl⟩
    have c0 : ((0 : Int) == 0) = true := rfl
    have c1 : ((1 : Int) == 0) = false := rfl
    rcases ex_groupsOf_3 n hn a ha 0 (Nat.zero_le _) id hid with ⟨r1, _⟩ | ⟨G', r1, r2⟩
    · refine ⟨[], ?_, hP⟩
      simp only [Int.natCast_zero] at r1
      apply vi_groupsOf
      simp only [bi_groupsOf, c_fineGroups n hn, r1, Option.bind_some, getTV_here, getTV_next, c1, cond_false]
    · refine ⟨Gl n G', ?_, hP⟩
      simp only [Int.natCast_zero] at r2
      have hne : ¬ A8 n (mdf n G') = a := fun h => hP ⟨G', r1, h.symm⟩
      apply vi_groupsOf
      simp only [bi_groupsOf, c_fineGroups n hn, r2, Option.bind_some, getTV_here, getTV_next, c0, cond_true, c_part n hn G' r1, beq_ll, decide_eq_false hne]
/-! ### crossings -/
theorem c_crossing_12 (n : Nat) (hn : n ≤ 8) (g : Nat → Nat) (a b c : Nat) (ha : a < n) (hb : b < n) (hc : c < n) (x6 x7 : Int) : ∀ (d x : Nat), x + d = n →
    R i_i_groups__crossing_12 [tLI (Gl n g), tI (n : Int), tI (a : Int), tI (b : Int), tI (c : Int), tI (x : Int), tI x6, tI x7] = some (if c5 g a b c d x then [tI 1, tI (a : Int), tI (b : Int), tB true] else [tI 0, tLI (Gl n g), tI (n : Int), tI (a : Int), tI (b : Int), tI (c : Int), tI x6, tI x7]) := by
  intro d
  induction d with
  | zero =>
    intro x hx
    apply v_i_groups__crossing_12
    have h1 : ¬ ((x : Int) < (n : Int)) := by omega
    simp only [b_i_groups__crossing_12, decide_eq_false h1, cond_false, c5]
    rfl
  | succ d ih =>
    intro x hx
    apply v_i_groups__crossing_12
    have hxn : x < n := by omega
    have h1 : ((x : Int) < (n : Int)) := by omega
    have w : wi64 ((x : Int) + 1) = ((x + 1 : Nat) : Int) := by rw [wrap_i64] <;> omega
    simp (disch := omega) only [b_i_groups__crossing_12, Gl_len, decide_eq_true, cond_true, Bool.and_true, Int.toNat_natCast, Gl_get ha, Gl_get hb, Gl_get hc, Gl_get hxn, beq_nn, bne_nn, w, ih (x + 1) (by omega), c5]
    by_cases e1 : g a = g c
    · by_cases e2 : g b = g x
      · by_cases e3 : g a = g b
        · simp only [decide_eq_true e1, decide_eq_true e2, decide_eq_true e3, cond_true, cond_false, Bool.not_true, Bool.and_false, Bool.false_or]
        · simp only [decide_eq_true e1, decide_eq_true e2, decide_eq_false e3, cond_true, cond_false, Bool.not_false, Bool.and_true, Bool.true_or, if_true]
      · simp only [decide_eq_true e1, decide_eq_false e2, cond_true, cond_false, Bool.and_false, Bool.false_and, Bool.false_or]
    · simp only [decide_eq_false e1, cond_false, Bool.false_and, Bool.false_or]
theorem c_crossing_9 (n : Nat) (hn : n ≤ 8) (g : Nat → Nat) (a b : Nat) (ha : a < n) (hb : b < n) (x6 x7 : Int) : ∀ (d x : Nat), x + d = n →
    R i_i_groups__crossing_9 [tLI (Gl n g), tI (n : Int), tI (a : Int), tI (b : Int), tI (x : Int), tI x6, tI x7] = some (if c4 n g a b d x then [tI 1, tI (a : Int), tI (b : Int), tB true] else [tI 0, tLI (Gl n g), tI (n : Int), tI (a : Int), tI (b : Int), tI x6, tI x7]) := by
  intro d
  induction d with
  | zero =>
    intro x hx
    apply v_i_groups__crossing_9
    have h1 : ¬ ((x : Int) < (n : Int)) := by omega
    simp only [b_i_groups__crossing_9, decide_eq_false h1, cond_false, c4]
    rfl
  | succ d ih =>
    intro x hx
    apply v_i_groups__crossing_9
    have hxn : x < n := by omega
    have h1 : ((x : Int) < (n : Int)) := by omega
    have w : wi64 ((x : Int) + 1) = ((x + 1 : Nat) : Int) := by rw [wrap_i64] <;> omega
    have h5 := c_crossing_12 n hn g a b x ha hb hxn x6 x7 (n - (x + 1)) (x + 1) (by omega)
    simp only [b_i_groups__crossing_9, decide_eq_true h1, cond_true, w, h5, c4]
    by_cases hb5 : c5 g a b x (n - (x + 1)) (x + 1) = true
    · simp only [hb5, if_true, Bool.true_or]
      rfl
    · have hb6 : c5 g a b x (n - (x + 1)) (x + 1) = false := by simpa using hb5
      have c0 : ((0 : Int) == 0) = true := rfl
      simp only [hb6, Bool.false_eq_true, if_false, Option.bind_some, getTV_here, getTV_next, c0, cond_true, w, ih (x + 1) (by omega), Bool.false_or]
theorem c_crossing_6 (n : Nat) (hn : n ≤ 8) (g : Nat → Nat) (a : Nat) (ha : a < n) (x6 x7 : Int) : ∀ (d x : Nat), x + d = n →
    ∃ p q : Int, R i_i_groups__crossing_6 [tLI (Gl n g), tI (n : Int), tI (a : Int), tI (x : Int), tI x6, tI x7] = some (if c3 n g a d x then [tI 1, tI p, tI q, tB true] else [tI 0, tLI (Gl n g), tI (n : Int), tI x6, tI x7]) := by
  intro d
  induction d with
  | zero =>
    intro x hx
    refine ⟨0, 0, ?_⟩
    apply v_i_groups__crossing_6
    have h1 : ¬ ((x : Int) < (n : Int)) := by omega
    simp only [b_i_groups__crossing_6, decide_eq_false h1, cond_false, c3]
    rfl
  | succ d ih =>
    intro x hx
    have hxn : x < n := by omega
    have h1 : ((x : Int) < (n : Int)) := by omega
    have w : wi64 ((x : Int) + 1) = ((x + 1 : Nat) : Int) := by rw [wrap_i64] <;> omega
    have h5 := c_crossing_9 n hn g a x ha hxn x6 x7 (n - (x + 1)) (x + 1) (by omega)
    obtain ⟨p, q, ih'⟩ := ih (x + 1) (by omega)
    by_cases hb5 : c4 n g a x (n - (x + 1)) (x + 1) = true
    · refine ⟨a, x, ?_⟩
      apply v_i_groups__crossing_6
      simp only [b_i_groups__crossing_6, decide_eq_true h1, cond_true, w, h5, c3]
      simp only [hb5, if_true, Bool.true_or]
      rfl
    · refine ⟨p, q, ?_⟩
      have hb6 : c4 n g a x (n - (x + 1)) (x + 1) = false := by simpa using hb5
      have c0 : ((0 : Int) == 0) = true := rfl
      apply v_i_groups__crossing_6
      simp only [b_i_groups__crossing_6, decide_eq_true h1, cond_true, w, h5, c3]
      simp only [hb6, Bool.false_eq_true, if_false, Option.bind_some, getTV_here, getTV_next, c0, cond_true, w, ih', Bool.false_or]
theorem c_crossing_3 (n : Nat) (hn : n ≤ 8) (g : Nat → Nat) : ∀ (d x : Nat), x + d = n →
    ∃ p q : Int, R i_i_groups__crossing_3 [tLI (Gl n g), tI (n : Int), tI (n : Int), tI (x : Int)] = some (if c2 n g d x then [tI 1, tI p, tI q, tB true] else [tI 0]) := by
  intro d
  induction d with
  | zero =>
    intro x hx
    refine ⟨0, 0, ?_⟩
    apply v_i_groups__crossing_3
    have h1 : ¬ ((x : Int) < (n : Int)) := by omega
    simp only [b_i_groups__crossing_3, decide_eq_false h1, cond_false, c2]
    rfl
  | succ d ih =>
    intro x hx
    have hxn : x < n := by omega
    have h1 : ((x : Int) < (n : Int)) := by omega
    have w : wi64 ((x : Int) + 1) = ((x + 1 : Nat) : Int) := by rw [wrap_i64] <;> omega
    obtain ⟨p, q, h5⟩ := c_crossing_6 n hn g x hxn (n : Int) (x : Int) (n - (x + 1)) (x + 1) (by omega)
    obtain ⟨p', q', ih'⟩ := ih (x + 1) (by omega)
    by_cases hb5 : c3 n g x (n - (x + 1)) (x + 1) = true
    · refine ⟨p, q, ?_⟩
      apply v_i_groups__crossing_3
      simp only [b_i_groups__crossing_3, decide_eq_true h1, cond_true, w, h5, c2]
      simp only [hb5, if_true, Bool.true_or]
      rfl
    · refine ⟨p', q', ?_⟩
      have hb6 : c3 n g x (n - (x + 1)) (x + 1) = false := by simpa using hb5
      have c0 : ((0 : Int) == 0) = true := rfl
      apply v_i_groups__crossing_3
      simp only [b_i_groups__crossing_3, decide_eq_true h1, cond_true, w, h5, c2]
      simp only [hb6, Bool.false_eq_true, if_false, Option.bind_some, getTV_here, getTV_next, c0, cond_true, w, ih', Bool.false_or]
theorem c_crossing (n : Nat) (hn : n ≤ 8) (g : Nat → Nat) : ∃ p q : Int, R i_i_groups__crossing [tLI (Gl n g)] = some [tI p, tI q, tB (crs n g)] := by
  obtain ⟨p, q, h2⟩ := c_crossing_3 n hn g n 0 (by omega)
  simp only [Int.natCast_zero] at h2
  by_cases hb5 : c2 n g n 0 = true
  · refine ⟨p, q, ?_⟩
    apply v_i_groups__crossing
    simp only [b_i_groups__crossing, Gl_len, h2, Option.bind_some, crs]
    rw [if_pos hb5, hb5]
    rfl
  · have hb6 : c2 n g n 0 = false := by simpa using hb5
    refine ⟨0, 0, ?_⟩
    apply v_i_groups__crossing
    simp only [b_i_groups__crossing, Gl_len, h2, Option.bind_some, crs]
    rw [if_neg hb5, hb6]
    rfl
theorem c_IsPart (a : List Int) (ha : B8 a) (k : Int) : R ii_IsPart [tA8 a, tI k] = some [tB (isPt a k)] := by
  have hct : R ii_isCount [tI k] = some [tB (decide (1 ≤ k) && decide (k ≤ 8))] := by
    apply vi_isCount
    simp only [bi_isCount, c_within, Option.bind_some, getTV_here]
  apply vi_IsPart
  simp only [bi_IsPart, hct, Option.bind_some, getTV_here, isPt]
  by_cases h1 : 1 ≤ k ∧ k ≤ 8
  · have x1 := h1.1
    have x2 := h1.2
    obtain ⟨n, rfl⟩ : ∃ n : Nat, k = n := ⟨k.toNat, by omega⟩
    simp only [decide_eq_true x1, decide_eq_true x2, Bool.and_true, Bool.not_true, cond_false]
    have hn : n ≤ 8 := by omega
    rcases ex_groupsOf n hn a ha with ⟨x, r1, r2⟩ | ⟨g, r1, rfl⟩
    · have hP : ¬ (1 ≤ (n : Int) ∧ (n : Int) ≤ 8 ∧ IsP (n : Int).toNat a) := by
        rintro ⟨_, _, g, hg, _, he⟩
        exact r2 ⟨g, hg, he⟩
      simp only [r1, Option.bind_some, getTV_here, getTV_next, Bool.not_false, cond_true, decp_f hP]
    · obtain ⟨p, q, hx⟩ := c_crossing n hn g
      simp only [c_groupsOf n hn g r1, Option.bind_some, getTV_here, getTV_next, Bool.not_true, cond_false, hx]
      by_cases hc : crs n g = false
      · have hP : (1 ≤ (n : Int) ∧ (n : Int) ≤ 8 ∧ IsP (n : Int).toNat (A8 n (mdf n g))) := ⟨x1, x2, g, r1, hc, rfl⟩
        rw [decp_t hP, hc]
        rfl
      · have hP : ¬ (1 ≤ (n : Int) ∧ (n : Int) ≤ 8 ∧ IsP (n : Int).toNat (A8 n (mdf n g))) := by
          rintro ⟨_, _, g', hg, hc', he⟩
          rw [Int.toNat_natCast] at hg hc' he
          have h2 := c_l07Least n hn g' hg
          have h3 := c_l07Least n hn g r1
          rw [he, h2] at h3
          simp only [Option.some.injEq, List.cons.injEq, and_true] at h3
          have e3 := tAi8_inj h3
          exact hc (by rw [← crs_congr (A8_inj hn e3)]; exact hc')
        have hc1 : crs n g = true := by simpa using hc
        rw [decp_f hP, hc1]
        rfl
  · have hd : (decide (1 ≤ k) && decide (k ≤ 8)) = false := by
      rw [← Bool.decide_and]
      exact decide_eq_false h1
    have hP : ¬ (1 ≤ k ∧ k ≤ 8 ∧ IsP k.toNat a) := fun h => h1 ⟨h.1, h.2.1⟩
    simp only [hd, Bool.not_false, cond_true, decp_f hP]
end Go.Ev.Ytadjhggdddbicaa
