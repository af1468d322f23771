/- Is it a part: what the reference does. -/
import Derived.Test.YtadjhggdddbicaaMp2
import Derived.Test.YtadjhggdddbicaaMb1
set_option linter.unusedVariables false
set_option linter.unusedSimpArgs false
namespace Go.Ev.Ytadjhggdddbicaa
open Go.Ev Go.Gar
theorem beq_nn (a b : Nat) : (((a : Int)) == (b : Int)) = decide (a = b) := by
  rw [beq_dec]
  by_cases h : a = b
  · simp [h]
  · have : ¬ (a : Int) = b := by omega
    simp [h, this]
theorem bne_nn (a b : Nat) : (((a : Int)) != (b : Int)) = !decide (a = b) := by
  rw [bne_dec]
  by_cases h : a = b
  · simp [h]
  · have : ¬ (a : Int) = b := by omega
    simp [h, this]
theorem c_l07Least_3 (n : Nat) (hn : n ≤ 8) (a : List Int) (ha : B8 a) (x1 x2 : List Int) : ∀ (k : Nat) (met : List Bool), k ≤ 8 → met.length = 8 →
    R is_l07Least_3 [tA8 a, tAi8 x1, tAi8 x2, tAB8 met, tI (n : Int), tI ((8 - k : Nat) : Int)] = some (if chk n a k met then [tI 0, tA8 a, tAi8 x1, tAi8 x2, tI (n : Int)] else [tI 1, tAi8 x2, tB false]) := by
  intro k
  induction k with
  | zero =>
    intro met _ _
    apply vs_l07Least_3
    simp [bs_l07Least_3, chk]
  | succ k ih =>
    intro met hk hm
    have hb := (ha.at (show 7 - k < 8 by omega)).2
    have e : 8 - (k + 1) = 7 - k := by omega
    apply vs_l07Least_3
    rw [e]
    unfold chk
    have e1 : wi64 (((7 - k : Nat) : Int) + 1) = ((8 - k : Nat) : Int) := by rw [wrap_i64] <;> omega
    have e2 : wi64 (List.getD a (7 - k) 0) = List.getD a (7 - k) 0 := wrap_i64 (by omega) (by omega)
    have u1 : (((7 - k : Nat) : Int) < 8) := by omega
    have u2 : ((0 : Int) ≤ ((7 - k : Nat) : Int)) := by omega
    simp only [bs_l07Least_3, decide_eq_true u1, decide_eq_true u2, cond_true, Bool.and_true, Int.toNat_natCast, e1, e2]
    by_cases h : n ≤ 7 - k
    · have h' : ((n : Int) ≤ ((7 - k : Nat) : Int)) := by omega
      have h'' : ¬ (((7 - k : Nat) : Int) < (n : Int)) := by omega
      rw [if_pos h]
      simp only [decide_eq_true h', decide_eq_false h'', cond_true, cond_false, ih met (by omega) hm]
      by_cases h2 : List.getD a (7 - k) 0 = 0
      · simp only [h2, bne_self_eq_false, cond_false, beq_self_eq_true, Bool.true_and]
      · have h3 : (List.getD a (7 - k) 0 == 0) = false := by rw [beq_dec, decide_eq_false h2]
        have h4 : (List.getD a (7 - k) 0 != 0) = true := by rw [bne_dec, decide_eq_false h2]; rfl
        rw [h3, h4]
        simp
    · have h' : ¬ ((n : Int) ≤ ((7 - k : Nat) : Int)) := by omega
      have h'' : (((7 - k : Nat) : Int) < (n : Int)) := by omega
      rw [if_neg h]
      simp only [decide_eq_false h', decide_eq_true h'', cond_true, cond_false]
      by_cases h2 : (n : Int) ≤ List.getD a (7 - k) 0
      · have h3 : ¬ (List.getD a (7 - k) 0 < (n : Int)) := by omega
        rw [decide_eq_true h2, cond_true, decide_eq_false h3]
        simp
      · have h3 : (List.getD a (7 - k) 0 < (n : Int)) := by omega
        have e3 : List.getD a (7 - k) 0 < 8 := by omega
        have e4 : 0 ≤ List.getD a (7 - k) 0 := hb.1
        simp only [decide_eq_false h2, cond_false, decide_eq_true h3, Bool.true_and, decide_eq_true e3, decide_eq_true e4, Bool.and_true, cond_true]
        cases h4 : List.getD met (List.getD a (7 - k) 0).toNat false with
        | true => simp
        | false =>
          rw [cond_false, ih _ (by omega) (by simp [hm])]
          simp
/-! ### labels along cycles -/
theorem least_stop (x0 x1 x2 : List Int) (S : Nat → Bool) (x4 x5 : Int) (q : Nat) (hq : q < 8) (h : S q = true) : R is_l07Least_14 [tA8 x0, tAi8 x1, tAi8 x2, tAB8 (Bo S), tI x4, tI x5, tI (q : Int)] = some [tI 0, tA8 x0, tAi8 x1, tAi8 x2, tAB8 (Bo S), tI x4, tI x5] := by
  apply vs_l07Least_14
  have u1 : ((q : Int) < 8) := by omega
  have u2 : ((0 : Int) ≤ (q : Int)) := by omega
  simp only [bs_l07Least_14, decide_eq_true u1, decide_eq_true u2, Bool.and_true, cond_true, Int.toNat_natCast, Bo_get hq, h, Bool.not_true, cond_false]
theorem least_go (n : Nat) (hn : n ≤ 8) (f l : Nat → Nat) (x1 : List Int) (S : Nat → Bool) (i q : Nat) (hi : i < n) (hq : q < n) (hf : f q < n) (h : S q = false) {o : List TV}
    (hR : R is_l07Least_14 [tA8 (A8 n f), tAi8 x1, tAi8 (A8 n (fun x => if x = q then i else l x)), tAB8 (Bo (fun x => if x = q then true else S x)), tI (n : Int), tI (i : Int), tI ((f q : Nat) : Int)] = some o) :
    R is_l07Least_14 [tA8 (A8 n f), tAi8 x1, tAi8 (A8 n l), tAB8 (Bo S), tI (n : Int), tI (i : Int), tI (q : Int)] = some o := by
  apply vs_l07Least_14
  have u1 : ((q : Int) < 8) := by omega
  have u2 : ((0 : Int) ≤ (q : Int)) := by omega
  have w : wi64 ((f q : Nat) : Int) = ((f q : Nat) : Int) := by rw [wrap_i64] <;> omega
  simp only [bs_l07Least_14, decide_eq_true u1, decide_eq_true u2, Bool.and_true, cond_true, Int.toNat_natCast, Bo_get (show q < 8 by omega), h, Bool.not_false, A8_get hq hn, w, A8_set hq hn, Bo_set (show q < 8 by omega)]
  exact hR
theorem c_l07Least_14 (n : Nat) (hn : n ≤ 8) (g : Nat → Nat) (hg : Can n g) (x1 : List Int) (i : Nat) (hi : i < n) : ∀ (m q : Nat), q < n → g q = i → n ≤ q + m →
    R is_l07Least_14 [tA8 (A8 n (mdf n g)), tAi8 x1, tAi8 (A8 n (lab g i q)), tAB8 (Bo (sn n g i q)), tI (n : Int), tI (i : Int), tI (q : Int)] =
      some [tI 0, tA8 (A8 n (mdf n g)), tAi8 x1, tAi8 (A8 n (lab g (i + 1) 0)), tAB8 (Bo (sn n g (i + 1) 0)), tI (n : Int), tI (i : Int)] := by
  intro m
  induction m with
  | zero => intro q h1 _ h2; omega
  | succ m ih =>
    intro q hq hgq hm
    have gq := hg q hq
    have hS : sn n g i q q = false := by
      unfold sn
      apply decide_eq_false
      omega
    apply least_go n hn (mdf n g) (lab g i q) x1 (sn n g i q) i q hi hq (mdf_lt hg hq) hS
    rcases mdf_spec (g := g) hq with ⟨k, k1, k2, k3, k4, k5⟩ | ⟨k1, k2⟩
    · rw [k5]
      have ih' := ih k k2 (by omega) (by omega)
      have hx : ∀ x, x < n → ((g x < i ∨ (g x = i ∧ x < k)) ↔ (x = q ∨ (g x < i ∨ (g x = i ∧ x < q)))) := by
        intro x hx
        constructor
        · rintro (h | ⟨h, h'⟩)
          · exact .inr (.inl h)
          · by_cases hxq : x ≤ q
            · rcases Nat.lt_or_eq_of_le hxq with h3 | h3
              · exact .inr (.inr ⟨h, h3⟩)
              · exact .inl h3
            · exact (k4 x (by omega) h' (by omega)).elim
        · rintro (h | h | ⟨h, h'⟩)
          · subst h; exact .inr ⟨hgq, k1⟩
          · exact .inl h
          · exact .inr ⟨h, by omega⟩
      have e1 : A8 n (fun x => if x = q then i else lab g i q x) = A8 n (lab g i k) := by
        apply A8_congr
        intro x hx'
        have := hx x hx'
        unfold lab
        by_cases h1 : x = q
        · rw [if_pos h1, if_pos (this.2 (.inl h1)), h1, hgq]
        · rw [if_neg h1]
          by_cases h2 : g x < i ∨ (g x = i ∧ x < q)
          · rw [if_pos h2, if_pos (this.2 (.inr h2))]
          · rw [if_neg h2, if_neg (fun h => (this.1 h).elim h1 h2)]
      have e2 : Bo (fun x => if x = q then true else sn n g i q x) = Bo (sn n g i k) := by
        apply Bo_congr
        intro x _
        unfold sn
        by_cases hxn : x < n
        · have := hx x hxn
          by_cases h1 : x = q
          · rw [if_pos h1]
            exact (decide_eq_true ⟨hxn, this.2 (.inl h1)⟩).symm
          · rw [if_neg h1, decide_eq_decide]
            constructor
            · exact fun h => ⟨hxn, this.2 (.inr h.2)⟩
            · exact fun h => ⟨hxn, (this.1 h.2).elim (fun h' => (h1 h').elim) id⟩
        · rw [if_neg (by omega), decide_eq_false (by omega), decide_eq_false (by omega)]
      rw [e1, e2]
      exact ih'
    · rw [k2, hgq]
      have hx : ∀ x, x < n → ((g x < i + 1 ∨ (g x = i + 1 ∧ x < 0)) ↔ (x = q ∨ (g x < i ∨ (g x = i ∧ x < q)))) := by
        intro x hx
        constructor
        · rintro (h | ⟨_, h'⟩)
          · by_cases h3 : g x = i
            · rcases Nat.lt_trichotomy x q with h4 | h4 | h4
              · exact .inr (.inr ⟨h3, h4⟩)
              · exact .inl h4
              · exact (k1 x h4 hx (by omega)).elim
            · exact .inr (.inl (by omega))
          · omega
        · rintro (h | h | ⟨h, h'⟩)
          · subst h; exact .inl (by omega)
          · exact .inl (by omega)
          · exact .inl (by omega)
      have e1 : A8 n (fun x => if x = q then i else lab g i q x) = A8 n (lab g (i + 1) 0) := by
        apply A8_congr
        intro x hx'
        have := hx x hx'
        unfold lab
        by_cases h1 : x = q
        · rw [if_pos h1, if_pos (this.2 (.inl h1)), h1, hgq]
        · rw [if_neg h1]
          by_cases h2 : g x < i ∨ (g x = i ∧ x < q)
          · rw [if_pos h2, if_pos (this.2 (.inr h2))]
          · rw [if_neg h2, if_neg (fun h => (this.1 h).elim h1 h2)]
      have e2 : Bo (fun x => if x = q then true else sn n g i q x) = Bo (sn n g (i + 1) 0) := by
        apply Bo_congr
        intro x _
        unfold sn
        by_cases hxn : x < n
        · have := hx x hxn
          by_cases h1 : x = q
          · rw [if_pos h1]
            exact (decide_eq_true ⟨hxn, this.2 (.inl h1)⟩).symm
          · rw [if_neg h1, decide_eq_decide]
            constructor
            · exact fun h => ⟨hxn, this.2 (.inr h.2)⟩
            · exact fun h => ⟨hxn, (this.1 h.2).elim (fun h' => (h1 h').elim) id⟩
        · rw [if_neg (by omega), decide_eq_false (by omega), decide_eq_false (by omega)]
      rw [e1, e2]
      apply least_stop _ _ _ _ _ _ i (by omega)
      unfold sn
      apply decide_eq_true
      have gi : g i = i := by rw [← hgq]; exact gq.2
      omega
theorem c_l07Least_11 (n : Nat) (hn : n ≤ 8) (g : Nat → Nat) (hg : Can n g) (x1 : List Int) : ∀ i, i ≤ n →
    R is_l07Least_11 [tA8 (A8 n (mdf n g)), tAi8 x1, tAi8 (A8 n (lab g i 0)), tAB8 (Bo (sn n g i 0)), tI (n : Int), tI (i : Int)] = some [tI 0, tAi8 x1, tAi8 (A8 n g)] := by
  refine up_loop _ ?_ (fun i hi ih => ?_)
  · apply vs_l07Least_11
    have e : A8 n (lab g n 0) = A8 n g := by
      apply A8_congr
      intro x hx
      have := (hg x hx).1
      unfold lab
      rw [if_pos (by omega)]
    have h1 : ¬ ((n : Int) < (n : Int)) := by omega
    simp only [bs_l07Least_11, decide_eq_false h1, cond_false, e]
  · apply vs_l07Least_11
    have h1 : ((i : Int) < (n : Int)) := by omega
    have w : wi64 ((i : Int) + 1) = ((i + 1 : Nat) : Int) := by rw [wrap_i64] <;> omega
    have gi := hg i hi
    have hin : R is_l07Least_14 [tA8 (A8 n (mdf n g)), tAi8 x1, tAi8 (A8 n (lab g i 0)), tAB8 (Bo (sn n g i 0)), tI (n : Int), tI (i : Int), tI (i : Int)] =
      some [tI 0, tA8 (A8 n (mdf n g)), tAi8 x1, tAi8 (A8 n (lab g (i + 1) 0)), tAB8 (Bo (sn n g (i + 1) 0)), tI (n : Int), tI (i : Int)] := by
      by_cases h : g i = i
      · have h14 := c_l07Least_14 n hn g hg x1 i hi n i hi h (by omega)
        have e1 : A8 n (lab g i i) = A8 n (lab g i 0) := by
          apply A8_congr
          intro x hx
          have := (hg x hx).1
          unfold lab
          by_cases h2 : g x < i
          · rw [if_pos (.inl h2), if_pos (.inl h2)]
          · rw [if_neg (by omega), if_neg (by omega)]
        have e2 : Bo (sn n g i i) = Bo (sn n g i 0) := by
          apply Bo_congr
          intro x _
          unfold sn
          rw [decide_eq_decide]
          constructor
          · rintro ⟨h3, h4⟩
            have := (hg x h3).1
            exact ⟨h3, by omega⟩
          · rintro ⟨h3, h4⟩
            exact ⟨h3, by omega⟩
        rw [e1, e2] at h14
        exact h14
      · have e1 : A8 n (lab g i 0) = A8 n (lab g (i + 1) 0) := by
          apply A8_congr
          intro x hx
          have hx2 := (hg x hx).2
          unfold lab
          by_cases h2 : g x < i
          · rw [if_pos (.inl h2), if_pos (.inl (by omega))]
          · have : g x ≠ i := fun h3 => by rw [h3] at hx2; exact h hx2
            rw [if_neg (by omega), if_neg (by omega)]
        have e2 : Bo (sn n g i 0) = Bo (sn n g (i + 1) 0) := by
          apply Bo_congr
          intro x _
          unfold sn
          rw [decide_eq_decide]
          constructor
          · rintro ⟨h3, h4⟩
            exact ⟨h3, by omega⟩
          · rintro ⟨h3, h4⟩
            have hx2 := (hg x h3).2
            have : g x ≠ i := fun h5 => by rw [h5] at hx2; exact h hx2
            exact ⟨h3, by omega⟩
        rw [e1, e2]
        apply least_stop _ _ _ _ _ _ i (by omega)
        unfold sn
        apply decide_eq_true
        omega
    simp only [bs_l07Least_11, decide_eq_true h1, cond_true, hin, Option.bind_some, getTV_here, getTV_next, w, ih]
structure Li (n i : Nat) (l : Nat → Nat) (S : Nat → Bool) : Prop where
  c : ∀ x, x < n → S x = true → l x ≤ x ∧ S (l x) = true ∧ l (l x) = l x
  b : ∀ x, x < i → S x = true
theorem ex_14 (n : Nat) (hn : n ≤ 8) (f : Nat → Nat) (hf : ∀ x, x < n → f x < n) (x1 : List Int) (i : Nat) (hi : i < n) : ∀ (m q : Nat) (l : Nat → Nat) (S : Nat → Bool), q < n → (List.range n).countP (fun x => !S x) ≤ m → Li n i l S → (q = i ∨ (l i = i ∧ S i = true)) →
    ∃ (l' : Nat → Nat) (S' : Nat → Bool), R is_l07Least_14 [tA8 (A8 n f), tAi8 x1, tAi8 (A8 n l), tAB8 (Bo S), tI (n : Int), tI (i : Int), tI (q : Int)] =
      some [tI 0, tA8 (A8 n f), tAi8 x1, tAi8 (A8 n l'), tAB8 (Bo S'), tI (n : Int), tI (i : Int)] ∧ Li n (i + 1) l' S' := by
  intro m
  induction m with
  | zero =>
    intro q l S hq hc L hor
    by_cases hS : S q = true
    · refine ⟨l, S, least_stop _ _ _ _ _ _ q (by omega) hS, L.c, fun x hx => ?_⟩
      by_cases h : x = i
      · subst h
        rcases hor with h | h
        · rw [← h]; exact hS
        · exact h.2
      · exact L.b x (by omega)
    · have := List.countP_pos_iff (p := fun x => !S x) (l := List.range n) |>.2 ⟨q, List.mem_range.2 hq, by simp [hS]⟩
      omega
  | succ m ih =>
    intro q l S hq hc L hor
    by_cases hS : S q = true
    · refine ⟨l, S, least_stop _ _ _ _ _ _ q (by omega) hS, L.c, fun x hx => ?_⟩
      by_cases h : x = i
      · subst h
        rcases hor with h | h
        · rw [← h]; exact hS
        · exact h.2
      · exact L.b x (by omega)
    · have hS' : S q = false := by simpa using hS
      have hqi : i ≤ q := by
        apply Classical.byContradiction
        intro h
        exact hS (L.b q (by omega))
      have hl1 : (fun x => if x = q then i else l x) i = i := by
        show (if i = q then i else l i) = i
        rcases hor with h | h
        · rw [if_pos h.symm]
        · split
          · rfl
          · exact h.1
      have hs1 : (fun x => if x = q then true else S x) i = true := by
        show (if i = q then true else S i) = true
        rcases hor with h | h
        · rw [if_pos h.symm]
        · split
          · rfl
          · exact h.2
      have L1 : Li n i (fun x => if x = q then i else l x) (fun x => if x = q then true else S x) := by
        refine ⟨fun x hx hSx => ?_, fun x hx => ?_⟩
        · by_cases h : x = q
          · subst h
            simp only [if_true]
            exact ⟨hqi, hs1, hl1⟩
          · simp only [if_neg h] at hSx ⊢
            obtain ⟨q1, q2, q3⟩ := L.c x hx hSx
            have hne : ¬ l x = q := fun h' => by rw [h'] at q2; exact hS q2
            simp only [if_neg hne]
            exact ⟨q1, q2, q3⟩
        · show (if x = q then true else S x) = true
          split
          · rfl
          · exact L.b x hx
      have hc' : (List.range n).countP (fun x => !(fun x => if x = q then true else S x) x) ≤ m := by
        have := Pm.countP_lt (p := fun x => !(fun x => if x = q then true else S x) x) (q := fun x => !S x) (l := List.range n) (x := q) (fun y _ hy => by
          by_cases h : y = q
          · simp [h] at hy
          · simpa [h] using hy) (List.mem_range.2 hq) (by simp) (by simp [hS'])
        omega
      obtain ⟨l', S', r1, r2⟩ := ih (f q) _ _ (hf q hq) hc' L1 (.inr ⟨hl1, hs1⟩)
      exact ⟨l', S', least_go n hn f l x1 S i q hi hq (hf q hq) hS' r1, r2⟩
theorem ex_11 (n : Nat) (hn : n ≤ 8) (f : Nat → Nat) (hf : ∀ x, x < n → f x < n) (x1 : List Int) : ∀ i, i ≤ n → ∀ (l : Nat → Nat) (S : Nat → Bool), Li n i l S →
    ∃ l' : Nat → Nat, R is_l07Least_11 [tA8 (A8 n f), tAi8 x1, tAi8 (A8 n l), tAB8 (Bo S), tI (n : Int), tI (i : Int)] = some [tI 0, tAi8 x1, tAi8 (A8 n l')] ∧ Can n l' := by
  refine up_loop _ (fun l S L => ?_) (fun i hi ih l S L => ?_)
  · refine ⟨l, ?_, fun x hx => ⟨(L.c x hx (L.b x hx)).1, (L.c x hx (L.b x hx)).2.2⟩⟩
    apply vs_l07Least_11
    have h1 : ¬ ((n : Int) < (n : Int)) := by omega
    simp only [bs_l07Least_11, decide_eq_false h1, cond_false]
  · obtain ⟨l1, S1, r1, r2⟩ := ex_14 n hn f hf x1 i hi _ i l S hi (Nat.le_refl _) L (.inl rfl)
    obtain ⟨l', r3, r4⟩ := ih l1 S1 r2
    refine ⟨l', ?_, r4⟩
    apply vs_l07Least_11
    have h1 : ((i : Int) < (n : Int)) := by omega
    have w : wi64 ((i : Int) + 1) = ((i + 1 : Nat) : Int) := by rw [wrap_i64] <;> omega
    simp only [bs_l07Least_11, decide_eq_true h1, cond_true, r1, Option.bind_some, getTV_here, getTV_next, w, r3]
/-- The labels of a made array. -/
theorem c_l07Least (n : Nat) (hn : n ≤ 8) (g : Nat → Nat) (hg : Can n g) : R is_l07Least [tA8 (A8 n (mdf n g)), tI (n : Int)] = some [tAi8 (A8 n g), tB true] := by
  obtain ⟨s, hs, _⟩ := mdf_pm hg
  have ha : B8 (A8 n (mdf n g)) := by rw [hs]; exact sA_B8 hn s
  have h3 := c_l07Least_3 n hn _ ha (List.replicate 8 0) (List.replicate 8 0) 8 (List.replicate 8 false) (Nat.le_refl _) (by simp)
  rw [if_pos ((chk_sA hn ha).2 ⟨s, hs⟩)] at h3
  have h11 := c_l07Least_11 n hn g hg (List.replicate 8 0) 0 (Nat.zero_le _)
  have e1 : A8 n (lab g 0 0) = List.replicate 8 0 := by
    rw [A8_zero n]
    apply A8_congr
    intro x _
    unfold lab
    rw [if_neg (by omega)]
  have e2 : Bo (sn n g 0 0) = List.replicate 8 false := by
    rw [Bo_false]
    apply Bo_congr
    intro x _
    unfold sn
    exact decide_eq_false (by omega)
  rw [e1, e2] at h11
  simp only [Nat.sub_self, Int.natCast_zero] at h3 h11
  apply vs_l07Least
  have c0 : ((0 : Int) == 0) = true := rfl
  simp only [bs_l07Least, h3, Option.bind_some, getTV_here, getTV_next, c0, cond_true, h11]
/-- Labels, or none. -/
theorem ex_l07Least (n : Nat) (hn : n ≤ 8) (a : List Int) (ha : B8 a) : (∃ x : List Int, R is_l07Least [tA8 a, tI (n : Int)] = some [tAi8 x, tB false] ∧ ¬ ∃ s : Pm n, a = sA s) ∨ (∃ l : Nat → Nat, Can n l ∧ R is_l07Least [tA8 a, tI (n : Int)] = some [tAi8 (A8 n l), tB true]) := by
  have h3 := c_l07Least_3 n hn _ ha (List.replicate 8 0) (List.replicate 8 0) 8 (List.replicate 8 false) (Nat.le_refl _) (by simp)
  simp only [Nat.sub_self, Int.natCast_zero] at h3
  by_cases h : chk n a 8 (List.replicate 8 false) = true
  · right
    obtain ⟨s, rfl⟩ := (chk_sA hn ha).1 h
    rw [if_pos h] at h3
    obtain ⟨l, r1, r2⟩ := ex_11 n hn s.f (fun x hx => s.lt hx) (List.replicate 8 0) 0 (Nat.zero_le _) (fun _ => 0) (fun _ => false) ⟨fun x _ h => by simp at h, fun x h => by omega⟩
    rw [← A8_zero, ← Bo_false] at r1
    refine ⟨l, r2, ?_⟩
    apply vs_l07Least
    have c0 : ((0 : Int) == 0) = true := rfl
    have r1' : R is_l07Least_11 [tA8 (sA s), tAi8 (List.replicate 8 0), tAi8 (List.replicate 8 0), tAB8 (List.replicate 8 false), tI (n : Int), tI 0] = some [tI 0, tAi8 (List.replicate 8 0), tAi8 (A8 n l)] := r1
    simp only [bs_l07Least, h3, Option.bind_some, getTV_here, getTV_next, c0, cond_true, r1']
  · left
    rw [if_neg h] at h3
    refine ⟨List.replicate 8 0, ?_, fun hs => h ((chk_sA hn ha).2 hs)⟩
    apply vs_l07Least
    have c0 : ((1 : Int) == 0) = false := rfl
    simp only [bs_l07Least, h3, Option.bind_some, getTV_here, getTV_next, c0, cond_false]
/-! ### made arrays -/
theorem c_l07Made_7 (n : Nat) (hn : n ≤ 8) (g : Nat → Nat) (x1 : List Int) (i : Nat) (hi : i < n) : ∀ (c : Nat) (h : Nat → Nat), i + c < n → h i = nx g i (n - (i + c + 1)) (i + c + 1) →
    R is_l07Made_7 [tAi8 (A8 n g), tA8 x1, tA8 (A8 n h), tI (n : Int), tI (i : Int), tI ((i + c : Nat) : Int)] = some [tI 0, tAi8 (A8 n g), tA8 x1, tA8 (A8 n (fun x => if x = i then mdf n g i else h x)), tI (n : Int), tI (i : Int)] := by
  intro c
  induction c with
  | zero =>
    intro h _ hh
    apply vs_l07Made_7
    have h1 : ¬ ((i : Int) < ((i + 0 : Nat) : Int)) := by omega
    have e : A8 n h = A8 n (fun x => if x = i then mdf n g i else h x) := by
      apply A8_congr
      intro x _
      by_cases hx : x = i
      · rw [if_pos hx, hx, hh]; rfl
      · rw [if_neg hx]
    simp only [bs_l07Made_7, decide_eq_false h1, cond_false, e]
  | succ c ih =>
    intro h hc hh
    apply vs_l07Made_7
    have h1 : ((i : Int) < ((i + (c + 1) : Nat) : Int)) := by omega
    have u1 : (((i + (c + 1) : Nat) : Int) < 8) := by omega
    have u2 : ((0 : Int) ≤ ((i + (c + 1) : Nat) : Int)) := by omega
    have u3 : ((i : Int) < 8) := by omega
    have u4 : ((0 : Int) ≤ (i : Int)) := by omega
    have w : wi64 (((i + (c + 1) : Nat) : Int) - 1) = ((i + c : Nat) : Int) := by rw [wrap_i64] <;> omega
    have w8 : wu8 ((i + (c + 1) : Nat) : Int) = ((i + (c + 1) : Nat) : Int) := by rw [wrap_u8] <;> omega
    have en : nx g i (n - (i + c + 1)) (i + c + 1) = if g (i + (c + 1)) = g i then i + (c + 1) else nx g i (n - (i + (c + 1) + 1)) (i + (c + 1) + 1) := by
      rw [show n - (i + c + 1) = (n - (i + (c + 1) + 1)) + 1 by omega, nx]
      rfl
    simp only [bs_l07Made_7, decide_eq_true h1, decide_eq_true u1, decide_eq_true u2, decide_eq_true u3, decide_eq_true u4, cond_true, Bool.and_true, Int.toNat_natCast, A8_get hc hn, A8_get hi hn, beq_nn, w, w8, A8_set hi hn]
    by_cases hg : g (i + (c + 1)) = g i
    · rw [if_pos hg] at en
      have ih' := ih (fun x => if x = i then i + (c + 1) else h x) (by omega) (by simp only [if_true]; exact en.symm)
      have e : A8 n (fun x => if x = i then mdf n g i else if x = i then i + (c + 1) else h x) = A8 n (fun x => if x = i then mdf n g i else h x) := by
        apply A8_congr
        intro x _
        by_cases hx : x = i
        · rw [if_pos hx, if_pos hx]
        · rw [if_neg hx, if_neg hx, if_neg hx]
      rw [e] at ih'
      rw [decide_eq_true hg, cond_true, ih']
    · rw [if_neg hg] at en
      rw [decide_eq_false hg, cond_false, ih h (by omega) (by rw [hh, en])]
theorem c_l07Made_3 (n : Nat) (hn : n ≤ 8) (g : Nat → Nat) (hg : Can n g) (x1 : List Int) : ∀ i, i ≤ n →
    R is_l07Made_3 [tAi8 (A8 n g), tA8 x1, tA8 (A8 n (fun x => if x < i then mdf n g x else 0)), tI (n : Int), tI (i : Int)] = some [tI 0, tA8 x1, tA8 (A8 n (mdf n g))] := by
  refine up_loop _ ?_ (fun i hi ih => ?_)
  · apply vs_l07Made_3
    have h1 : ¬ ((n : Int) < (n : Int)) := by omega
    have e : A8 n (fun x => if x < n then mdf n g x else 0) = A8 n (mdf n g) := A8_congr (fun x hx => if_pos hx)
    simp only [bs_l07Made_3, decide_eq_false h1, cond_false, e]
  · apply vs_l07Made_3
    have h1 : ((i : Int) < (n : Int)) := by omega
    have u3 : ((i : Int) < 8) := by omega
    have u4 : ((0 : Int) ≤ (i : Int)) := by omega
    have gi := (hg i hi).1
    have w : wi64 ((n : Int) - 1) = ((i + (n - 1 - i) : Nat) : Int) := by rw [wrap_i64] <;> omega
    have w1 : wi64 ((i : Int) + 1) = ((i + 1 : Nat) : Int) := by rw [wrap_i64] <;> omega
    have w8 : wu8 ((g i : Nat) : Int) = ((g i : Nat) : Int) := by rw [wrap_u8] <;> omega
    have h7 := c_l07Made_7 n hn g x1 i hi (n - 1 - i) (fun x => if x = i then g i else if x < i then mdf n g x else 0) (by omega) (by
      simp only [if_true]
      rw [show n - (i + (n - 1 - i) + 1) = 0 by omega]
      rfl)
    have e : A8 n (fun x => if x = i then mdf n g i else if x = i then g i else if x < i then mdf n g x else 0) = A8 n (fun x => if x < i + 1 then mdf n g x else 0) := by
      apply A8_congr
      intro x _
      by_cases hx : x = i
      · rw [if_pos hx, if_pos (by omega), hx]
      · rw [if_neg hx, if_neg hx]
        by_cases hx' : x < i
        · rw [if_pos hx', if_pos (by omega)]
        · rw [if_neg hx', if_neg (by omega)]
    rw [e] at h7
    simp only [bs_l07Made_3, decide_eq_true h1, decide_eq_true u3, decide_eq_true u4, cond_true, Bool.and_true, Int.toNat_natCast, A8_get hi hn, w8, A8_set hi hn, w, h7, Option.bind_some, getTV_here, getTV_next, w1, ih]
theorem c_l07Made (n : Nat) (hn : n ≤ 8) (g : Nat → Nat) (hg : Can n g) : R is_l07Made [tAi8 (A8 n g), tI (n : Int)] = some [tA8 (A8 n (mdf n g))] := by
  apply vs_l07Made
  have h3 := c_l07Made_3 n hn g hg (List.replicate 8 0) 0 (Nat.zero_le _)
  have e : A8 n (fun x => if x < 0 then mdf n g x else 0) = List.replicate 8 0 := by
    rw [A8_zero n]
    apply A8_congr
    intro x _
    rw [if_neg (by omega)]
  rw [e] at h3
  simp only [Int.natCast_zero] at h3
  simp only [bs_l07Made, h3, Option.bind_some, getTV_here, getTV_next]
/-! ### crossings -/
theorem c_l07Crossing_11 (n : Nat) (hn : n ≤ 8) (g : Nat → Nat) (a b c : Nat) (ha : a < n) (hb : b < n) (hc : c < n) : ∀ (d x : Nat), x + d = n →
    R is_l07Crossing_11 [tAi8 (A8 n g), tI (n : Int), tI (a : Int), tI (b : Int), tI (c : Int), tI (x : Int)] = some (if c5 g a b c d x then [tI 1, tB true] else [tI 0, tAi8 (A8 n g), tI (n : Int), tI (a : Int), tI (b : Int), tI (c : Int)]) := by
  intro d
  induction d with
  | zero =>
    intro x hx
    apply vs_l07Crossing_11
    have h1 : ¬ ((x : Int) < (n : Int)) := by omega
    simp only [bs_l07Crossing_11, decide_eq_false h1, cond_false, c5]
    rfl
  | succ d ih =>
    intro x hx
    apply vs_l07Crossing_11
    have hxn : x < n := by omega
    have h1 : ((x : Int) < (n : Int)) := by omega
    have w : wi64 ((x : Int) + 1) = ((x + 1 : Nat) : Int) := by rw [wrap_i64] <;> omega
    simp (disch := omega) only [bs_l07Crossing_11, decide_eq_true, cond_true, Bool.and_true, Int.toNat_natCast, A8_get ha hn, A8_get hb hn, A8_get hc hn, A8_get hxn hn, beq_nn, bne_nn, w, ih (x + 1) (by omega), c5]
    by_cases e1 : g a = g c
    · by_cases e2 : g b = g x
      · by_cases e3 : g a = g b
        · simp only [decide_eq_true e1, decide_eq_true e2, decide_eq_true e3, cond_true, cond_false, Bool.not_true, Bool.and_false, Bool.false_or]
        · simp only [decide_eq_true e1, decide_eq_true e2, decide_eq_false e3, cond_true, cond_false, Bool.not_false, Bool.and_true, Bool.true_or, if_true]
      · simp only [decide_eq_true e1, decide_eq_false e2, cond_true, cond_false, Bool.and_false, Bool.false_and, Bool.false_or]
    · simp only [decide_eq_false e1, cond_false, Bool.false_and, Bool.false_or]
theorem c_l07Crossing_8 (n : Nat) (hn : n ≤ 8) (g : Nat → Nat) (a b : Nat) (ha : a < n) (hb : b < n) : ∀ (d x : Nat), x + d = n →
    R is_l07Crossing_8 [tAi8 (A8 n g), tI (n : Int), tI (a : Int), tI (b : Int), tI (x : Int)] = some (if c4 n g a b d x then [tI 1, tB true] else [tI 0, tAi8 (A8 n g), tI (n : Int), tI (a : Int), tI (b : Int)]) := by
  intro d
  induction d with
  | zero =>
    intro x hx
    apply vs_l07Crossing_8
    have h1 : ¬ ((x : Int) < (n : Int)) := by omega
    simp only [bs_l07Crossing_8, decide_eq_false h1, cond_false, c4]
    rfl
  | succ d ih =>
    intro x hx
    apply vs_l07Crossing_8
    have hxn : x < n := by omega
    have h1 : ((x : Int) < (n : Int)) := by omega
    have w : wi64 ((x : Int) + 1) = ((x + 1 : Nat) : Int) := by rw [wrap_i64] <;> omega
    have h5 := c_l07Crossing_11 n hn g a b x ha hb hxn (n - (x + 1)) (x + 1) (by omega)
    simp only [bs_l07Crossing_8, decide_eq_true h1, cond_true, w, h5, c4]
    by_cases hb5 : c5 g a b x (n - (x + 1)) (x + 1) = true
    · simp only [hb5, if_true, Bool.true_or]
      rfl
    · have hb6 : c5 g a b x (n - (x + 1)) (x + 1) = false := by simpa using hb5
      have c0 : ((0 : Int) == 0) = true := rfl
      simp only [hb6, Bool.false_eq_true, if_false, Option.bind_some, getTV_here, getTV_next, c0, cond_true, w, ih (x + 1) (by omega), Bool.false_or]
theorem c_l07Crossing_5 (n : Nat) (hn : n ≤ 8) (g : Nat → Nat) (a : Nat) (ha : a < n) : ∀ (d x : Nat), x + d = n →
    R is_l07Crossing_5 [tAi8 (A8 n g), tI (n : Int), tI (a : Int), tI (x : Int)] = some (if c3 n g a d x then [tI 1, tB true] else [tI 0, tAi8 (A8 n g), tI (n : Int), tI (a : Int)]) := by
  intro d
  induction d with
  | zero =>
    intro x hx
    apply vs_l07Crossing_5
    have h1 : ¬ ((x : Int) < (n : Int)) := by omega
    simp only [bs_l07Crossing_5, decide_eq_false h1, cond_false, c3]
    rfl
  | succ d ih =>
    intro x hx
    apply vs_l07Crossing_5
    have hxn : x < n := by omega
    have h1 : ((x : Int) < (n : Int)) := by omega
    have w : wi64 ((x : Int) + 1) = ((x + 1 : Nat) : Int) := by rw [wrap_i64] <;> omega
    have h5 := c_l07Crossing_8 n hn g a x ha hxn (n - (x + 1)) (x + 1) (by omega)
    simp only [bs_l07Crossing_5, decide_eq_true h1, cond_true, w, h5, c3]
    by_cases hb5 : c4 n g a x (n - (x + 1)) (x + 1) = true
    · simp only [hb5, if_true, Bool.true_or]
      rfl
    · have hb6 : c4 n g a x (n - (x + 1)) (x + 1) = false := by simpa using hb5
      have c0 : ((0 : Int) == 0) = true := rfl
      simp only [hb6, Bool.false_eq_true, if_false, Option.bind_some, getTV_here, getTV_next, c0, cond_true, w, ih (x + 1) (by omega), Bool.false_or]
theorem c_l07Crossing_2 (n : Nat) (hn : n ≤ 8) (g : Nat → Nat) : ∀ (d x : Nat), x + d = n →
    R is_l07Crossing_2 [tAi8 (A8 n g), tI (n : Int), tI (x : Int)] = some (if c2 n g d x then [tI 1, tB true] else [tI 0]) := by
  intro d
  induction d with
  | zero =>
    intro x hx
    apply vs_l07Crossing_2
    have h1 : ¬ ((x : Int) < (n : Int)) := by omega
    simp only [bs_l07Crossing_2, decide_eq_false h1, cond_false, c2]
    rfl
  | succ d ih =>
    intro x hx
    apply vs_l07Crossing_2
    have hxn : x < n := by omega
    have h1 : ((x : Int) < (n : Int)) := by omega
    have w : wi64 ((x : Int) + 1) = ((x + 1 : Nat) : Int) := by rw [wrap_i64] <;> omega
    have h5 := c_l07Crossing_5 n hn g x hxn (n - (x + 1)) (x + 1) (by omega)
    simp only [bs_l07Crossing_2, decide_eq_true h1, cond_true, w, h5, c2]
    by_cases hb5 : c3 n g x (n - (x + 1)) (x + 1) = true
    · simp only [hb5, if_true, Bool.true_or]
      rfl
    · have hb6 : c3 n g x (n - (x + 1)) (x + 1) = false := by simpa using hb5
      have c0 : ((0 : Int) == 0) = true := rfl
      simp only [hb6, Bool.false_eq_true, if_false, Option.bind_some, getTV_here, getTV_next, c0, cond_true, w, ih (x + 1) (by omega), Bool.false_or]
theorem c_l07Crossing (n : Nat) (hn : n ≤ 8) (g : Nat → Nat) : R is_l07Crossing [tAi8 (A8 n g), tI (n : Int)] = some [tB (crs n g)] := by
  apply vs_l07Crossing
  have h2 := c_l07Crossing_2 n hn g n 0 (by omega)
  simp only [Int.natCast_zero] at h2
  simp only [bs_l07Crossing, h2, Option.bind_some, crs]
  cases c2 n g n 0 <;> rfl
/-! ### is it a part -/
/-- A part of n strands: the made array of labels that do not cross. -/
def IsP (n : Nat) (a : List Int) : Prop := ∃ g, Can n g ∧ crs n g = false ∧ a = A8 n (mdf n g)
open Classical in
noncomputable def isPt (a : List Int) (k : Int) : Bool := decide (1 ≤ k ∧ k ≤ 8 ∧ IsP k.toNat a)
theorem tAi8_inj {x y : List Int} (h : tAi8 x = tAi8 y) : x = y := by
  have := congrArg (fun t => gAi8 [t] 0) h
  simpa using this
theorem decp_t {p : Prop} {i : Decidable p} (h : p) : @decide p i = true := decide_eq_true h
theorem decp_f {p : Prop} {i : Decidable p} (h : ¬ p) : @decide p i = false := decide_eq_false h
theorem beq_ll (a b : List Int) : (a == b) = decide (a = b) := by rw [Bool.eq_iff_iff]; simp
theorem c_l07Is (a : List Int) (ha : B8 a) (k : Int) : R is_l07Is [tA8 a, tI k] = some [tB (isPt a k)] := by
  apply vs_l07Is
  simp only [bs_l07Is, c_l01In, Option.bind_some, getTV_here, isPt]
  by_cases h1 : 1 ≤ k ∧ k ≤ 8
  · have x1 := h1.1
    have x2 := h1.2
    obtain ⟨n, rfl⟩ : ∃ n : Nat, k = n := ⟨k.toNat, by omega⟩
    simp only [decide_eq_true x1, decide_eq_true x2, Bool.and_true, Bool.not_true, cond_false]
    have hn : n ≤ 8 := by omega
    rcases ex_l07Least n hn a ha with ⟨x, r1, r2⟩ | ⟨l, r1, r2⟩
    · have hP : ¬ (1 ≤ (n : Int) ∧ (n : Int) ≤ 8 ∧ IsP (n : Int).toNat a) := by
        rintro ⟨_, _, g, hg, _, rfl⟩
        obtain ⟨s, hs, _⟩ := mdf_pm hg
        exact r2 ⟨s, hs⟩
      simp only [r1, Option.bind_some, getTV_here, getTV_next, cond_false, decp_f hP]
    · simp only [r2, Option.bind_some, getTV_here, getTV_next, cond_true, c_l07Made n hn l r1, beq_ll]
      by_cases he : A8 n (mdf n l) = a
      · simp only [decide_eq_true he, cond_true, c_l07Crossing n hn l, Option.bind_some, getTV_here]
        by_cases hc : crs n l = false
        · have hP : (1 ≤ (n : Int) ∧ (n : Int) ≤ 8 ∧ IsP (n : Int).toNat a) := ⟨x1, x2, l, r1, hc, he.symm⟩
          rw [decp_t hP, hc]
          rfl
        · have hP : ¬ (1 ≤ (n : Int) ∧ (n : Int) ≤ 8 ∧ IsP (n : Int).toNat a) := by
            rintro ⟨_, _, g, hg, hc', ha'⟩
            rw [Int.toNat_natCast] at hg hc' ha'
            subst ha'
            have h2 := c_l07Least n hn g hg
            rw [h2] at r2
            simp only [Option.some.injEq, List.cons.injEq, and_true] at r2
            have e3 := tAi8_inj r2
            exact hc (by rw [← crs_congr (A8_inj hn e3)]; exact hc')
          have hc1 : crs n l = true := by simpa using hc
          rw [decp_f hP, hc1]
          rfl
      · have hP : ¬ (1 ≤ (n : Int) ∧ (n : Int) ≤ 8 ∧ IsP (n : Int).toNat a) := by
          rintro ⟨_, _, g, hg, hc', ha'⟩
          rw [Int.toNat_natCast] at hg hc' ha'
          subst ha'
          have h2 := c_l07Least n hn g hg
          rw [h2] at r2
          simp only [Option.some.injEq, List.cons.injEq, and_true] at r2
          have e3 := tAi8_inj r2
          exact he (A8_congr (fun x hx => (mdf_congr (A8_inj hn e3) hx).symm))
        simp only [decide_eq_false he, cond_false, decp_f hP]
  · have hd : (decide (1 ≤ k) && decide (k ≤ 8)) = false := by
      rw [← Bool.decide_and]
      exact decide_eq_false h1
    have hP : ¬ (1 ≤ k ∧ k ≤ 8 ∧ IsP k.toNat a) := fun h => h1 ⟨h.1, h.2.1⟩
    simp only [hd, Bool.not_false, cond_true, decp_f hP]
end Go.Ev.Ytadjhggdddbicaa
