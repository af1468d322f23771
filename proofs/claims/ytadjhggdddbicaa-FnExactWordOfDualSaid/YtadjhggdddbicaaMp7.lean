/- Labels of any permutation: both packages find the same. -/
import Derived.Test.YtadjhggdddbicaaMp6
set_option linter.unusedVariables false
set_option linter.unusedSimpArgs false
namespace Go.Ev.Ytadjhggdddbicaa
open Go.Ev Go.Gar
/-- On one cycle. -/
inductive Eo {n : Nat} (s : Pm n) : Nat → Nat → Prop
  | re (x : Nat) : Eo s x x
  | st (x : Nat) : Eo s x (s.f x)
  | sy {x y : Nat} : Eo s x y → Eo s y x
  | tr {x y z : Nat} : Eo s x y → Eo s y z → Eo s x z
structure Lb (n : Nat) (s : Pm n) (l : Nat → Nat) : Prop where
  can : Can n l
  inv : ∀ x, x < n → l (s.f x) = l x
  orb : ∀ x, x < n → Eo s x (l x)
theorem Eo.same {n : Nat} {s : Pm n} {l : Nat → Nat} (h : ∀ x, x < n → l (s.f x) = l x) {x y : Nat} (e : Eo s x y) : (x < n ↔ y < n) ∧ (x < n → l x = l y) := by
  induction e with
  | re x => exact ⟨Iff.rfl, fun _ => rfl⟩
  | st x =>
    refine ⟨⟨fun hx => s.lt hx, fun hx => ?_⟩, fun hx => (h x hx).symm⟩
    apply Classical.byContradiction
    intro hne
    rw [s.out x (by omega)] at hx
    exact hne hx
  | sy _ ih => exact ⟨ih.1.symm, fun hy => (ih.2 (ih.1.2 hy)).symm⟩
  | tr _ _ i1 i2 => exact ⟨i1.1.trans i2.1, fun hx => (i1.2 hx).trans (i2.2 (i1.1.1 hx))⟩
theorem Lb.le {n : Nat} {s : Pm n} {l l' : Nat → Nat} (h : Lb n s l) (h' : Lb n s l') {x : Nat} (hx : x < n) : l' x ≤ l x := by
  have e := (h.orb x hx).same h'.inv
  have h1 := e.2 hx
  have h2 := (h'.can (l x) (e.1.1 hx)).1
  omega
theorem Lb.unique {n : Nat} {s : Pm n} {l l' : Nat → Nat} (h : Lb n s l) (h' : Lb n s l') {x : Nat} (hx : x < n) : l x = l' x := Nat.le_antisymm (h'.le h hx) (h.le h' hx)
/-! ### the program -/
theorem lb_groupsOf_3 (n : Nat) (hn : n ≤ 8) (s : Pm n) : ∀ i, i ≤ n → ∀ G : Nat → Nat, Can n G → (∀ x, x < i → G (s.f x) = G x) → (∀ x, x < n → Eo s x (G x)) →
    ∃ G' : Nat → Nat, Lb n s G' ∧ R ii_groupsOf_3 [tA8 (sA s), tLI (Gl n G), tI (n : Int), tI (n : Int), tI (i : Int)] = some [tI 0, tA8 (sA s), tLI (Gl n G')] := by
  refine up_loop _ (fun G hG h1 h2 => ?_) (fun i hi ih G hG h1 h2 => ?_)
  · refine ⟨G, ⟨hG, h1, h2⟩, ?_⟩
    apply vi_groupsOf_3
    have h1 : ¬ ((n : Int) < (n : Int)) := by omega
    simp only [bi_groupsOf_3, decide_eq_false h1, cond_false]
  · have hf := s.lt hi
    have v1 : ((i : Int) < (n : Int)) := by omega
    have u1 : ((i : Int) < 8) := by omega
    have u2 : ((0 : Int) ≤ (i : Int)) := by omega
    have w : wi64 ((i : Int) + 1) = ((i + 1 : Nat) : Int) := by rw [wrap_i64] <;> omega
    have w2 : wi64 ((s.f i : Nat) : Int) = ((s.f i : Nat) : Int) := by rw [wrap_i64] <;> omega
    have v2 : ¬ ((n : Int) ≤ ((s.f i : Nat) : Int)) := by omega
    have hm : mrg G i (s.f i) i = mrg G i (s.f i) (s.f i) := by
      unfold mrg
      by_cases h : G i ≤ G (s.f i)
      · rw [Nat.max_eq_right h, Nat.min_eq_left h, if_pos rfl]
        split
        · rfl
        · rfl
      · rw [Nat.max_eq_left (by omega), Nat.min_eq_right (by omega), if_pos rfl]
        split
        · rfl
        · rfl
    have hmc : ∀ x y, G x = G y → mrg G i (s.f i) x = mrg G i (s.f i) y := by
      intro x y h
      unfold mrg
      rw [h]
    have e0 : Eo s (G i) (G (s.f i)) := ((h2 i hi).sy.tr (Eo.st i)).tr (h2 _ hf)
    have emm : Eo s (max (G i) (G (s.f i))) (min (G i) (G (s.f i))) := by
      by_cases h : G i ≤ G (s.f i)
      · rw [Nat.max_eq_right h, Nat.min_eq_left h]
        exact e0.sy
      · rw [Nat.max_eq_left (by omega), Nat.min_eq_right (by omega)]
        exact e0
    obtain ⟨G', r1, r2⟩ := ih (mrg G i (s.f i)) (mrg_can hG hi hf) (fun x hx => by
      by_cases h : x = i
      · rw [h]; exact hm.symm
      · exact hmc _ _ (h1 x (by omega))) (fun x hx => by
      unfold mrg
      by_cases h : G x = max (G i) (G (s.f i))
      · rw [if_pos h]
        have := h2 x hx
        rw [h] at this
        exact this.tr emm
      · rw [if_neg h]
        exact h2 x hx)
    refine ⟨G', r1, ?_⟩
    apply vi_groupsOf_3
    simp only [bi_groupsOf_3, decide_eq_true v1, decide_eq_true u1, decide_eq_true u2, cond_true, Bool.and_true, Int.toNat_natCast, sA_get hi hn, w2, decide_eq_false v2, cond_false, c_merge n hn G i (s.f i) hi hf, Option.bind_some, getTV_here, w, r2]
theorem lb_groupsOf (n : Nat) (hn : n ≤ 8) (s : Pm n) : ∃ (l : Nat → Nat) (b : Bool), Lb n s l ∧ R ii_groupsOf [tA8 (sA s), tI (n : Int)] = some [tLI (Gl n l), tB b] := by
  have hid : Can n id := fun x _ => ⟨Nat.le_refl _, rfl⟩
  obtain ⟨l, r1, r2⟩ := lb_groupsOf_3 n hn s 0 (Nat.zero_le _) id hid (fun x h => by omega) (fun x _ => Eo.re x)
  simp only [Int.natCast_zero] at r2
  refine ⟨l, decide (A8 n (mdf n l) = sA s), r1, ?_⟩
  apply vi_groupsOf
  have c0 : ((0 : Int) == 0) = true := rfl
  simp only [bi_groupsOf, c_fineGroups n hn, r2, Option.bind_some, getTV_here, getTV_next, c0, cond_true, c_part n hn l r1.can, beq_ll]
/-! ### the reference -/
/-- What is seen is whole cycles. -/
structure Cl (n i : Nat) (s : Pm n) (l : Nat → Nat) (S : Nat → Bool) : Prop where
  L : Li n i l S
  f : ∀ x, x < n → S x = true → S (s.f x) = true ∧ l (s.f x) = l x
  p : ∀ y, y < n → S y = true → ∃ x, x < n ∧ S x = true ∧ s.f x = y
  e : ∀ x, x < n → S x = true → Eo s x (l x)
/-- Within a cycle. -/
structure Cm (n i : Nat) (s : Pm n) (l : Nat → Nat) (S : Nat → Bool) (q : Nat) : Prop where
  L : Li n i l S
  f : ∀ x, x < n → S x = true → (s.f x = q ∧ l x = i) ∨ (S (s.f x) = true ∧ l (s.f x) = l x)
  p : ∀ y, y < n → S y = true → y ≠ i → ∃ x, x < n ∧ S x = true ∧ s.f x = y
  e : ∀ x, x < n → S x = true → Eo s x (l x)
  t : S q = true → q = i ∧ l i = i ∧ ∃ x, x < n ∧ S x = true ∧ s.f x = i
  b : (q = i ∧ S i = false) ∨ (S i = true ∧ l i = i ∧ ∃ x, x < n ∧ S x = true ∧ s.f x = q)
  o : Eo s i q
def up (l : Nat → Nat) (q i x : Nat) : Nat := if x = q then i else l x
def uS (S : Nat → Bool) (q x : Nat) : Bool := if x = q then true else S x
theorem lb_14 (n : Nat) (hn : n ≤ 8) (s : Pm n) (x1 : List Int) (i : Nat) (hi : i < n) : ∀ (m q : Nat) (l : Nat → Nat) (S : Nat → Bool), q < n → (List.range n).countP (fun x => !S x) ≤ m → Cm n i s l S q →
    ∃ (l' : Nat → Nat) (S' : Nat → Bool), R is_l07Least_14 [tA8 (sA s), tAi8 x1, tAi8 (A8 n l), tAB8 (Bo S), tI (n : Int), tI (i : Int), tI (q : Int)] =
      some [tI 0, tA8 (sA s), tAi8 x1, tAi8 (A8 n l'), tAB8 (Bo S'), tI (n : Int), tI (i : Int)] ∧ Cl n (i + 1) s l' S' := by
  have stop : ∀ (q : Nat) (l : Nat → Nat) (S : Nat → Bool), q < n → Cm n i s l S q → S q = true → ∃ (l' : Nat → Nat) (S' : Nat → Bool), R is_l07Least_14 [tA8 (sA s), tAi8 x1, tAi8 (A8 n l), tAB8 (Bo S), tI (n : Int), tI (i : Int), tI (q : Int)] =
      some [tI 0, tA8 (sA s), tAi8 x1, tAi8 (A8 n l'), tAB8 (Bo S'), tI (n : Int), tI (i : Int)] ∧ Cl n (i + 1) s l' S' := by
    intro q l S hq C hS
    obtain ⟨e1, e2, e3⟩ := C.t hS
    subst e1
    refine ⟨l, S, least_stop _ _ _ _ _ _ q (by omega) hS, ⟨C.L.c, fun x hx => ?_⟩, fun x hx hSx => ?_, fun y hy hSy => ?_, C.e⟩
    · by_cases h : x = q
      · rw [h]; exact hS
      · exact C.L.b x (by omega)
    · rcases C.f x hx hSx with ⟨h1, h2⟩ | h
      · rw [h1, h2]
        exact ⟨hS, e2⟩
      · exact h
    · by_cases h : y = q
      · rw [h]; exact e3
      · exact C.p y hy hSy h
  intro m
  induction m with
  | zero =>
    intro q l S hq hc C
    by_cases hS : S q = true
    · exact stop q l S hq C hS
    · have := List.countP_pos_iff (p := fun x => !S x) (l := List.range n) |>.2 ⟨q, List.mem_range.2 hq, by simp [hS]⟩
      omega
  | succ m ih =>
    intro q l S hq hc C
    by_cases hS : S q = true
    · exact stop q l S hq C hS
    · have hS' : S q = false := by simpa using hS
      have hqi : i ≤ q := by
        apply Classical.byContradiction
        intro h
        exact hS (C.L.b q (by omega))
      have hsq := s.lt hq
      -- the new state
      have hl1 : (up l q i) i = i := by
        show (if i = q then i else l i) = i
        rcases C.b with ⟨h, _⟩ | ⟨_, h, _⟩
        · rw [if_pos h.symm]
        · split
          · rfl
          · exact h
      have hs1 : (uS S q) i = true := by
        show (if i = q then true else S i) = true
        rcases C.b with ⟨h, _⟩ | ⟨h, _⟩
        · rw [if_pos h.symm]
        · split
          · rfl
          · exact h
      have hsub : ∀ x, S x = true → (uS S q) x = true := fun x hx => by
        show (if x = q then true else S x) = true
        split
        · rfl
        · exact hx
      have hlx : ∀ x, S x = true → (up l q i) x = l x := fun x hx => by
        show (if x = q then i else l x) = l x
        rw [if_neg (fun h => by rw [h] at hx; exact hS hx)]
      have hor : ∀ x, (uS S q) x = true → x = q ∨ S x = true := fun x hx => by
        by_cases h : x = q
        · exact .inl h
        · right
          have hx' : (if x = q then true else S x) = true := hx
          rw [if_neg h] at hx'
          exact hx'
      have L1 : Li n i (up l q i) (uS S q) := by
        refine ⟨fun x hx hSx => ?_, fun x hx => hsub x (C.L.b x hx)⟩
        rcases hor x hSx with h | h
        · subst h
          have e : (up l x i) x = i := if_pos rfl
          rw [e]
          exact ⟨hqi, hs1, hl1⟩
        · obtain ⟨q1, q2, q3⟩ := C.L.c x hx h
          rw [hlx x h]
          exact ⟨q1, hsub _ q2, by rw [hlx _ q2]; exact q3⟩
      have hqq : (uS S q) q = true := if_pos rfl
      have hlq : (up l q i) q = i := if_pos rfl
      have hC1 : Cm n i s (up l q i) (uS S q) (s.f q) := by
        refine ⟨L1, fun x hx hSx => ?_, fun y hy hSy hyi => ?_, fun x hx hSx => ?_, fun hSs => ?_, .inr ⟨hs1, hl1, q, hq, hqq, rfl⟩, C.o.tr (Eo.st q)⟩
        · rcases hor x hSx with h | h
          · subst h
            exact .inl ⟨rfl, hlq⟩
          · rcases C.f x hx h with ⟨h1, h2⟩ | ⟨h1, h2⟩
            · right
              rw [h1, hlx x h, h2]
              exact ⟨hqq, hlq⟩
            · right
              rw [hlx _ h1, hlx x h]
              exact ⟨hsub _ h1, h2⟩
        · rcases hor y hSy with h | h
          · subst h
            rcases C.b with ⟨h1, _⟩ | ⟨_, _, x, hx, hx1, hx2⟩
            · exact (hyi h1).elim
            · exact ⟨x, hx, hsub x hx1, hx2⟩
          · obtain ⟨x, hx, hx1, hx2⟩ := C.p y hy h hyi
            exact ⟨x, hx, hsub x hx1, hx2⟩
        · rcases hor x hSx with h | h
          · subst h
            rw [hlq]
            exact C.o.sy
          · rw [hlx x h]
            exact C.e x hx h
        · have hfi : s.f q = i := by
            apply Classical.byContradiction
            intro hne
            rcases hor _ hSs with h | h
            · rcases C.b with ⟨h1, _⟩ | ⟨_, _, x, hx, hx1, hx2⟩
              · rw [h, h1] at hne
                exact hne rfl
              · have : x = q := s.inj (by rw [hx2, h])
                rw [this] at hx1
                exact hS hx1
            · obtain ⟨x, hx, hx1, hx2⟩ := C.p _ hsq h hne
              have : x = q := s.inj hx2
              rw [this] at hx1
              exact hS hx1
          exact ⟨hfi, hl1, q, hq, hqq, hfi⟩
      have hc' : (List.range n).countP (fun x => !(uS S q) x) ≤ m := by
        have := Pm.countP_lt (p := fun x => !(uS S q) x) (q := fun x => !S x) (l := List.range n) (x := q) (fun y _ hy => by
          by_cases h : y = q
          · simp [h, uS] at hy
          · simpa [h, uS] using hy) (List.mem_range.2 hq) (by simp [uS]) (by simp [hS'])
        omega
      obtain ⟨l', S', r1, r2⟩ := ih (s.f q) _ _ hsq hc' hC1
      exact ⟨l', S', least_go n hn s.f l x1 S i q hi hq hsq hS' r1, r2⟩
theorem lb_11 (n : Nat) (hn : n ≤ 8) (s : Pm n) (x1 : List Int) : ∀ i, i ≤ n → ∀ (l : Nat → Nat) (S : Nat → Bool), Cl n i s l S →
    ∃ l' : Nat → Nat, R is_l07Least_11 [tA8 (sA s), tAi8 x1, tAi8 (A8 n l), tAB8 (Bo S), tI (n : Int), tI (i : Int)] = some [tI 0, tAi8 x1, tAi8 (A8 n l')] ∧ Lb n s l' := by
  refine up_loop _ (fun l S C => ?_) (fun i hi ih l S C => ?_)
  · have hS : ∀ x, x < n → S x = true := C.L.b
    refine ⟨l, ?_, fun x hx => ⟨(C.L.c x hx (hS x hx)).1, (C.L.c x hx (hS x hx)).2.2⟩, fun x hx => (C.f x hx (hS x hx)).2, fun x hx => C.e x hx (hS x hx)⟩
    apply vs_l07Least_11
    have h1 : ¬ ((n : Int) < (n : Int)) := by omega
    simp only [bs_l07Least_11, decide_eq_false h1, cond_false]
  · have hin : ∃ (l1 : Nat → Nat) (S1 : Nat → Bool), R is_l07Least_14 [tA8 (sA s), tAi8 x1, tAi8 (A8 n l), tAB8 (Bo S), tI (n : Int), tI (i : Int), tI (i : Int)] =
      some [tI 0, tA8 (sA s), tAi8 x1, tAi8 (A8 n l1), tAB8 (Bo S1), tI (n : Int), tI (i : Int)] ∧ Cl n (i + 1) s l1 S1 := by
      by_cases hS : S i = true
      · refine ⟨l, S, least_stop _ _ _ _ _ _ i (by omega) hS, ⟨C.L.c, fun x hx => ?_⟩, C.f, C.p, C.e⟩
        by_cases h : x = i
        · rw [h]; exact hS
        · exact C.L.b x (by omega)
      · have hS' : S i = false := by simpa using hS
        exact lb_14 n hn s x1 i hi _ i l S hi (Nat.le_refl _) ⟨C.L, fun x hx h => .inr (C.f x hx h), fun y hy h _ => C.p y hy h, C.e, fun h => (hS h).elim, .inl ⟨rfl, hS'⟩, Eo.re i⟩
    obtain ⟨l1, S1, r1, r2⟩ := hin
    obtain ⟨l', r3, r4⟩ := ih l1 S1 r2
    refine ⟨l', ?_, r4⟩
    apply vs_l07Least_11
    have h1 : ((i : Int) < (n : Int)) := by omega
    have w : wi64 ((i : Int) + 1) = ((i + 1 : Nat) : Int) := by rw [wrap_i64] <;> omega
    simp only [bs_l07Least_11, decide_eq_true h1, cond_true, r1, Option.bind_some, getTV_here, getTV_next, w, r3]
theorem lb_l07Least (n : Nat) (hn : n ≤ 8) (s : Pm n) : ∃ l : Nat → Nat, Lb n s l ∧ R is_l07Least [tA8 (sA s), tI (n : Int)] = some [tAi8 (A8 n l), tB true] := by
  have ha := sA_B8 hn s
  have h3 := c_l07Least_3 n hn _ ha (List.replicate 8 0) (List.replicate 8 0) 8 (List.replicate 8 false) (Nat.le_refl _) (by simp)
  rw [if_pos ((chk_sA hn ha).2 ⟨s, rfl⟩)] at h3
  simp only [Nat.sub_self, Int.natCast_zero] at h3
  obtain ⟨l, r1, r2⟩ := lb_11 n hn s (List.replicate 8 0) 0 (Nat.zero_le _) (fun _ => 0) (fun _ => false) ⟨⟨fun x _ h => by simp at h, fun x h => by omega⟩, fun x _ h => by simp at h, fun x _ h => by simp at h, fun x _ h => by simp at h⟩
  rw [← A8_zero, ← Bo_false] at r1
  simp only [Int.natCast_zero] at r1
  refine ⟨l, r2, ?_⟩
  apply vs_l07Least
  have c0 : ((0 : Int) == 0) = true := rfl
  simp only [bs_l07Least, h3, Option.bind_some, getTV_here, getTV_next, c0, cond_true, r1]
/-- The labels of a permutation's cycles. -/
theorem lbl_ex (n : Nat) (hn : n ≤ 8) (s : Pm n) : ∃ l : Nat → Nat, Can n l ∧ R is_l07Least [tA8 (sA s), tI (n : Int)] = some [tAi8 (A8 n l), tB true] ∧ ∃ b, R ii_groupsOf [tA8 (sA s), tI (n : Int)] = some [tLI (Gl n l), tB b] := by
  obtain ⟨l, h1, h2⟩ := lb_l07Least n hn s
  obtain ⟨l', b, h3, h4⟩ := lb_groupsOf n hn s
  refine ⟨l, h1.can, h2, b, ?_⟩
  rw [h4, Gl_congr (fun x hx => h3.unique h1 hx)]
/-- Both make the same meet of permutations. -/
theorem meet_ex (n : Nat) (hn1 : 1 ≤ n) (hn : n ≤ 8) (s t : Pm n) : ∃ r : List Int, r.length = 8 ∧ R is_l07Meet [tA8 (sA s), tA8 (sA t), tI (n : Int)] = some [tA8 r] ∧ R ii_meetParts [tA8 (sA s), tA8 (sA t), tI (n : Int)] = some [tA8 r] := by
  obtain ⟨a, ha, a1, ba, a2⟩ := lbl_ex n hn s
  obtain ⟨b, hb, b1, bb, b2⟩ := lbl_ex n hn t
  refine ⟨A8 n (mdf n (lst a b)), A8_len _ _, ?_, ?_⟩
  · have h5 := c_l07Meet_5 n hn a b (List.replicate 8 0) n (Nat.le_refl _)
    have e : A8 n (fun x => if n ≤ x then lst a b x else 0) = List.replicate 8 0 := by
      rw [A8_zero n]
      apply A8_congr
      intro x hx
      rw [if_neg (by omega)]
    have w : wi64 ((n : Int) - 1) = (n : Int) - 1 := by rw [wrap_i64] <;> omega
    rw [e] at h5
    apply vs_l07Meet
    simp only [bs_l07Meet, a1, b1, Option.bind_some, getTV_here, getTV_next, w, h5, c_l07Made n hn _ (lst_can n a b)]
  · have h5 := c_meetParts_5 n hn a b (List.replicate 8 0) 0 (Nat.zero_le _)
    have e : Gl n (mi a b 0 0) = Gl n id := by
      apply Gl_congr
      intro x _
      unfold mi
      rw [if_neg (by omega)]
      by_cases h : x = 0
      · rw [if_pos h, if_neg (by omega), h]; rfl
      · rw [if_neg h]; rfl
    rw [e] at h5
    simp only [Int.natCast_zero] at h5
    apply vi_meetParts
    simp only [bi_meetParts, a2, b2, c_fineGroups n hn, Option.bind_some, getTV_here, getTV_next, h5, c_part n hn _ (lst_can n a b)]
end Go.Ev.Ytadjhggdddbicaa
