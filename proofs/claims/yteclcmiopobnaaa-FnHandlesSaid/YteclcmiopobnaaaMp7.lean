/- Labels of any permutation: both packages find the same. -/
import Derived.Test.YteclcmiopobnaaaMp6
set_option linter.unusedVariables false
set_option linter.unusedSimpArgs false
namespace Go.Ev.Yteclcmiopobnaaa.P
open Go.Ev.Yteclcmiopobnaaa
open Go.Ev Go.Gar
/-- On one cycle. -/
inductive Eo {n : Nat} (s : Pm n) : Nat → Nat → Prop
  | re (x : Nat) : Eo s x x
  | st (x : Nat) : Eo s x (s.f x)
  | sy {x y : Nat} : Eo s x y → Eo s y x
  | tr {x y z : Nat} : Eo s x y → Eo s y z → Eo s x z
structure Lb (n : Nat) (s : Pm n) (l : Nat → Nat) : Prop where
  can : Can n l
  inv : ∀ x, x < n → l (s.f x) = l x
  orb : ∀ x, x < n → Eo s x (l x)
theorem Eo.same {n : Nat} {s : Pm n} {l : Nat → Nat} (h : ∀ x, x < n → l (s.f x) = l x) {x y : Nat} (e : Eo s x y) : (x < n ↔ y < n) ∧ (x < n → l x = l y) := by
  induction e with
  | re x => exact ⟨Iff.rfl, fun _ => rfl⟩
  | st x =>
    refine ⟨⟨fun hx => s.lt hx, fun hx => ?_⟩, fun hx => (h x hx).symm⟩
    apply Classical.byContradiction
    intro hne
    rw [s.out x (by omega)] at hx
    exact hne hx
  | sy _ ih => exact ⟨ih.1.symm, fun hy => (ih.2 (ih.1.2 hy)).symm⟩
  | tr _ _ i1 i2 => exact ⟨i1.1.trans i2.1, fun hx => (i1.2 hx).trans (i2.2 (i1.1.1 hx))⟩
theorem Lb.le {n : Nat} {s : Pm n} {l l' : Nat → Nat} (h : Lb n s l) (h' : Lb n s l') {x : Nat} (hx : x < n) : l' x ≤ l x := by
  have e := (h.orb x hx).same h'.inv
  have h1 := e.2 hx
  have h2 := (h'.can (l x) (e.1.1 hx)).1
  omega
theorem Lb.unique {n : Nat} {s : Pm n} {l l' : Nat → Nat} (h : Lb n s l) (h' : Lb n s l') {x : Nat} (hx : x < n) : l x = l' x := Nat.le_antisymm (h'.le h hx) (h.le h' hx)
/-! ### the program -/
theorem lb_groupsOf_3 (n : Nat) (hn : n ≤ 8) (s : Pm n) : ∀ i, i ≤ n → ∀ G : Nat → Nat, Can n G → (∀ x, x < i → G (s.f x) = G x) → (∀ x, x < n → Eo s x (G x)) →
    ∃ G' : Nat → Nat, Lb n s G' ∧ R ii_groupsOf_3 [tA8 (sA s), tLI (Gl n G), tI (n : Int), tI (n : Int), tI (i : Int)] = some [tI 0, tA8 (sA s), tLI (Gl n G')] := by
  refine up_loop _ (fun G hG h1 h2 => ?_) (fun i hi ih G hG h1 h2 => ?_)
  · refine ⟨G, ⟨hG, h1, h2⟩, ?_⟩
    apply vi_groupsOf_3
    have h1 : ¬ ((n : Int) < (n : Int)) := by omega
    simp only [bi_groupsOf_3, decide_eq_false h1, cond_false]
  · have hf := s.lt hi
    have v1 : ((i : Int) < (n : Int)) := by omega
    have u1 : ((i : Int) < 8) := by omega
    have u2 : ((0 : Int) ≤ (i : Int)) := by omega
    have w : wi64 ((i : Int) + 1) = ((i + 1 : Nat) : Int) := by rw [wrap_i64] <;> omega
    have w2 : wi64 ((s.f i : Nat) : Int) = ((s.f i : Nat) : Int) := by rw [wrap_i64] <;> omega
    have v2 : ¬ ((n : Int) ≤ ((s.f i : Nat) : Int)) := by omega
    have hm : mrg G i (s.f i) i = mrg G i (s.f i) (s.f i) := by
      unfold mrg
      by_cases h : G i ≤ G (s.f i)
      · rw [Nat.max_eq_right h, Nat.min_eq_left h, if_pos rfl]
        split
        · rfl
        · rfl
      · rw [Nat.max_eq_left (by omega), Nat.min_eq_right (by omega), if_pos rfl]
        split
        · rfl
        · rfl
    have hmc : ∀ x y, G x = G y → mrg G i (s.f i) x = mrg G i (s.f i) y := by
      intro x y h
      unfold mrg
      rw [h]
    have e0 : Eo s (G i) (G (s.f i)) := ((h2 i hi).sy.tr (Eo.st i)).tr (h2 _ hf)
    have emm : Eo s (max (G i) (G (s.f i))) (min (G i) (G (s.f i))) := by
      by_cases h : G i ≤ G (s.f i)
      · rw [Nat.max_eq_right h, Nat.min_eq_left h]
        exact e0.sy
      · rw [Nat.max_eq_left (by omega), Nat.min_eq_right (by omega)]
        exact e0
    obtain ⟨G', r1, r2⟩ := ih (mrg G i (s.f i)) (mrg_can hG hi hf) (fun x hx => by
      by_cases h : x = i
      · rw [h]; exact hm.symm
      · exact hmc _ _ (h1 x (by omega))) (fun x hx => by
      unfold mrg
      by_cases h : G x = max (G i) (G (s.f i))
      · rw [if_pos h]
        have := h2 x hx
        rw [h] at this
        exact this.tr emm
      · rw [if_neg h]
        exact h2 x hx)
    refine ⟨G', r1, ?_⟩
    apply vi_groupsOf_3
    simp only [bi_groupsOf_3, decide_eq_true v1, decide_eq_true u1, decide_eq_true u2, cond_true, Bool.and_true, Int.toNat_natCast, sA_get hi hn, w2, decide_eq_false v2, cond_false, c_merge n hn G i (s.f i) hi hf, Option.bind_some, getTV_here, w, r2]
theorem lb_groupsOf (n : Nat) (hn : n ≤ 8) (s : Pm n) : ∃ (l : Nat → Nat) (b : Bool), Lb n s l ∧ R ii_groupsOf [tA8 (sA s), tI (n : Int)] = some [tLI (Gl n l), tB b] := by
  have hid : Can n id := fun x _ => ⟨Nat.le_refl _, rfl⟩
  obtain ⟨l, r1, r2⟩ := lb_groupsOf_3 n hn s 0 (Nat.zero_le _) id hid (fun x h => by omega) (fun x _ => Eo.re x)
  simp only [Int.natCast_zero] at r2
  refine ⟨l, decide (A8 n (mdf n l) = sA s), r1, ?_⟩
  apply vi_groupsOf
  have c0 : ((0 : Int) == 0) = true := rfl
  simp only [bi_groupsOf, c_fineGroups n hn, r2, Option.bind_some, getTV_here, getTV_next, c0, cond_true, c_part n hn l r1.can, beq_ll]
/-! ### the reference -/
/-- What is seen is whole cycles. -/
structure Cl (n i : Nat) (s : Pm n) (l : Nat → Nat) (S : Nat → Bool) : Prop where
  L : Li n i l S
  f : ∀ x, x < n → S x = true → S (s.f x) = true ∧ l (s.f x) = l x
  p : ∀ y, y < n → S y = true → ∃ x, x < n ∧ S x = true ∧ s.f x = y
  e : ∀ x, x < n → S x = true → Eo s x (l x)
/-- Within a cycle. -/
structure Cm (n i : Nat) (s : Pm n) (l : Nat → Nat) (S : Nat → Bool) (q : Nat) : Prop where
  L : Li n i l S
  f : ∀ x, x < n → S x = true → (s.f x = q ∧ l x = i) ∨ (S (s.f x) = true ∧ l (s.f x) = l x)
  p : ∀ y, y < n → S y = true → y ≠ i → ∃ x, x < n ∧ S x = true ∧ s.f x = y
  e : ∀ x, x < n → S x = true → Eo s x (l x)
  t : S q = true → q = i ∧ l i = i ∧ ∃ x, x < n ∧ S x = true ∧ s.f x = i
  b : (q = i ∧ S i = false) ∨ (S i = true ∧ l i = i ∧ ∃ x, x < n ∧ S x = true ∧ s.f x = q)
  o : Eo s i q
def up (l : Nat → Nat) (q i x : Nat) : Nat := if x = q then i else l x
def uS (S : Nat → Bool) (q x : Nat) : Bool := if x = q then true else S x
end Go.Ev.Yteclcmiopobnaaa.P
