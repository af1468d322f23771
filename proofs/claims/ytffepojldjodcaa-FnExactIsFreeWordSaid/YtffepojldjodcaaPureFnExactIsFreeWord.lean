/- The bare words of IsFreeWord, in the program and in the reference, answer alike for every list of up to 2^20 numbers and every number of letters. -/
import Derived.Test.YtffepojldjodcaaPFnExactIsFreeWordx
set_option linter.unusedVariables false
set_option linter.unusedSimpArgs false
namespace Go.Proofs.Ytffepojldjodcaa.PFnExactIsFreeWord
open Go.RowKit Go.Proofs.YtffepojldjodcaaW.PrintWords Go.Proofs.YtffepojldjodcaaW.PrintLast Go.Proofs.YtffepojldjodcaaW.PrintMore

theorem wf_range {x : Int} (h : (Lit.int .i64 x).wf = true) : -9223372036854775808 ≤ x ∧ x ≤ 9223372036854775807 := by
  simpa [Lit.wf, IntKind.min, IntKind.max, IntKind.signed, IntKind.bits] using h

theorem wrap64_small {n : Int} (h : -9223372036854775808 ≤ n) (h' : n ≤ 9223372036854775807) : wrap64 n = n := by
  unfold wrap64; omega

theorem wrap_neg_swap {x y : Int} (hx : -9223372036854775808 ≤ x ∧ x ≤ 9223372036854775807) (hy : -9223372036854775808 ≤ y ∧ y ≤ 9223372036854775807) :
    (x = wrap64 (-y)) ↔ (y = wrap64 (-x)) := by
  unfold wrap64; omega

theorem rd_range {l : List Int} (hw : ∀ x ∈ l, (Lit.int .i64 x).wf = true) (i : Int) :
    -9223372036854775808 ≤ rd l i ∧ rd l i ≤ 9223372036854775807 := by
  unfold rd
  by_cases h : i.toNat < l.length
  · rw [List.getD_eq_getElem?_getD, List.getElem?_eq_getElem h]
    exact wf_range (hw _ (List.getElem_mem h))
  · rw [List.getD_eq_getElem?_getD, List.getElem?_eq_none (by omega)]
    simp

theorem copy (l : List Int) (hl : l.length ≤ 1048576) : ∀ (n k i : Nat), i + n = l.length → n + 1 ≤ k →
    ∀ xs : List Int, xs.length = l.length → (∀ j, j < i → xs.getD j 0 = l.getD j 0) →
    laws_toInt64S.l0 k l xs (i : Int) = some l := by
  intro n
  induction n with
  | zero =>
    intro k i hi hk xs hx hj
    obtain ⟨k, rfl⟩ : ∃ m, k = m + 1 := ⟨k - 1, by omega⟩
    rw [laws_toInt64S.l0, if_neg (by omega)]
    congr 1
    apply List.ext_getElem hx
    intro j h1 h2
    have := hj j (by omega)
    simpa [List.getD_eq_getElem?_getD, List.getElem?_eq_getElem h1, List.getElem?_eq_getElem h2] using this
  | succ n ih =>
    intro k i hi hk xs hx hj
    obtain ⟨k, rfl⟩ : ∃ m, k = m + 1 := ⟨k - 1, by omega⟩
    rw [laws_toInt64S.l0, if_pos (by omega), if_pos (by omega), if_pos (by omega)]
    rw [wrap64_small (by omega) (by omega), show (i : Int) + 1 = ((i + 1 : Nat) : Int) by omega]
    apply ih k (i + 1) (by omega) (by omega)
    · simp [hx]
    · intro j hj'
      simp only [Int.toNat_natCast, List.getD_eq_getElem?_getD, List.getElem?_set, rd]
      by_cases e : i = j
      · subst e
        rw [if_pos rfl, if_pos (by omega)]
        simp
      · rw [if_neg e]
        have := hj j (by omega)
        simpa [List.getD_eq_getElem?_getD] using this

theorem copied (l : List Int) (hl : l.length ≤ 1048576) (k : Nat) (hk : l.length + 1 ≤ k) : laws_toInt64S.f k l = some l := by
  rw [laws_toInt64S.f, if_pos (by omega), if_pos (by omega)]
  exact copy l hl l.length k 0 (by omega) hk _ (by simp) (by intro j hj; omega)

theorem same (l : List Int) (hl : l.length ≤ 1048576) : ∀ (n k i : Nat), i + n = l.length → n + 1 ≤ k →
    laws_eqInt64S.l0 k l l (i : Int) = some true := by
  intro n
  induction n with
  | zero =>
    intro k i hi hk
    obtain ⟨k, rfl⟩ : ∃ m, k = m + 1 := ⟨k - 1, by omega⟩
    rw [laws_eqInt64S.l0, if_neg (by omega)]
  | succ n ih =>
    intro k i hi hk
    obtain ⟨k, rfl⟩ : ∃ m, k = m + 1 := ⟨k - 1, by omega⟩
    rw [laws_eqInt64S.l0, if_pos (by omega), if_pos (by omega), if_pos (by omega), if_pos rfl]
    rw [wrap64_small (by omega) (by omega), show (i : Int) + 1 = ((i + 1 : Nat) : Int) by omega]
    exact ih k (i + 1) (by omega) (by omega)

theorem samed (l : List Int) (hl : l.length ≤ 1048576) (k : Nat) (hk : l.length + 1 ≤ k) : laws_eqInt64S.f k l l = some true := by
  rw [laws_eqInt64S.f, if_pos rfl]
  exact same l hl l.length k 0 (by omega) hk

theorem rounds (l : List Int) (a : Int) (hl : l.length ≤ 1048576) (ha : 1 ≤ a ∧ a ≤ 8) (hw : ∀ x ∈ l, (Lit.int .i64 x).wf = true) :
    ∀ (n k i : Nat), i + n = l.length → n + 1 ≤ k →
    ∃ b, spec_l08Is.l0 k l a (i : Int) = some b ∧ impl_IsFreeWord.l0 k l a l (l.length : Int) (i : Int) = some b := by
  intro n
  induction n with
  | zero =>
    intro k i hi hk
    obtain ⟨k, rfl⟩ : ∃ m, k = m + 1 := ⟨k - 1, by omega⟩
    refine ⟨true, ?_, ?_⟩
    · rw [spec_l08Is.l0, if_neg (by omega)]
    · rw [impl_IsFreeWord.l0, if_neg (by omega)]
  | succ n ih =>
    intro k i hi hk
    obtain ⟨k, rfl⟩ : ∃ m, k = m + 1 := ⟨k - 1, by omega⟩
    obtain ⟨b, hs, hi'⟩ := ih k (i + 1) (by omega) (by omega)
    have e1 : wrap64 ((i : Int) + 1) = ((i + 1 : Nat) : Int) := by rw [wrap64_small (by omega) (by omega)]; omega
    have cA : (i : Int) < (l.length : Int) := by omega
    have cB : (0 : Int) ≤ (i : Int) := by omega
    rw [spec_l08Is.l0, impl_IsFreeWord.l0, e1]
    simp only [if_pos cA, if_pos cB]
    have hx := rd_range hw (i : Int)
    have hy := rd_range hw (wrap64 ((i : Int) - 1))
    rw [impl_isGenerator.f]
    by_cases z : rd l (i : Int) = 0
    · rw [if_pos z, if_pos z]; exact ⟨false, rfl, rfl⟩
    rw [if_neg z, if_neg z]
    simp only [spec_l01In.f, impl_within.f]
    by_cases c : rd l (i : Int) ≥ wrap64 (-a)
    · simp only [if_pos c]
      simp only [Option.bind_some]
      by_cases d : rd l (i : Int) ≤ a
      · simp only [d, decide_true, if_true]
        by_cases p : (i : Int) > 0
        · have e2 : wrap64 ((i : Int) - 1) = (i : Int) - 1 := wrap64_small (by omega) (by omega)
          have cC : (0 : Int) ≤ wrap64 ((i : Int) - 1) := by omega
          have cD : wrap64 ((i : Int) - 1) < (l.length : Int) := by omega
          simp only [if_pos p, if_pos cC, if_pos cD]
          by_cases q : rd l (i : Int) = wrap64 (-(rd l (wrap64 ((i : Int) - 1))))
          · rw [if_pos q, if_pos ((wrap_neg_swap hx hy).mp q)]; exact ⟨false, rfl, rfl⟩
          · rw [if_neg q, if_neg (fun h => q ((wrap_neg_swap hx hy).mpr h))]; exact ⟨b, hs, hi'⟩
        · rw [if_neg p, if_neg p]; exact ⟨b, hs, hi'⟩
      · simp only [d, decide_false]
        exact ⟨false, rfl, rfl⟩
    · simp only [if_neg c]; exact ⟨false, rfl, rfl⟩

theorem alike (l : List Int) (a : Int) (hl : l.length ≤ 1048576) (hw : ∀ x ∈ l, (Lit.int .i64 x).wf = true) (k : Nat) (hk : l.length + 2 ≤ k) :
    ∃ b, spec_IsFreeWord.f k l a = some b ∧ impl_IsFreeWord.f k l a = some b := by
  obtain ⟨k, rfl⟩ : ∃ m, k = m + 1 := ⟨k - 1, by omega⟩
  simp only [spec_IsFreeWord.f, spec_l08Is.f, impl_IsFreeWord.f, impl_isCount.f, spec_l01In.f, impl_within.f]
  have out : ∃ b, ((spec_l08Is.j0 (k + 1) l a true).bind fun t107 => some t107) = some b ∧ impl_IsFreeWord.j0 (k + 1) l a true = some b := by
    refine ⟨false, ?_, ?_⟩
    · rw [spec_l08Is.j0, if_pos rfl]; rfl
    · rw [impl_IsFreeWord.j0, if_pos rfl]
  by_cases c : a ≥ 1
  · rw [if_pos c]
    by_cases d : a ≤ 8
    · simp only [d, decide_true, Option.bind_some, if_true]
      by_cases e : (l.length : Int) > 4000
      · simp only [e, decide_true]; exact out
      · simp only [e, decide_false]
        rw [spec_l08Is.j0, if_neg (by simp), impl_IsFreeWord.j0, if_neg (by simp)]
        obtain ⟨b, h1, h2⟩ := rounds l a hl ⟨c, d⟩ hw l.length k 0 (by omega) (by omega)
        exact ⟨b, by rw [show (0 : Int) = ((0 : Nat) : Int) from rfl, h1]; rfl, h2⟩
    · simp only [d, decide_false, Option.bind_some]
      exact out
  · rw [if_neg c]
    simp only [Option.bind_some]
    exact out
end Go.Proofs.Ytffepojldjodcaa.PFnExactIsFreeWord
namespace Go.Proofs.Ytffepojldjodcaa.Pure
open Go.RowKit Go.Proofs.Ytffepojldjodcaa.PFnExactIsFreeWord Go.Proofs.YtffepojldjodcaaW.PrintWords
/-- The law's bare words always answer true. -/
theorem FnExactIsFreeWord : laws_FnExactIsFreeWord.Pure := by
  intro l a hm hb hw ha
  refine ⟨l.length + 2, ?_⟩
  rw [laws_FnExactIsFreeWord.f]
  by_cases c : (l.length : Int) > 1048576
  · rw [if_pos c]
  rw [if_neg c, copied l (by omega) _ (by omega)]
  obtain ⟨b, h1, h2⟩ := alike l a (by omega) hw (l.length + 2) (by omega)
  simp only [Option.bind_some, h1, h2, samed l (by omega : l.length ≤ 1048576) (l.length + 2) (by omega), bne_self_eq_false, if_true]
  simp
end Go.Proofs.Ytffepojldjodcaa.Pure
