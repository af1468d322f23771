/- Handles: the plain words, and the first handle. -/
import Derived.Test.YtffepojldjodcaaMb2
set_option linter.unusedVariables false
set_option linter.unusedSimpArgs false
namespace Go.Ev.Ytffepojldjodcaa
open Go.Ev
/-- Small letters, none of them 0. -/
def Lt (w : List Int) : Prop := ∀ x ∈ w, x ≠ 0 ∧ -8 ≤ x ∧ x ≤ 8
theorem Lt.at {w : List Int} (h : Lt w) {i : Nat} (hi : i < w.length) : w[i] ≠ 0 ∧ -8 ≤ w[i] ∧ w[i] ≤ 8 := h _ (List.getElem_mem hi)
theorem c_size (x : Int) (h : -1000000000 ≤ x) (h' : x ≤ 1000000000) : R ii_size [tI x] = some [tI (x.natAbs : Int)] := by
  apply vi_size
  rw [bi_size, wrap_i64 (by omega) (by omega)]
  have : mx x (0 - x) = (x.natAbs : Int) := by simp only [mx]; split <;> omega
  rw [this]
theorem c_index (x : Int) (h : -1000000000 ≤ x) (h' : x ≤ 1000000000) : R is_l06Index [tI x] = some [tI (x.natAbs : Int)] := by
  apply vs_l06Index
  rw [bs_l06Index, wrap_i64 (by omega) (by omega)]
  have : mx x (0 - x) = (x.natAbs : Int) := by simp only [mx]; split <;> omega
  rw [this]
theorem c_sign (x : Int) : R ii_sign [tI x] = some [tI (if 0 < x then 1 else -1)] := by
  apply vi_sign
  by_cases h : 0 < x <;> simp [bi_sign, h]
/-- Where the handle that ends with z begins, looked for below p. -/
def hb (w : List Int) (z : Int) : Nat → Option Nat
  | 0 => none
  | p + 1 => if (List.getD w p 0).natAbs = z.natAbs then (if List.getD w p 0 = -z then some p else none) else if (List.getD w p 0).natAbs + 1 = z.natAbs then none else hb w z p
theorem hb_lt {w : List Int} {z : Int} : ∀ {p k : Nat}, hb w z p = some k → k < p ∧ List.getD w k 0 = -z
  | 0, k, h => by simp [hb] at h
  | p + 1, k, h => by
    unfold hb at h
    split at h
    · split at h
      · simp only [Option.some.injEq] at h
        subst h
        exact ⟨by omega, by assumption⟩
      · simp at h
    · split at h
      · simp at h
      · have := hb_lt h
        exact ⟨by omega, this.2⟩
theorem c_l06Handle_6 (w : List Int) (hw : Lt w) (hl : w.length < 1000000000) (q : Nat) (hq : q < w.length) : ∀ p, p ≤ q →
    R is_l06Handle_6 [tLI w, tI (q : Int), tI (w[q].natAbs : Int), tI ((p : Int) - 1)] = some (match hb w w[q] p with
      | some k => [tI 1, tI (k : Int), tI (q : Int), tB true]
      | none => [tI 0, tLI w, tI (q : Int)]) := by
  intro p hp
  induction p with
  | zero =>
    apply vs_l06Handle_6
    simp [bs_l06Handle_6, hb]
  | succ p ih =>
    have hp' : p < w.length := by omega
    have b1 := hw.at hp'
    have b2 := hw.at hq
    apply vs_l06Handle_6
    rw [show ((p + 1 : Nat) : Int) - 1 = (p : Int) by omega]
    simp (disch := omega) only [bs_l06Handle_6, decide_eq_true, cond_true, Bool.and_true, Int.toNat_natCast, wrap_i64, getD_at hp', getD_at hq, c_index, Option.bind_some, getTV_here, hb, ih]
    by_cases h1 : w[p] = -w[q]
    · simp [h1]
    · have e1 : (w[p] == 0 - w[q]) = false := by simp; omega
      simp only [e1, cond_false, if_neg h1]
      by_cases h2 : w[p].natAbs = w[q].natAbs
      · simp [h2]
      · have e2 : ((w[p].natAbs : Int) == (w[q].natAbs : Int)) = false := by simp; omega
        simp only [e2, cond_false, if_neg h2]
        by_cases h3 : w[p].natAbs + 1 = w[q].natAbs
        · have e3 : ((w[p].natAbs : Int) == (w[q].natAbs : Int) - 1) = true := by simp; omega
          simp [e3, h3]
        · have e3 : ((w[p].natAbs : Int) == (w[q].natAbs : Int) - 1) = false := by simp; omega
          simp [e3, h3]
/-- The first handle that ends at one of the last k letters. -/
def fhk (w : List Int) : Nat → Option (Nat × Nat)
  | 0 => none
  | k + 1 => match hb w (List.getD w (w.length - (k + 1)) 0) (w.length - (k + 1)) with
    | some p => some (p, w.length - (k + 1))
    | none => fhk w k
def fh (w : List Int) : Option (Nat × Nat) := fhk w w.length
theorem fhk_lt {w : List Int} : ∀ {k : Nat} {r : Nat × Nat}, k ≤ w.length → fhk w k = some r → r.1 < r.2 ∧ r.2 < w.length ∧ List.getD w r.1 0 = -List.getD w r.2 0
  | 0, r, hk, h => by simp [fhk] at h
  | k + 1, r, hk, h => by
    unfold fhk at h
    split at h
    · rename_i p hp
      have := hb_lt hp
      simp only [Option.some.injEq] at h
      subst h
      exact ⟨this.1, by simp only; omega, this.2⟩
    · exact fhk_lt (by omega) h
theorem fh_lt {w : List Int} {r : Nat × Nat} (h : fh w = some r) : r.1 < r.2 ∧ r.2 < w.length ∧ List.getD w r.1 0 = -List.getD w r.2 0 := fhk_lt (Nat.le_refl _) h
theorem c_l06Handle_2 (w : List Int) (hw : Lt w) (hl : w.length < 1000000000) : ∀ k, k ≤ w.length → R is_l06Handle_2 [tLI w, tI ((w.length - k : Nat) : Int)] = some (match fhk w k with
    | some r => [tI 1, tI (r.1 : Int), tI (r.2 : Int), tB true]
    | none => [tI 0]) := by
  intro k hk
  induction k with
  | zero =>
    apply vs_l06Handle_2
    simp [bs_l06Handle_2, fhk]
  | succ k ih =>
    have hq : w.length - (k + 1) < w.length := by omega
    generalize e : w.length - (k + 1) = q at *
    have e' : w.length - k = q + 1 := by omega
    have b2 := hw.at hq
    apply vs_l06Handle_2
    simp (disch := omega) only [bs_l06Handle_2, decide_eq_true, cond_true, Bool.and_true, Int.toNat_natCast, wrap_i64, getD_at hq, c_index, Option.bind_some, getTV_here, c_l06Handle_6 w hw hl q hq q (Nat.le_refl _), fhk, e]
    cases hb w w[q] q with
    | some p => simp
    | none =>
      simp (disch := omega) only [Option.bind_some, getTV_here, getTV_next, beq_self_eq_true, cond_true, wrap_i64]
      rw [show (q : Int) + 1 = ((w.length - k : Nat) : Int) by omega]
      exact ih (by omega)
theorem c_l06Handle (w : List Int) (hw : Lt w) (hl : w.length < 1000000000) : R is_l06Handle [tLI w] = some (match fh w with
    | some r => [tI (r.1 : Int), tI (r.2 : Int), tB true]
    | none => [tI 0, tI 0, tB false]) := by
  apply vs_l06Handle
  have := c_l06Handle_2 w hw hl w.length (Nat.le_refl _)
  simp only [Nat.sub_self, Int.natCast_zero] at this
  simp only [bs_l06Handle, this, fh]
  cases fhk w w.length <;> simp
theorem c_beginOf_3 (w : List Int) (hw : Lt w) (hl : w.length < 1000000000) (q : Nat) (hq : q < w.length) : ∀ p, p ≤ q →
    ∃ o, R ii_beginOf_3 [tLI w, tI (q : Int), tI (w[q].natAbs : Int), tI ((p : Int) - 1)] = some o ∧
      (match hb w w[q] p with
      | some k => o = [tI 1, tI (k : Int), tB true]
      | none => o = [tI 0] ∨ ∃ x, o = [tI 1, tI x, tB false]) := by
  intro p hp
  induction p with
  | zero =>
    refine ⟨[tI 0], ?_, by simp [hb]⟩
    apply vi_beginOf_3
    simp [bi_beginOf_3]
  | succ p ih =>
    have hp' : p < w.length := by omega
    have b1 := hw.at hp'
    have b2 := hw.at hq
    rw [show ((p + 1 : Nat) : Int) - 1 = (p : Int) by omega]
    unfold hb
    rw [getD_at hp']
    by_cases h2 : w[p].natAbs = w[q].natAbs
    · have e2 : ((w[p].natAbs : Int) == (w[q].natAbs : Int)) = true := by simp; omega
      refine ⟨[tI 1, tI (p : Int), tB (w[p] == 0 - w[q])], ?_, ?_⟩
      · apply vi_beginOf_3
        simp (disch := omega) only [bi_beginOf_3, decide_eq_true, cond_true, Bool.and_true, Int.toNat_natCast, wrap_i64, getD_at hp', getD_at hq, c_size, Option.bind_some, getTV_here, e2]
      · rw [if_pos h2]
        by_cases h1 : w[p] = -w[q]
        · simp [h1]
        · have e1 : (w[p] == 0 - w[q]) = false := by simp; omega
          simp [h1, e1]
    · have e2 : ((w[p].natAbs : Int) == (w[q].natAbs : Int)) = false := by simp; omega
      rw [if_neg h2]
      by_cases h3 : w[p].natAbs + 1 = w[q].natAbs
      · have e3 : ((w[p].natAbs : Int) == (w[q].natAbs : Int) - 1) = true := by simp; omega
        refine ⟨[tI 1, tI 0, tB false], ?_, by simp [h3]⟩
        apply vi_beginOf_3
        simp (disch := omega) only [bi_beginOf_3, decide_eq_true, cond_true, cond_false, Bool.and_true, Int.toNat_natCast, wrap_i64, getD_at hp', getD_at hq, c_size, Option.bind_some, getTV_here, e2, e3]
      · have e3 : ((w[p].natAbs : Int) == (w[q].natAbs : Int) - 1) = false := by simp; omega
        obtain ⟨o, h4, h5⟩ := ih (by omega)
        refine ⟨o, ?_, by rw [if_neg h3]; exact h5⟩
        apply vi_beginOf_3
        simp (disch := omega) only [bi_beginOf_3, decide_eq_true, cond_true, cond_false, Bool.and_true, Int.toNat_natCast, wrap_i64, getD_at hp', getD_at hq, c_size, Option.bind_some, getTV_here, e2, e3, h4]
theorem c_beginOf (w : List Int) (hw : Lt w) (hl : w.length < 1000000000) (q : Nat) (hq : q < w.length) :
    ∃ x : Int, R ii_beginOf [tLI w, tI (q : Int)] = some [tI x, tB (hb w w[q] q).isSome] ∧ ∀ k, hb w w[q] q = some k → x = k := by
  have b2 := hw.at hq
  obtain ⟨o, h1, h2⟩ := c_beginOf_3 w hw hl q hq q (Nat.le_refl _)
  cases h3 : hb w w[q] q with
  | some k =>
    simp only [h3] at h2
    subst h2
    refine ⟨k, ?_, by simp⟩
    apply vi_beginOf
    simp (disch := omega) only [bi_beginOf, decide_eq_true, cond_true, cond_false, Bool.and_true, Int.toNat_natCast, wrap_i64, getD_at hq, c_size, Option.bind_some, getTV_here, h1]
    simp
  | none =>
    simp only [h3] at h2
    rcases h2 with rfl | ⟨x, rfl⟩
    · refine ⟨0, ?_, by simp⟩
      apply vi_beginOf
      simp (disch := omega) only [bi_beginOf, decide_eq_true, cond_true, cond_false, Bool.and_true, Int.toNat_natCast, wrap_i64, getD_at hq, c_size, Option.bind_some, getTV_here, h1]
      simp
    · refine ⟨x, ?_, by simp⟩
      apply vi_beginOf
      simp (disch := omega) only [bi_beginOf, decide_eq_true, cond_true, cond_false, Bool.and_true, Int.toNat_natCast, wrap_i64, getD_at hq, c_size, Option.bind_some, getTV_here, h1]
      simp
theorem c_firstHandle_2 (w : List Int) (hw : Lt w) (hl : w.length < 1000000000) : ∀ k, k ≤ w.length → R ii_firstHandle_2 [tLI w, tI (w.length : Int), tI ((w.length - k : Nat) : Int)] = some (match fhk w k with
    | some r => [tI 1, tI (r.1 : Int), tI (r.2 : Int), tB true]
    | none => [tI 0]) := by
  intro k hk
  induction k with
  | zero =>
    apply vi_firstHandle_2
    simp [bi_firstHandle_2, fhk]
  | succ k ih =>
    have hq : w.length - (k + 1) < w.length := by omega
    generalize e : w.length - (k + 1) = q at *
    have e' : w.length - k = q + 1 := by omega
    have b2 := hw.at hq
    obtain ⟨x, h1, h2⟩ := c_beginOf w hw hl q hq
    apply vi_firstHandle_2
    simp (disch := omega) only [bi_firstHandle_2, decide_eq_true, cond_true, Bool.and_true, Int.toNat_natCast, wrap_i64, getD_at hq, h1, Option.bind_some, getTV_here, getTV_next, fhk, e]
    cases h3 : hb w w[q] q with
    | some p => simp [h2 p h3]
    | none =>
      simp only [Option.isSome_none, cond_false]
      rw [show (q : Int) + 1 = ((w.length - k : Nat) : Int) by omega]
      exact ih (by omega)
theorem c_firstHandle (w : List Int) (hw : Lt w) (hl : w.length < 1000000000) : R ii_firstHandle [tLI w] = some (match fh w with
    | some r => [tI (r.1 : Int), tI (r.2 : Int), tB true]
    | none => [tI 0, tI 0, tB false]) := by
  apply vi_firstHandle
  have := c_firstHandle_2 w hw hl w.length (Nat.le_refl _)
  simp only [Nat.sub_self, Int.natCast_zero] at this
  simp only [bi_firstHandle, this, fh]
  cases fhk w w.length <;> simp
end Go.Ev.Ytffepojldjodcaa
