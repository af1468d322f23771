/- The law SortBraids. -/
import Derived.Test.YtffepojldjodcaaMh7
set_option linter.unusedVariables false
set_option linter.unusedSimpArgs false
namespace Go.Ev.Ytffepojldjodcaa
open Go.Ev
/-! ### what is checked first -/
def Sh (l : BL) : Prop := l.length < 1000000000 ∧ ∀ b ∈ l, b.2.length < 1000000000 ∧ I64 b.2
theorem c_SortBraids_2 : ∀ (r p : BL), Sh (p ++ r) → R is_SortBraids_2 [tLPILI (p ++ r), tI (p.length : Int)] = some (if r.all isBr then [tI 0, tLPILI (p ++ r)] else [tI 1, tLI [], tI 1]) := by
  intro r
  induction r with
  | nil =>
    intro p hs
    apply vs_SortBraids_2
    simp [bs_SortBraids_2]
  | cons b r ih =>
    intro p hs
    have hi := lt_midB p b r
    have hb := hs.2 b (by simp)
    have hl : p.length < 1000000000 := by have := hs.1; simp at this; omega
    apply vs_SortBraids_2
    have this := ih (p ++ [b]) (by simpa using hs)
    simp only [List.length_append, List.length_singleton, Int.natCast_add, Int.cast_ofNat_Int, List.append_assoc, List.singleton_append] at this
    simp (disch := omega) only [bs_SortBraids_2, hi, decide_true, cond_true, Int.natCast_nonneg, Bool.and_true, Int.toNat_natCast, at_midB, pr_eta, c_l01Is b hb.1 hb.2, Option.bind_some, getTV_here, wrap_i64]
    cases h : isBr b with
    | true => simp only [Bool.not_true, cond_false, this, List.all_cons, h, Bool.true_and]
    | false => simp [h]
def s0 (l : BL) : Int := (List.getD l 0 (0, [])).1
theorem pos_mid (p : BL) (b : Int × List Int) (r : BL) : (0 : Int) < ((p ++ b :: r).length : Int) := by simp; omega
theorem c_SortBraids_9 : ∀ (r p : BL), Sh (p ++ r) → R is_SortBraids_9 [tLPILI (p ++ r), tI (p.length : Int)] = some (if r.all (fun b => decide (b.1 = s0 (p ++ r))) then [tI 0, tLPILI (p ++ r)] else [tI 1, tLI [], tI 2]) := by
  intro r
  induction r with
  | nil =>
    intro p hs
    apply vs_SortBraids_9
    simp [bs_SortBraids_9]
  | cons b r ih =>
    intro p hs
    have hi := lt_midB p b r
    have hl : p.length < 1000000000 := by have := hs.1; simp at this; omega
    apply vs_SortBraids_9
    have this := ih (p ++ [b]) (by simpa using hs)
    simp only [List.length_append, List.length_singleton, Int.natCast_add, Int.cast_ofNat_Int, List.append_assoc, List.singleton_append] at this
    simp (disch := omega) only [bs_SortBraids_9, hi, pos_mid, decide_true, cond_true, Int.natCast_nonneg, Bool.and_true, Int.toNat_natCast, at_midB, pr_eta, wrap_i64, bne_dec, List.all_cons]
    have e : (List.getD (p ++ b :: r) 0 (0, [])).1 = s0 (p ++ b :: r) := rfl
    rw [e]
    by_cases h : b.1 = s0 (p ++ b :: r)
    · simp only [decide_eq_true h, Bool.not_true, cond_false, Bool.true_and]
      exact this
    · simp only [decide_eq_false h, Bool.not_false, cond_true, Bool.false_and, Bool.false_eq_true, if_false]
theorem c_SortBraidsK1 (b : Int × List Int) (hl : b.2.length < 1000000000) : R ii_SortBraidsK1 [tPILI b] = some [tB (!isBr b)] := by
  apply vi_SortBraidsK1
  simp only [bi_SortBraidsK1, c_IsBraid b hl, Option.bind_some, getTV_here]
theorem c_IndexB_2 : ∀ (r p : BL), Sh (p ++ r) → ∃ l, R ig_IndexFunc___i_Braid_i_Braid__2 [tLPILI (p ++ r), tI ((p ++ r).length : Int), tI (p.length : Int)] = some l ∧ (r.all isBr = true → l = [tI 0]) ∧ (r.all isBr = false → ∃ j : Int, 0 ≤ j ∧ l = [tI 1, tI j]) := by
  intro r
  induction r with
  | nil =>
    intro p hs
    refine ⟨[tI 0], ?_, fun _ => rfl, fun h => by simp at h⟩
    apply vg_IndexFunc___i_Braid_i_Braid__2
    simp [bg_IndexFunc___i_Braid_i_Braid__2]
  | cons b r ih =>
    intro p hs
    have hi := lt_midB p b r
    have hb := hs.2 b (by simp)
    have hl : p.length < 1000000000 := by have := hs.1; simp at this; omega
    cases h : isBr b with
    | true =>
      obtain ⟨l, h1, h2, h3⟩ := ih (p ++ [b]) (by simpa using hs)
      refine ⟨l, ?_, fun h4 => h2 (by simpa [h] using h4), fun h4 => h3 (by simpa [h] using h4)⟩
      apply vg_IndexFunc___i_Braid_i_Braid__2
      simp (disch := omega) only [bg_IndexFunc___i_Braid_i_Braid__2, hi, decide_true, cond_true, Int.natCast_nonneg, Bool.and_true, Int.toNat_natCast, at_midB, pr_eta, c_SortBraidsK1 b hb.1, Option.bind_some, getTV_here, wrap_i64, h, Bool.not_true, cond_false]
      rw [← h1]
      simp
    | false =>
      refine ⟨[tI 1, tI (p.length : Int)], ?_, fun h4 => by simp [h] at h4, fun _ => ⟨_, Int.natCast_nonneg _, rfl⟩⟩
      apply vg_IndexFunc___i_Braid_i_Braid__2
      simp (disch := omega) only [bg_IndexFunc___i_Braid_i_Braid__2, hi, decide_true, cond_true, Int.natCast_nonneg, Bool.and_true, Int.toNat_natCast, at_midB, pr_eta, c_SortBraidsK1 b hb.1, Option.bind_some, getTV_here, wrap_i64, h, Bool.not_false]
theorem c_ContainsB (l : BL) (hs : Sh l) : R ig_ContainsFunc___i_Braid_i_Braid_ [tLPILI l] = some [tB (!(l.all isBr))] := by
  obtain ⟨t, h1, h2, h3⟩ := c_IndexB_2 l [] hs
  simp only [List.nil_append, List.length_nil, Int.natCast_zero] at h1
  have key : ∃ j : Int, R ig_IndexFunc___i_Braid_i_Braid_ [tLPILI l] = some [tI j] ∧ decide (0 ≤ j) = !(l.all isBr) := by
    cases h : l.all isBr with
    | true =>
      refine ⟨-1, ?_, by simp⟩
      apply vg_IndexFunc___i_Braid_i_Braid_
      simp [bg_IndexFunc___i_Braid_i_Braid_, h1, h2 h]
    | false =>
      obtain ⟨j, hj, e⟩ := h3 h
      refine ⟨j, ?_, by simp [hj]⟩
      apply vg_IndexFunc___i_Braid_i_Braid_
      simp [bg_IndexFunc___i_Braid_i_Braid_, h1, e]
  obtain ⟨j, h4, h5⟩ := key
  apply vg_ContainsFunc___i_Braid_i_Braid_
  simp only [bg_ContainsFunc___i_Braid_i_Braid_, h4, Option.bind_some, getTV_here, h5]
theorem c_SortBraidsK2 (b : Int × List Int) (l : BL) (hl : 0 < l.length) : R ii_SortBraidsK2 [tPILI b, tLPILI l] = some [tB (!decide (b.1 = s0 l))] := by
  apply vi_SortBraidsK2
  have e : (List.getD l 0 (0, [])).1 = s0 l := rfl
  simp (disch := omega) only [bi_SortBraidsK2, decide_eq_true, cond_true, bne_dec, e]
theorem c_IndexB2_2 : ∀ (r p : BL), Sh (p ++ r) → ∃ l, R ig_IndexFunc___i_Braid_i_Braid__v2_2 [tLPILI (p ++ r), tLPILI (p ++ r), tI ((p ++ r).length : Int), tI (p.length : Int)] = some l ∧
    (r.all (fun b => decide (b.1 = s0 (p ++ r))) = true → l = [tI 0]) ∧ (r.all (fun b => decide (b.1 = s0 (p ++ r))) = false → ∃ j : Int, 0 ≤ j ∧ l = [tI 1, tI j]) := by
  intro r
  induction r with
  | nil =>
    intro p hs
    refine ⟨[tI 0], ?_, fun _ => rfl, fun h => by simp at h⟩
    apply vg_IndexFunc___i_Braid_i_Braid__v2_2
    simp [bg_IndexFunc___i_Braid_i_Braid__v2_2]
  | cons b r ih =>
    intro p hs
    have hi := lt_midB p b r
    have hl : p.length < 1000000000 := by have := hs.1; simp at this; omega
    have hp : 0 < (p ++ b :: r).length := by simp; omega
    cases h : decide (b.1 = s0 (p ++ b :: r)) with
    | true =>
      obtain ⟨l, h1, h2, h3⟩ := ih (p ++ [b]) (by simpa using hs)
      simp only [List.append_assoc, List.singleton_append] at h1 h2 h3
      refine ⟨l, ?_, fun h4 => h2 (by simpa only [List.all_cons, h, Bool.true_and] using h4), fun h4 => h3 (by simpa only [List.all_cons, h, Bool.true_and] using h4)⟩
      apply vg_IndexFunc___i_Braid_i_Braid__v2_2
      simp (disch := omega) only [bg_IndexFunc___i_Braid_i_Braid__v2_2, hi, decide_true, cond_true, Int.natCast_nonneg, Bool.and_true, Int.toNat_natCast, at_midB, pr_eta, c_SortBraidsK2 b _ hp, Option.bind_some, getTV_here, wrap_i64, h, Bool.not_true, cond_false]
      rw [← h1]
      simp
    | false =>
      refine ⟨[tI 1, tI (p.length : Int)], ?_, fun h4 => by simp [h] at h4, fun _ => ⟨_, Int.natCast_nonneg _, rfl⟩⟩
      apply vg_IndexFunc___i_Braid_i_Braid__v2_2
      simp (disch := omega) only [bg_IndexFunc___i_Braid_i_Braid__v2_2, hi, decide_true, cond_true, Int.natCast_nonneg, Bool.and_true, Int.toNat_natCast, at_midB, pr_eta, c_SortBraidsK2 b _ hp, Option.bind_some, getTV_here, wrap_i64, h, Bool.not_false]
theorem c_ContainsB2 (l : BL) (hs : Sh l) : R ig_ContainsFunc___i_Braid_i_Braid__v2 [tLPILI l, tLPILI l] = some [tB (!(l.all (fun b => decide (b.1 = s0 l))))] := by
  obtain ⟨t, h1, h2, h3⟩ := c_IndexB2_2 l [] hs
  simp only [List.nil_append, List.length_nil, Int.natCast_zero] at h1 h2 h3
  have key : ∃ j : Int, R ig_IndexFunc___i_Braid_i_Braid__v2 [tLPILI l, tLPILI l] = some [tI j] ∧ decide (0 ≤ j) = !(l.all (fun b => decide (b.1 = s0 l))) := by
    cases h : l.all (fun b => decide (b.1 = s0 l)) with
    | true =>
      refine ⟨-1, ?_, by simp⟩
      apply vg_IndexFunc___i_Braid_i_Braid__v2
      simp [bg_IndexFunc___i_Braid_i_Braid__v2, h1, h2 h]
    | false =>
      obtain ⟨j, hj, e⟩ := h3 h
      refine ⟨j, ?_, by simp [hj]⟩
      apply vg_IndexFunc___i_Braid_i_Braid__v2
      simp [bg_IndexFunc___i_Braid_i_Braid__v2, h1, e]
  obtain ⟨j, h4, h5⟩ := key
  apply vg_ContainsFunc___i_Braid_i_Braid__v2
  simp only [bg_ContainsFunc___i_Braid_i_Braid__v2, h4, Option.bind_some, getTV_here, h5]
end Go.Ev.Ytffepojldjodcaa
