/- Rows of braids. -/
import Derived.Test.YtffepojldjodcaaMb3
import Derived.Test.YtffepojldjodcaaMh4
set_option linter.unusedVariables false
set_option linter.unusedSimpArgs false
namespace Go.Ev.Ytffepojldjodcaa
open Go.Ev
abbrev BL := List (Int × List Int)
def totB : BL → Nat
  | [] => 0
  | b :: r => b.2.length + totB r
theorem pr_eta (b : Int × List Int) : (b.1, b.2) = b := rfl
theorem at_midB (p : BL) (x : Int × List Int) (r : BL) (d : Int × List Int) : List.getD (p ++ x :: r) p.length d = x := by simp [List.getD_eq_getElem?_getD]
theorem set_midB (p : BL) (x y : Int × List Int) (r : BL) : (p ++ x :: r).set p.length y = p ++ y :: r := by simp
theorem lt_midB (p : BL) (x : Int × List Int) (r : BL) : ((p.length : Int) < ((p ++ x :: r).length : Int)) := by simp; omega
theorem c_szBraidS_5 : ∀ (r p : BL) (k : Int), p.length + r.length < 1000000000 → (∀ b ∈ r, b.2.length ≤ 9223372036854775807) → 0 ≤ k → k ≤ 1000000000 →
    ∃ e v : Int, R iw_szBraidS_5 [tLPILI (p ++ r), tI k, tI (p.length : Int)] = some [tI e, tI v] ∧ (0 ≤ v → (totB r : Int) ≤ k) := by
  intro r
  induction r with
  | nil =>
    intro p k _ _ hk _
    refine ⟨0, k, ?_, fun _ => by simp [totB]; exact hk⟩
    apply vw_szBraidS_5
    simp [bw_szBraidS_5]
  | cons b r ih =>
    intro p k hl hb hk hk'
    simp only [List.length_cons] at hl
    have hbl := hb b (by simp)
    have hi := lt_midB p b r
    by_cases h : k < b.2.length
    · refine ⟨1, -1, ?_, fun h => by omega⟩
      apply vw_szBraidS_5
      have q : decide ((-1 : Int) < 0) = true := by decide
      simp (disch := omega) only [bw_szBraidS_5, hi, decide_true, cond_true, Int.natCast_nonneg, Bool.and_true, Int.toNat_natCast, at_midB, pr_eta, c_szBraid b k hbl hk hk', if_pos h, Option.bind_some, getTV_here, q]
    · have e : ¬ (k - (b.2.length : Int) < 0) := by omega
      obtain ⟨e', v, h1, h2⟩ := ih (p ++ [b]) (k - b.2.length) (by simp; omega) (fun c hc => hb c (by simp [hc])) (by omega) (by omega)
      refine ⟨e', v, ?_, fun hv => by have := h2 hv; simp only [totB]; omega⟩
      apply vw_szBraidS_5
      simp only [List.length_append, List.length_singleton, Int.natCast_add, Int.cast_ofNat_Int, List.append_assoc, List.singleton_append] at h1
      simp (disch := omega) only [bw_szBraidS_5, hi, decide_true, cond_true, Int.natCast_nonneg, Bool.and_true, Int.toNat_natCast, at_midB, pr_eta, c_szBraid b k hbl hk hk', if_neg h, Option.bind_some, getTV_here, getTV_next, wrap_i64, decide_eq_false e, cond_false]
      exact h1
theorem c_szBraidS (l : BL) (hl : l.length ≤ 9223372036854775807) (hb : ∀ b ∈ l, b.2.length ≤ 9223372036854775807) :
    ∃ v : Int, R iw_szBraidS [tLPILI l, tI 1048576] = some [tI v] ∧ (0 ≤ v → l.length ≤ 1048576 ∧ totB l ≤ 1048576) := by
  have w : wi64 (1048576 - ((l.length : Nat) : Int)) = 1048576 - l.length := by rw [wrap_i64] <;> omega
  by_cases h : (1048576 : Int) < l.length
  · refine ⟨-1, ?_, fun h => by omega⟩
    apply vw_szBraidS
    have q : decide (1048576 - (l.length : Int) < 0) = true := decide_eq_true (by omega)
    simp only [bw_szBraidS, w, q, cond_true]
  · obtain ⟨e, v, h1, h2⟩ := c_szBraidS_5 l [] (1048576 - l.length) (by simp; omega) hb (by omega) (by omega)
    refine ⟨v, ?_, fun hv => by have := h2 hv; omega⟩
    apply vw_szBraidS
    have q : decide (1048576 - (l.length : Int) < 0) = false := decide_eq_false (by omega)
    simp only [List.nil_append, List.length_nil, Int.natCast_zero] at h1
    simp only [bw_szBraidS, w, q, cond_false, h1, Option.bind_some, getTV_here, getTV_next]
    cases (e == 0) <;> rfl
theorem c_toBraidS_3 (x0 : BL) (h0 : x0.length < 1000000000) (hb : ∀ b ∈ x0, b.2.length < 1000000000) : ∀ i, i ≤ x0.length → ∀ x1 : BL, x1.length = x0.length → x1.take i = x0.take i → R iw_toBraidS_3 [tLPILI x0, tLPILI x1, tI (i : Int)] = some [tI 0, tLPILI x0] := by
  refine up_loop _ (fun x1 h1 h2 => ?_) (fun i hi ih x1 h1 h2 => ?_)
  · apply vw_toBraidS_3
    rw [← h1, List.take_length, h1, List.take_length] at h2
    subst h2
    simp [bw_toBraidS_3]
  · apply vw_toBraidS_3
    have e : List.getD x0 i (0, []) = x0[i] := by simp [List.getD_eq_getElem?_getD, List.getElem?_eq_getElem hi]
    simp (disch := omega) only [bw_toBraidS_3, decide_eq_true, cond_true, Bool.and_true, Int.toNat_natCast, wrap_i64, e, pr_eta, c_toBraid x0[i] (hb _ (List.getElem_mem hi)), Option.bind_some, getTV_here]
    rw [show (i : Int) + 1 = ((i + 1 : Nat) : Int) by omega]
    refine ih _ (by simp [h1]) ?_
    rw [List.take_add_one, List.take_add_one, List.take_set_of_le (Nat.le_refl _), h2]
    simp [h1, hi]
theorem c_toBraidS (a : BL) (h : a.length < 1000000000) (hb : ∀ b ∈ a, b.2.length < 1000000000) : R iw_toBraidS [tLPILI a] = some [tLPILI a] := by
  apply vw_toBraidS
  have e : mkOk ((a.length : Nat) : Int) = true := by
    have h2 : ((a.length : Int) ≤ (lim : Int)) := by simp only [lim]; omega
    simp [mkOk, h2]
  have := c_toBraidS_3 a h hb 0 (Nat.zero_le _) (List.replicate a.length (0, [])) (by simp) rfl
  simp only [Int.natCast_zero] at this
  simp [bw_toBraidS, e, this]
theorem c_eqBraidS_4 (a : BL) (h : a.length < 1000000000) (hb : ∀ b ∈ a, b.2.length < 1000000000) : ∀ i, i ≤ a.length → R iw_eqBraidS_4 [tLPILI a, tLPILI a, tI (i : Int)] = some [tI 0] := by
  refine up_loop _ ?_ (fun i hi ih => ?_)
  · apply vw_eqBraidS_4
    simp [bw_eqBraidS_4]
  · apply vw_eqBraidS_4
    have e : List.getD a i (0, []) = a[i] := by simp [List.getD_eq_getElem?_getD, List.getElem?_eq_getElem hi]
    simp (disch := omega) only [bw_eqBraidS_4, decide_eq_true, cond_true, Bool.and_true, Int.toNat_natCast, wrap_i64, e, pr_eta, c_eqBraid a[i] _ (hb _ (List.getElem_mem hi)), Option.bind_some, getTV_here]
    rw [show (i : Int) + 1 = ((i + 1 : Nat) : Int) by omega, ih]
    simp
theorem c_eqBraidS (a : BL) (h : a.length < 1000000000) (hb : ∀ b ∈ a, b.2.length < 1000000000) : R iw_eqBraidS [tLPILI a, tLPILI a] = some [tB true] := by
  apply vw_eqBraidS
  have := c_eqBraidS_4 a h hb 0 (Nat.zero_le _)
  simp only [Int.natCast_zero] at this
  simp [bw_eqBraidS, this]
/-- Marks in all braids. -/
def mkB : Int → BL → BL
  | _, [] => []
  | k, b :: r => (k, marks (k + 1) b.2.length) :: mkB (k + 1 + b.2.length) r
theorem c_markBraidS_2 : ∀ (r p : BL) (k : Int), 0 ≤ k → k + totB r + r.length < 4000000000 → p.length + r.length < 1000000000 →
    R iw_markBraidS_2 [tLPILI (p ++ r), tI k, tI (p.length : Int)] = some [tI 0, tLPILI (p ++ mkB k r), tI (k + totB r + r.length)] := by
  intro r
  induction r with
  | nil =>
    intro p k _ _ _
    apply vw_markBraidS_2
    simp [bw_markBraidS_2, mkB, totB]
  | cons b r ih =>
    intro p k hk hk' hl
    simp only [totB, List.length_cons, Int.natCast_add] at hk' hl
    apply vw_markBraidS_2
    have hi := lt_midB p b r
    have this := ih (p ++ [(k, marks (k + 1) b.2.length)]) (k + 1 + b.2.length) (by omega) (by omega) (by simp; omega)
    simp only [List.length_append, List.length_singleton, Int.natCast_add, Int.cast_ofNat_Int, List.append_assoc, List.singleton_append] at this
    have hi2 := lt_midB p (k, b.2) r
    simp (disch := omega) only [bw_markBraidS_2, hi, hi2, Bool.true_and, decide_true, cond_true, Int.natCast_nonneg, Bool.and_true, Int.toNat_natCast, at_midB, set_midB, wrap_i64, c_markInt64S b.2 (k + 1) (by omega) (by omega), Option.bind_some, getTV_here, getTV_next]
    rw [this]
    simp only [mkB, totB, List.length_cons, Int.natCast_add, Int.cast_ofNat_Int]
    rw [show k + 1 + (b.2.length : Int) + (totB r : Int) + (r.length : Int) = k + ((b.2.length : Int) + (totB r : Int)) + ((r.length : Int) + 1) by omega]
theorem c_markBraidS (l : BL) (k : Int) (hk : 0 ≤ k) (hk' : k + totB l + l.length < 4000000000) (hl : l.length < 1000000000) : R iw_markBraidS [tLPILI l, tI k] = some [tI (k + totB l + l.length), tLPILI (mkB k l)] := by
  apply vw_markBraidS
  have := c_markBraidS_2 l [] k hk hk' (by simpa using hl)
  simp only [List.nil_append, List.length_nil, Int.natCast_zero] at this
  simp [bw_markBraidS, this]
end Go.Ev.Ytffepojldjodcaa
