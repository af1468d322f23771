/- The main letter. -/
import Derived.Test.YtffepojldjodcaaMh2
set_option linter.unusedVariables false
set_option linter.unusedSimpArgs false
namespace Go.Ev.Ytffepojldjodcaa
open Go.Ev
def stp (s : Int × Bool) (x : Int) : Int × Bool :=
  if s.1 = 0 ∨ x.natAbs < s.1.natAbs then (x, false) else if x = -s.1 then (s.1, true) else s
/-- The main letter of a word, 0 if it has none. -/
def mainL (w : List Int) : Int := if (w.foldl stp (0, false)).2 then 0 else (w.foldl stp (0, false)).1
def sgn (x : Int) : Int := if 0 < x then 1 else if x < 0 then -1 else 0
def leastL (w : List Int) : Int := w.foldl (fun m x => mn m (x.natAbs : Int)) 8
structure SInv (u : List Int) (s : Int × Bool) : Prop where
  mem : s.1 ∈ u
  le : ∀ x ∈ u, s.1.natAbs ≤ x.natAbs
  both : s.2 = true ↔ -s.1 ∈ u
theorem sinv_step {u : List Int} {s : Int × Bool} {x : Int} (h : SInv u s) (hu : Lt u) (hx : x ≠ 0) : SInv (u ++ [x]) (stp s x) := by
  have h0 := hu _ h.mem
  unfold stp
  split
  · rename_i h1
    have h1 : x.natAbs < s.1.natAbs := by omega
    refine ⟨by simp, fun y hy => ?_, ?_⟩
    · rcases List.mem_append.1 hy with hy | hy
      · have := h.le y hy; simp only; omega
      · simp only [List.mem_cons, List.not_mem_nil, or_false] at hy; subst hy; simp only; omega
    · simp only [Bool.false_eq_true, false_iff, List.mem_append, List.mem_cons, List.not_mem_nil, or_false]
      intro hm
      rcases hm with hm | hm
      · have := h.le _ hm; omega
      · omega
  · rename_i h1
    split
    · rename_i h2
      refine ⟨by simp [h.mem], fun y hy => ?_, by simp [h2]⟩
      rcases List.mem_append.1 hy with hy | hy
      · exact h.le y hy
      · simp only [List.mem_cons, List.not_mem_nil, or_false] at hy; subst hy; simp only; omega
    · rename_i h2
      refine ⟨by simp [h.mem], fun y hy => ?_, ?_⟩
      · rcases List.mem_append.1 hy with hy | hy
        · exact h.le y hy
        · simp only [List.mem_cons, List.not_mem_nil, or_false] at hy; subst hy; omega
      · rw [h.both]
        simp only [List.mem_append, List.mem_cons, List.not_mem_nil, or_false]
        constructor
        · exact .inl
        · rintro (h3 | h3)
          · exact h3
          · exact (h2 h3.symm).elim
theorem sinv_fold : ∀ (v u : List Int) (s : Int × Bool), SInv u s → Lt (u ++ v) → SInv (u ++ v) (v.foldl stp s)
  | [], u, s, h, _ => by simpa using h
  | x :: v, u, s, h, hl => by
    have := sinv_fold v (u ++ [x]) (stp s x) (sinv_step h (hl.sub fun y hy => by simp [hy]) (hl x (by simp)).1) (by simpa using hl)
    simpa using this
theorem sinv {w : List Int} (hw : Lt w) (hn : w ≠ []) : SInv w (w.foldl stp (0, false)) := by
  cases w with
  | nil => exact (hn rfl).elim
  | cons x v =>
    have h0 := hw x (by simp)
    have := sinv_fold v [x] (x, false) ⟨by simp, by simp, by simp; omega⟩ (by simpa using hw)
    simpa [stp] using this
theorem least_fold : ∀ (v : List Int) (m : Int), (v.foldl (fun m x => mn m (x.natAbs : Int)) m) ≤ m ∧ (∀ x ∈ v, (v.foldl (fun m x => mn m (x.natAbs : Int)) m) ≤ x.natAbs) ∧
    ((v.foldl (fun m x => mn m (x.natAbs : Int)) m) = m ∨ ∃ x ∈ v, (v.foldl (fun m x => mn m (x.natAbs : Int)) m) = x.natAbs)
  | [], m => by simp
  | x :: v, m => by
    obtain ⟨h1, h2, h3⟩ := least_fold v (mn m x.natAbs)
    have e : mn m (x.natAbs : Int) ≤ m ∧ mn m (x.natAbs : Int) ≤ x.natAbs ∧ (mn m (x.natAbs : Int) = m ∨ mn m (x.natAbs : Int) = x.natAbs) := by unfold mn; split <;> omega
    simp only [List.foldl_cons]
    refine ⟨by omega, fun y hy => ?_, ?_⟩
    · rcases List.mem_cons.1 hy with rfl | hy
      · omega
      · exact h2 y hy
    · rcases h3 with h3 | ⟨y, hy, h3⟩
      · rcases e.2.2 with e2 | e2
        · left; omega
        · right; exact ⟨x, by simp, by omega⟩
      · right; exact ⟨y, by simp [hy], h3⟩
theorem least_eq {w : List Int} (hw : Lt w) (hn : w ≠ []) : leastL w = ((w.foldl stp (0, false)).1.natAbs : Int) := by
  have h := sinv hw hn
  obtain ⟨h1, h2, h3⟩ := least_fold w 8
  have h4 := h2 _ h.mem
  unfold leastL
  rcases h3 with h3 | ⟨y, hy, h3⟩
  · have := hw _ h.mem
    omega
  · have := h.le y hy
    omega
theorem main_sign {w : List Int} (hw : Lt w) :
    (if w.any (· == leastL w) && !w.any (· == -leastL w) then (1 : Int) else if w.any (· == -leastL w) && !w.any (· == leastL w) then -1 else 0) = sgn (mainL w) ∧ leastL w * sgn (mainL w) = mainL w := by
  by_cases hn : w = []
  · subst hn
    simp [mainL, sgn]
  · have h := sinv hw hn
    have hl := least_eq hw hn
    have h0 := hw _ h.mem
    have ea : ∀ z : Int, w.any (· == z) = decide (z ∈ w) := by
      intro z
      rw [Bool.eq_iff_iff]
      simp
    simp only [ea]
    unfold mainL
    generalize (w.foldl stp (0, false)) = s at *
    obtain ⟨a, b⟩ := s
    have h1 := h.mem
    have h3 := h.both
    simp only at *
    rcases Int.lt_or_lt_of_ne h0.1 with h4 | h4
    · have e1 : leastL w = -a := by omega
      rw [e1, Int.neg_neg]
      cases b with
      | true =>
        have : -a ∈ w := h3.1 rfl
        simp [this, h1, sgn]
      | false =>
        have : -a ∉ w := fun hm => by simpa using h3.2 hm
        have h5 : ¬ 0 < a := by omega
        simp [this, h1, sgn, h4, h5]
    · have e1 : leastL w = a := by omega
      rw [e1]
      cases b with
      | true =>
        have : -a ∈ w := h3.1 rfl
        simp [this, h1, sgn]
      | false =>
        have : -a ∉ w := fun hm => by simpa using h3.2 hm
        simp [this, h1, sgn, h4]
theorem stp_bd {s : Int × Bool} {x : Int} (h : -8 ≤ s.1 ∧ s.1 ≤ 8) (hx : -8 ≤ x ∧ x ≤ 8) : -8 ≤ (stp s x).1 ∧ (stp s x).1 ≤ 8 := by
  unfold stp
  split
  · exact hx
  · split <;> exact h
theorem c_mainOf_3 (w : List Int) (hw : Lt w) (hl : w.length < 1000000000) : ∀ i, i ≤ w.length → ∀ s : Int × Bool, -8 ≤ s.1 ∧ s.1 ≤ 8 →
    R ii_mainOf_3 [tLI w, tI s.1, tB s.2, tI (w.length : Int), tI (i : Int)] = some [tI 0, tI ((w.drop i).foldl stp s).1, tB ((w.drop i).foldl stp s).2] := by
  refine up_loop _ (fun s hs => ?_) (fun i hi ih s hs => ?_)
  · apply vi_mainOf_3
    simp [bi_mainOf_3]
  · apply vi_mainOf_3
    have b1 := hw.at hi
    have hb := stp_bd hs ⟨b1.2.1, b1.2.2⟩
    rw [List.drop_eq_getElem_cons hi, List.foldl_cons]
    have ih' := ih _ hb
    rw [← ih']
    simp (disch := omega) only [bi_mainOf_3, decide_eq_true, cond_true, Bool.and_true, Int.toNat_natCast, wrap_i64, getD_at hi, c_size, Option.bind_some, getTV_here]
    rw [show (i : Int) + 1 = ((i + 1 : Nat) : Int) by omega]
    unfold stp
    by_cases h1 : s.1 = 0
    · simp [h1]
    · have e1 : (s.1 == 0) = false := by simp [h1]
      rw [e1, cond_false]
      by_cases h2 : w[i].natAbs < s.1.natAbs
      · have e2 : ((w[i].natAbs : Int) < (s.1.natAbs : Int)) := by omega
        rw [decide_eq_true e2, cond_true, if_pos (.inr h2)]
      · have e2 : ¬ ((w[i].natAbs : Int) < (s.1.natAbs : Int)) := by omega
        rw [decide_eq_false e2, cond_false, if_neg (by omega)]
        by_cases h3 : w[i] = -s.1
        · simp [h3]
        · have e3 : (w[i] == 0 - s.1) = false := by simp; omega
          rw [e3, cond_false, if_neg h3]
theorem c_mainOf (w : List Int) (hw : Lt w) (hl : w.length < 1000000000) : R ii_mainOf [tLI w] = some [tI (mainL w)] := by
  apply vi_mainOf
  have h := c_mainOf_3 w hw hl 0 (Nat.zero_le _) (0, false) (by decide)
  simp only [Int.natCast_zero, List.drop_zero] at h
  simp only [bi_mainOf, h, Option.bind_some, getTV_here, getTV_next, mainL]
  cases (w.foldl stp (0, false)).2 <;> simp
theorem c_l06Main_3 (w : List Int) (hw : Lt w) (hl : w.length < 1000000000) : ∀ i, i ≤ w.length → ∀ m : Int, R is_l06Main_3 [tLI w, tI m, tI (i : Int)] = some [tI 0, tLI w, tI ((w.drop i).foldl (fun m x => mn m (x.natAbs : Int)) m)] := by
  refine up_loop _ (fun m => ?_) (fun i hi ih m => ?_)
  · apply vs_l06Main_3
    simp [bs_l06Main_3]
  · apply vs_l06Main_3
    have b1 := hw.at hi
    rw [List.drop_eq_getElem_cons hi, List.foldl_cons]
    simp (disch := omega) only [bs_l06Main_3, decide_eq_true, cond_true, Bool.and_true, Int.toNat_natCast, wrap_i64, getD_at hi, c_index, Option.bind_some, getTV_here]
    rw [show (i : Int) + 1 = ((i + 1 : Nat) : Int) by omega, ih]
theorem c_l06Main_8 (w : List Int) (l : Int) (h0 : -100 ≤ l) (h1 : l ≤ 100) (hl : w.length < 1000000000) : ∀ i, i ≤ w.length → ∀ p m : Bool,
    R is_l06Main_8 [tLI w, tI l, tB p, tB m, tI (i : Int)] = some [tI 0, tI l, tB (p || (w.drop i).any (· == l)), tB (m || (w.drop i).any (· == -l))] := by
  refine up_loop _ (fun p m => ?_) (fun i hi ih p m => ?_)
  · apply vs_l06Main_8
    simp [bs_l06Main_8]
  · apply vs_l06Main_8
    rw [List.drop_eq_getElem_cons hi, List.any_cons, List.any_cons]
    simp (disch := omega) only [bs_l06Main_8, decide_eq_true, cond_true, Bool.and_true, Int.toNat_natCast, wrap_i64, getD_at hi, Option.bind_some, getTV_here]
    rw [show (i : Int) + 1 = ((i + 1 : Nat) : Int) by omega]
    simp only [ih, Int.zero_sub]
    cases p <;> cases m <;> simp
theorem least_bd (w : List Int) : 0 ≤ leastL w ∧ leastL w ≤ 8 := by
  obtain ⟨h1, h2, h3⟩ := least_fold w 8
  unfold leastL
  rcases h3 with h3 | ⟨x, hx, h3⟩ <;> omega
theorem c_l06Main (w : List Int) (hw : Lt w) (hl : w.length < 1000000000) : R is_l06Main [tLI w] = some [tI (leastL w), tI (sgn (mainL w))] := by
  apply vs_l06Main
  have h := c_l06Main_3 w hw hl 0 (Nat.zero_le _) 8
  have hb := least_bd w
  have h2 := c_l06Main_8 w (leastL w) (by omega) (by omega) hl 0 (Nat.zero_le _) false false
  rw [← (main_sign hw).1]
  simp only [Int.natCast_zero, List.drop_zero, Bool.false_or] at h h2
  rw [show w.foldl (fun m x => mn m (x.natAbs : Int)) 8 = leastL w from rfl] at h
  simp only [bs_l06Main, h, Option.bind_some, getTV_here, getTV_next, h2]
  cases w.any (· == leastL w) <;> cases w.any (· == -leastL w) <;> simp
end Go.Ev.Ytffepojldjodcaa
