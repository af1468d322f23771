/- The law BlocksOfPart: blocks marked. -/
import Derived.Test.YtadjhggdddbicaaMq1
import Derived.Test.YtadjhggdddbicaaMp5
import Derived.Test.YtadjhggdddbicaaMq4
set_option linter.unusedVariables false
set_option linter.unusedSimpArgs false
namespace Go.Ev.Ytadjhggdddbicaa
open Go.Ev
/-- Marks in all blocks. -/
def mkss : Int → List (List Int) → List (List Int)
  | _, [] => []
  | k, b :: r => marks k b.length :: mkss (k + b.length) r
def tot : List (List Int) → Nat
  | [] => 0
  | b :: r => b.length + tot r
theorem at_mid {α : Type} (p : List α) (x : α) (r : List α) (d : α) : List.getD (p ++ x :: r) p.length d = x := by simp [List.getD_eq_getElem?_getD]
theorem set_mid {α : Type} (p : List α) (x y : α) (r : List α) : (p ++ x :: r).set p.length y = (p ++ [y]) ++ r := by simp
theorem c_markInt64SS_2 : ∀ (r p : List (List Int)) (k : Int), 0 ≤ k → k + tot r < 4000000000 → p.length + r.length < 1000000000 →
    R iw_markInt64SS_2 [tLLI (p ++ r), tI k, tI (p.length : Int)] = some [tI 0, tLLI (p ++ mkss k r), tI (k + tot r)] := by
  intro r
  induction r with
  | nil =>
    intro p k _ _ _
    apply vw_markInt64SS_2
    simp [bw_markInt64SS_2, mkss, tot]
  | cons b r ih =>
    intro p k hk hk' hl
    simp only [tot, List.length_cons, Int.natCast_add] at hk' hl
    apply vw_markInt64SS_2
    have hi : (p.length : Int) < ((p ++ b :: r).length : Int) := by simp; omega
    have := ih (p ++ [marks k b.length]) (k + b.length) (by omega) (by omega) (by simp; omega)
    simp only [List.length_append, List.length_singleton, Int.natCast_add, Int.cast_ofNat_Int] at this
    simp (disch := omega) only [bw_markInt64SS_2, hi, decide_true, cond_true, Int.natCast_nonneg, Bool.and_true, Int.toNat_natCast, at_mid, set_mid, c_markInt64S b k hk (by omega), Option.bind_some, getTV_here, getTV_next, wrap_i64]
    rw [this]
    simp only [mkss, tot, List.append_assoc, List.singleton_append, Int.natCast_add, Int.add_assoc]
theorem c_markInt64SS (l : List (List Int)) (k : Int) (hk : 0 ≤ k) (hk' : k + tot l < 4000000000) (hl : l.length < 1000000000) : R iw_markInt64SS [tLLI l, tI k] = some [tI (k + tot l), tLLI (mkss k l)] := by
  apply vw_markInt64SS
  have := c_markInt64SS_2 l [] k hk hk' (by simpa using hl)
  simp only [List.nil_append, List.length_nil, Int.natCast_zero] at this
  simp [bw_markInt64SS, this]
theorem c_heldInt64SS_2 : ∀ (r p : List (List Int)) (k : Int), 0 ≤ k → k + tot r < 4000000000 → p.length + r.length < 1000000000 →
    R iw_heldInt64SS_2 [tLLI (p ++ mkss k r), tI k, tI (p.length : Int)] = some [tI 0, tI (k + tot r)] := by
  intro r
  induction r with
  | nil =>
    intro p k _ _ _
    apply vw_heldInt64SS_2
    simp [bw_heldInt64SS_2, mkss, tot]
  | cons b r ih =>
    intro p k hk hk' hl
    simp only [tot, List.length_cons, Int.natCast_add] at hk' hl
    apply vw_heldInt64SS_2
    have hi : (p.length : Int) < ((p ++ mkss k (b :: r)).length : Int) := by simp [mkss]; omega
    have := ih (p ++ [marks k b.length]) (k + b.length) (by omega) (by omega) (by simp; omega)
    simp only [List.length_append, List.length_singleton, Int.natCast_add, Int.cast_ofNat_Int, List.append_assoc, List.singleton_append] at this
    have hneg : decide (k + (b.length : Int) < 0) = false := by simp; omega
    simp only [mkss] at hi
    simp (disch := omega) only [bw_heldInt64SS_2, mkss, hi, decide_true, cond_true, Int.natCast_nonneg, Bool.and_true, Int.toNat_natCast, at_mid, c_heldInt64S k b.length hk (by omega), Option.bind_some, getTV_here, getTV_next, wrap_i64, hneg, cond_false]
    rw [this]
    simp only [tot, Int.natCast_add, Int.add_assoc]
theorem c_heldInt64SS (l : List (List Int)) (k : Int) (hk : 0 ≤ k) (hk' : k + tot l < 4000000000) (hl : l.length < 1000000000) : R iw_heldInt64SS [tLLI (mkss k l), tI k] = some [tI (k + tot l)] := by
  apply vw_heldInt64SS
  have := c_heldInt64SS_2 l [] k hk hk' (by simpa using hl)
  simp only [List.nil_append, List.length_nil, Int.natCast_zero] at this
  simp [bw_heldInt64SS, this]
theorem both_BlocksOfPart (a : List Int) (ha : B8 a) (k : Int) : ∃ (l : List (List Int)) (y : Int), l.length ≤ 8 ∧ (∀ b ∈ l, b.length ≤ 8) ∧ R is_BlocksOfPart [tA8 a, tI k] = some [tLLI l, tI y] ∧ R ii_BlocksOfPart [tA8 a, tI k] = some [tLLI l, tI y] := by
  by_cases h : isPt a k = true
  · obtain ⟨n, g, rfl, h1, h2, h3, h4, h5⟩ := blocks_both a k h
    refine ⟨bks n g n 0, 0, Nat.le_trans (bks_len n g n 0) h2, fun b hb => (bks_Blk h2 b hb).2.1, vs_BlocksOfPart _ _ ?_, vi_BlocksOfPart _ _ ?_⟩
    · simp only [bs_BlocksOfPart, c_l07Is a ha, Option.bind_some, getTV_here, h, Bool.not_true, cond_false, h4]
    · simp only [bi_BlocksOfPart, c_IsPart a ha, Option.bind_some, getTV_here, h, Bool.not_true, cond_false, h5]
  · have h := eq_false_of_ne_true h
    refine ⟨[], 1, by simp, fun b hb => by simp at hb, vs_BlocksOfPart _ _ ?_, vi_BlocksOfPart _ _ ?_⟩
    · simp only [bs_BlocksOfPart, c_l07Is a ha, Option.bind_some, getTV_here, h, Bool.not_false, cond_true]
    · simp only [bi_BlocksOfPart, c_IsPart a ha, Option.bind_some, getTV_here, h, Bool.not_false, cond_true]
theorem tot_le : ∀ (l : List (List Int)), (∀ b ∈ l, b.length ≤ 8) → tot l ≤ 8 * l.length := by
  intro l
  induction l with
  | nil => intro _; simp [tot]
  | cons b r ih =>
    intro h
    have := ih (fun c hc => h c (by simp [hc]))
    have := h b (by simp)
    simp only [tot, List.length_cons]
    omega
theorem law_FnExactBlocksOfPart (a : List Int) (h : Fit (.arr .u8 8) a) (k : Int) (h' : Fit (.int .i64) k) : R iw_FnExactBlocksOfPart [tA8 a, tI k] = some [tB true] := by
  have ha := fit_part h
  apply vw_FnExactBlocksOfPart
  obtain ⟨l, y, hl, hb, h1, h2⟩ := both_BlocksOfPart a ha k
  have ht := tot_le l hb
  have e2 : ¬ (1 + (tot l : Int) < 0) := by omega
  simp [bw_FnExactBlocksOfPart, c_toPart a ha.1, h1, h2, c_eqInt64SS l (by omega) (fun b hm => by have := hb b hm; omega), c_markInt64SS l 1 (by omega) (by omega) (by omega), c_heldInt64SS l 1 (by omega) (by omega) (by omega), e2]
end Go.Ev.Ytadjhggdddbicaa
