/- Rows of normal forms; the law SuperSummit. -/
import Derived.Test.YtolpnaiincngjaaGreatMu6
import Derived.Test.YtolpnaiincngjaaGreatMn9
set_option linter.unusedVariables false
set_option linter.unusedSimpArgs false
namespace Go.Ev.YtolpnaiincngjaaGreat
open Go.Ev
theorem vn_eta (b : VN) : (b.1, b.2.1, b.2.2) = b := rfl
theorem at_midV (p : List VN) (x : VN) (r : List VN) (d : VN) : List.getD (p ++ x :: r) p.length d = x := by simp [List.getD_eq_getElem?_getD]
theorem set_midV (p : List VN) (x y : VN) (r : List VN) : (p ++ x :: r).set p.length y = p ++ y :: r := by simp
theorem lt_midV (p : List VN) (x : VN) (r : List VN) : ((p.length : Int) < ((p ++ x :: r).length : Int)) := by simp; omega
def totV : List VN → Nat
  | [] => 0
  | b :: r => 8 * b.2.2.length + totV r
/-- The lists that come up. -/
def ShV (l : List VN) : Prop := l.length < 1000000 ∧ ∀ b ∈ l, Len8 b.2.2 ∧ b.2.2.length < 1000000
theorem c_eqNormalS_4 (a : List VN) (h : ShV a) : ∀ i, i ≤ a.length → R iw_eqNormalS_4 [tLPIPILA8 a, tLPIPILA8 a, tI (i : Int)] = some [tI 0] := by
  refine up_loop _ ?_ (fun i hi ih => ?_)
  · apply vw_eqNormalS_4
    simp [bw_eqNormalS_4]
  · apply vw_eqNormalS_4
    have hl := h.1
    have e : List.getD a i ((0, (0, [])) : VN) = a[i] := by simp [List.getD_eq_getElem?_getD, List.getElem?_eq_getElem hi]
    have hb := h.2 a[i] (List.getElem_mem hi)
    simp (disch := omega) only [bw_eqNormalS_4, decide_eq_true, cond_true, Bool.and_true, Int.toNat_natCast, wrap_i64, e, vn_eta, c_eqNormal a[i] a[i] hb.1 hb.1 (by omega), Option.bind_some, getTV_here]
    rw [show (i : Int) + 1 = ((i + 1 : Nat) : Int) by omega, ih]
    simp
theorem c_eqNormalS (a : List VN) (h : ShV a) : R iw_eqNormalS [tLPIPILA8 a, tLPIPILA8 a] = some [tB true] := by
  apply vw_eqNormalS
  have := c_eqNormalS_4 a h 0 (Nat.zero_le _)
  simp only [Int.natCast_zero] at this
  simp [bw_eqNormalS, this]
/-- Marks in all of them. -/
def mkV : Int → List VN → List VN
  | _, [] => []
  | k, b :: r => (k, k + 1, marksR (k + 2) b.2.2.length) :: mkV (k + 2 + 8 * b.2.2.length) r
theorem c_markNormalS_2 : ∀ (r p : List VN) (k : Int), 0 ≤ k → k + totV r + 2 * r.length < 1000000000 → p.length + r.length < 1000000 → (∀ b ∈ r, Len8 b.2.2) →
    R iw_markNormalS_2 [tLPIPILA8 (p ++ r), tI k, tI (p.length : Int)] = some [tI 0, tLPIPILA8 (p ++ mkV k r), tI (k + totV r + 2 * r.length)] := by
  intro r
  induction r with
  | nil =>
    intro p k _ _ _ _
    apply vw_markNormalS_2
    simp [bw_markNormalS_2, mkV, totV]
  | cons b r ih =>
    intro p k hk hk' hl h8
    simp only [totV, List.length_cons, Int.natCast_add, Int.natCast_mul, Int.cast_ofNat_Int] at hk' hl
    apply vw_markNormalS_2
    have hi := lt_midV p b r
    have hi2 := lt_midV p (k, b.2.1, b.2.2) r
    have hi3 := lt_midV p (k, k + 1, b.2.2) r
    have this := ih (p ++ [(k, k + 1, marksR (k + 2) b.2.2.length)]) (k + 2 + 8 * b.2.2.length) (by omega) (by omega) (by simp; omega) (fun c hc => h8 c (by simp [hc]))
    simp only [List.length_append, List.length_singleton, Int.natCast_add, Int.cast_ofNat_Int, List.append_assoc, List.singleton_append] at this
    have hm := c_markSimpleS b.2.2 (k + 2) (h8 b (by simp)) (by omega) (by omega)
    have e2 : k + 1 + 1 = k + 2 := by omega
    have eb : (k, b.2) = ((k, b.2.1, b.2.2) : VN) := rfl
    simp (disch := omega) only [bw_markNormalS_2, hi, decide_true, cond_true, Int.natCast_nonneg, Bool.and_true, Bool.true_and, Int.toNat_natCast, at_midV, set_midV, wrap_i64, eb, hi2, hi3, e2, hm, Option.bind_some, getTV_here, getTV_next]
    rw [this]
    simp only [mkV, totV, List.length_cons, Int.natCast_add, Int.natCast_mul, Int.cast_ofNat_Int]
    rw [show k + 2 + 8 * (b.2.2.length : Int) + (totV r : Int) + 2 * (r.length : Int) = k + (8 * (b.2.2.length : Int) + (totV r : Int)) + 2 * ((r.length : Int) + 1) by omega]
theorem c_markNormalS (l : List VN) (k : Int) (hk : 0 ≤ k) (hk' : k + totV l + 2 * l.length < 1000000000) (h : ShV l) : R iw_markNormalS [tLPIPILA8 l, tI k] = some [tI (k + totV l + 2 * l.length), tLPIPILA8 (mkV k l)] := by
  apply vw_markNormalS
  have := c_markNormalS_2 l [] k hk hk' (by have := h.1; simpa using this) (fun b hb => (h.2 b hb).1)
  simp only [List.nil_append, List.length_nil, Int.natCast_zero] at this
  simp [bw_markNormalS, this]
theorem c_heldNormalS_2 : ∀ (r p : List VN) (k : Int), 0 ≤ k → k + totV r + 2 * r.length < 1000000000 → p.length + r.length < 1000000 →
    R iw_heldNormalS_2 [tLPIPILA8 (p ++ mkV k r), tI k, tI (p.length : Int)] = some [tI 0, tI (k + totV r + 2 * r.length)] := by
  intro r
  induction r with
  | nil =>
    intro p k _ _ _
    apply vw_heldNormalS_2
    simp [bw_heldNormalS_2, mkV, totV]
  | cons b r ih =>
    intro p k hk hk' hl
    simp only [totV, List.length_cons, Int.natCast_add, Int.natCast_mul, Int.cast_ofNat_Int] at hk' hl
    apply vw_heldNormalS_2
    have hi := lt_midV p (k, k + 1, marksR (k + 2) b.2.2.length) (mkV (k + 2 + 8 * b.2.2.length) r)
    have this := ih (p ++ [(k, k + 1, marksR (k + 2) b.2.2.length)]) (k + 2 + 8 * b.2.2.length) (by omega) (by omega) (by simp; omega)
    simp only [List.length_append, List.length_singleton, Int.natCast_add, Int.cast_ofNat_Int, List.append_assoc, List.singleton_append] at this
    have hm := c_heldSimpleS (k + 2) b.2.2.length (by omega) (by omega)
    have e2 : k + 1 + 1 = k + 2 := by omega
    have hneg : decide (k + 2 + 8 * (b.2.2.length : Int) < 0) = false := by simp; omega
    simp (disch := omega) only [bw_heldNormalS_2, mkV, hi, decide_true, cond_true, Int.natCast_nonneg, Bool.and_true, Bool.true_and, Int.toNat_natCast, at_midV, bne_self_eq_false, cond_false, wrap_i64, e2, hm, Option.bind_some, getTV_here, getTV_next, hneg]
    rw [this]
    simp only [totV, List.length_cons, Int.natCast_add, Int.natCast_mul, Int.cast_ofNat_Int]
    rw [show k + 2 + 8 * (b.2.2.length : Int) + (totV r : Int) + 2 * (r.length : Int) = k + (8 * (b.2.2.length : Int) + (totV r : Int)) + 2 * ((r.length : Int) + 1) by omega]
theorem c_heldNormalS (l : List VN) (k : Int) (hk : 0 ≤ k) (hk' : k + totV l + 2 * l.length < 1000000000) (h : ShV l) : R iw_heldNormalS [tLPIPILA8 (mkV k l), tI k] = some [tI (k + totV l + 2 * l.length)] := by
  apply vw_heldNormalS
  have := c_heldNormalS_2 l [] k hk hk' (by have := h.1; simpa using this)
  simp only [List.nil_append, List.length_nil, Int.natCast_zero] at this
  simp [bw_heldNormalS, this]

theorem c_SuperSummit_9 (ok : Bool) : ∀ (r p acc : List VN), p.length + r.length < 1000000 → acc.length + r.length < 1000000 → (∀ b ∈ r, b.2.2.length < 1000000 ∧ ((limV b).2 = 0 ↔ ok = true)) →
    R is_SuperSummit_9 [tLPIPILA8 (p ++ r), tLPIPILA8 acc, tI (p.length : Int)] = some (if ok = true ∨ r = [] then [tI 0, tLPIPILA8 (acc ++ r)] else [tI 1, tLPIPILA8 [], tI 3]) := by
  intro r
  induction r with
  | nil =>
    intro p acc _ _ _
    apply vs_SuperSummit_9
    simp [bs_SuperSummit_9]
  | cons b r ih =>
    intro p acc hl ha hb
    simp only [List.length_cons] at hl ha
    apply vs_SuperSummit_9
    have hi := lt_midV p b r
    obtain ⟨b1, b2⟩ := hb b (by simp)
    have a1 : apOk ([] : List (List Int)) b.2.2 = true := apOk2 (by simp; omega)
    have a2 : apOk acc [b] = true := apOk2 (by simp; omega)
    simp (disch := omega) only [bs_SuperSummit_9, hi, decide_true, cond_true, Int.natCast_nonneg, Bool.and_true, Int.toNat_natCast, at_midV, a1, vn_eta, c_l03Fit b, Option.bind_some, getTV_here, getTV_next, wrap_i64]
    cases ok with
    | true =>
      have hz : (limV b).2 = 0 := b2.2 rfl
      have hv : (limV b).1 = b := by
        unfold limV at hz ⊢
        split at hz
        · rename_i hc; rw [if_pos hc]
        · simp at hz
      have this := ih (p ++ [b]) (acc ++ [b]) (by simp; omega) (by simp; omega) (fun c hc => hb c (by simp [hc]))
      simp only [List.length_append, List.length_singleton, Int.natCast_add, Int.cast_ofNat_Int, List.append_assoc, List.singleton_append, true_or, if_true] at this
      simp only [hz, hv, bne_self_eq_false, cond_false, a2, cond_true, this, true_or, if_true]
    | false =>
      have hz : ¬ (limV b).2 = 0 := fun h => by have := b2.1 h; simp at this
      have h3 : (limV b).2 = 3 := by
        unfold limV at hz ⊢
        split
        · rename_i hc; rw [if_pos hc] at hz; simp at hz
        · rfl
      have e3 : ((3 : Int) != 0) = true := rfl
      simp only [h3, e3, cond_true]
      simp
theorem limV_same {a b : VN} (h1 : a.2.1 = b.2.1) (h2 : a.2.2.length = b.2.2.length) : (limV a).2 = (limV b).2 := by
  unfold limV
  rw [h1, h2]
  split <;> rfl
theorem both_SuperSummit (a : VN) (ha : Rows8 a.2.2) : ∃ (l : List VN) (c : Int), l.length ≤ 120 ∧ (∀ b ∈ l, Len8 b.2.2 ∧ b.2.2.length ≤ 100000) ∧ R is_SuperSummit [tPIPILA8 a] = some [tLPIPILA8 l, tI c] ∧ R ii_SuperSummit [tPIPILA8 a] = some [tLPIPILA8 l, tI c] := by
  have hs := c_l03Is a ha
  have hi := c_IsNormal a ha
  have nil3 : ∀ c : Int, ∃ (l : List VN) (c' : Int), l.length ≤ 120 ∧ (∀ b ∈ l, Len8 b.2.2 ∧ b.2.2.length ≤ 100000) ∧ l = [] ∧ c' = c := fun c => ⟨[], c, by simp, fun b hb => by simp at hb, rfl, rfl⟩
  have hcode : R is_l04Code [tPIPILA8 a] = some [tI (if isNm a then (if 4 < a.1 then 2 else 0) else 1)] := by
    apply vs_l04Code
    simp only [bs_l04Code, vn_eta, hs, Option.bind_some, getTV_here]
    cases isNm a with
    | false => simp
    | true =>
      by_cases h4 : 4 < a.1
      · simp [h4]
      · simp [h4]
  rcases nm_cases a with h | ⟨h, n, v, q1, q2, q3, rfl⟩
  · refine ⟨[], 1, by simp, fun b hb => by simp at hb, vs_SuperSummit _ ?_, vi_SuperSummit _ ?_⟩
    · simp [bs_SuperSummit, vn_eta, hcode, h]
    · simp [bi_SuperSummit, vn_eta, hi, h]
  · rw [h] at hi
    simp only [h, if_true] at hcode
    by_cases h4 : 4 < (enc v).1
    · rw [if_pos h4] at hcode
      refine ⟨[], 2, by simp, fun b hb => by simp at hb, vs_SuperSummit _ ?_, vi_SuperSummit _ ?_⟩
      · simp only [bs_SuperSummit, vn_eta, hcode, Option.bind_some, getTV_here]
        rfl
      · simp only [bi_SuperSummit, vn_eta, hi, Option.bind_some, getTV_here, Bool.not_true, cond_false, decide_eq_true h4, cond_true]
    · rw [if_neg h4] at hcode
      have e0 : ((0 : Int) != 0) = false := rfl
      have h4n : ¬ 4 < (n : Int) := h4
      rcases sets_all n q1 (by omega) v q3 with ⟨g1, g2⟩ | ⟨ys, g⟩
      · refine ⟨[], 3, by simp, fun b hb => by simp at hb, vs_SuperSummit _ ?_, vi_SuperSummit _ ?_⟩
        · simp only [bs_SuperSummit, vn_eta, hcode, Option.bind_some, getTV_here, getTV_next, e0, cond_false, g2, Bool.not_false, cond_true]
        · simp only [bi_SuperSummit, vn_eta, hi, Option.bind_some, getTV_here, getTV_next, Bool.not_true, cond_false, decide_eq_false h4, g1, Bool.not_false, cond_true]
      · have hkl := (sumN_ok q1 q3).len
        have hc := g.cls
        have hlen := g.len
        obtain ⟨y0, yr, rfl⟩ : ∃ y0 yr, ys = y0 :: yr := by
          match ys, g.ne with
          | y0 :: yr, _ => exact ⟨y0, yr, rfl⟩
        have hsame : ∀ b ∈ y0 :: yr, (limV b).2 = (limV y0).2 := fun b hb => by
          have c1 := hc b hb
          have c2 := hc y0 (by simp)
          exact limV_same (by rw [c1.2.1, c2.2.1]) (by rw [c1.2.2.1, c2.2.2.1])
        have hsp : R is_SuperSummit_9 [tLPIPILA8 (y0 :: yr), tLPIPILA8 [], tI 0] = _ := c_SuperSummit_9 (decide ((limV y0).2 = 0)) (y0 :: yr) [] [] (by simp at hlen ⊢; omega) (by simp at hlen ⊢; omega) (fun b hb => by
          refine ⟨by rw [(hc b hb).2.2.1]; omega, ?_⟩
          rw [hsame b hb]
          simp)
        have pos : decide ((0 : Int) < (((y0 :: yr).length : Nat) : Int)) = true := decide_eq_true (by simp)
        have g0 : List.getD (y0 :: yr) 0 ((0, (0, [])) : VN) = y0 := rfl
        by_cases hz : (limV y0).2 = 0
        · refine ⟨y0 :: yr, 0, hlen, fun b hb => ⟨(hc b hb).2.2.2, by rw [(hc b hb).2.2.1]; omega⟩, vs_SuperSummit _ ?_, vi_SuperSummit _ ?_⟩
          · simp only [decide_eq_true hz, true_or, if_true, List.nil_append] at hsp
            simp only [bs_SuperSummit, vn_eta, hcode, Option.bind_some, getTV_here, getTV_next, e0, cond_false, g.spec, Bool.not_true, hsp, beq_self_eq_true, cond_true]
          · simp only [bi_SuperSummit, vn_eta, hi, Option.bind_some, getTV_here, getTV_next, Bool.not_true, cond_false, decide_eq_false h4, g.impl, pos, cond_true, g0, c_limited y0, hz, e0]
        · have h3 : (limV y0).2 = 3 := by
            unfold limV at hz ⊢
            split
            · rename_i hc; rw [if_pos hc] at hz; simp at hz
            · rfl
          refine ⟨[], 3, by simp, fun b hb => by simp at hb, vs_SuperSummit _ ?_, vi_SuperSummit _ ?_⟩
          · simp only [decide_eq_false hz, Bool.false_eq_true, false_or, List.cons_ne_nil, reduceCtorEq, if_false] at hsp
            simp only [bs_SuperSummit, vn_eta, hcode, Option.bind_some, getTV_here, getTV_next, e0, cond_false, g.spec, Bool.not_true, hsp]
            rfl
          · have e3 : ((3 : Int) != 0) = true := rfl
            simp only [bi_SuperSummit, vn_eta, hi, Option.bind_some, getTV_here, getTV_next, Bool.not_true, cond_false, decide_eq_false h4, g.impl, pos, cond_true, g0, c_limited y0, h3, e3]
theorem totV_le {m : Nat} : ∀ (l : List VN), (∀ b ∈ l, b.2.2.length ≤ m) → totV l ≤ 8 * m * l.length := by
  intro l
  induction l with
  | nil => intro _; simp [totV]
  | cons b r ih =>
    intro h
    have := ih (fun c hc => h c (by simp [hc]))
    have := h b (by simp)
    simp only [totV, List.length_cons, Nat.mul_add]
    omega
theorem law_FnExactSuperSummit (a : Int × Int × List (List Int)) (h : Fit (.pair (.int .i64) (.pair (.int .i64) (.slice (.arr .u8 8)))) a) : R iw_FnExactSuperSummit [tPIPILA8 a] = some [tB true] := by
  obtain ⟨hl, hw⟩ := fit_normal h
  apply vw_FnExactSuperSummit
  by_cases hb : (1048576 : Int) < a.2.2.length
  · simp [bw_FnExactSuperSummit, c_szNormal a 1048576 hl (by omega) (by omega), hb]
  · have hs : a.2.2.length < 1000000000 := by omega
    have e : ¬ (1048576 - (a.2.2.length : Int) < 0) := by omega
    have e1 : ¬ (1 + 8 * (a.2.2.length : Int) < 0) := by omega
    obtain ⟨l, c, hn, hr, hss, hii⟩ := both_SuperSummit a hw
    have ht := totV_le l (fun b hb => (hr b hb).2)
    have hsh : ShV l := ⟨by omega, fun b hb => ⟨(hr b hb).1, by have := (hr b hb).2; omega⟩⟩
    have hk : (1 : Int) + totV l + 2 * l.length < 1000000000 := by
      have : 8 * 100000 * l.length ≤ 8 * 100000 * 120 := Nat.mul_le_mul_left _ hn
      omega
    have e2 : ¬ (1 + (totV l : Int) + 2 * (l.length : Int) < 0) := by omega
    simp [bw_FnExactSuperSummit, c_szNormal a 1048576 hl (by omega) (by omega), hb, e, c_toNormal a hw.len8 hs, hss, hii, c_eqNormal a _ hw.len8 hw.len8 hs, c_eqNormalS l hsh,
      c_markNormal a 1 hw.len8 (by omega) (by omega), c_markNormalS l 1 (by omega) hk hsh, c_heldNormalS l 1 (by omega) hk hsh, e1, e2]
end Go.Ev.YtolpnaiincngjaaGreat
