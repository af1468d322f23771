/- Handles: the law. -/
import Derived.Test.YteclcmiopobnaaaMk2
import Derived.Test.YteclcmiopobnaaaMk3
import Derived.Test.YteclcmiopobnaaaMp18
set_option linter.unusedVariables false
set_option linter.unusedSimpArgs false
namespace Go.Ev.Yteclcmiopobnaaa
open Go.Ev
theorem c_braid5 (a : Int × List Int) (h : a.2.length < 1000000000) : R iw_braid5 [tPILI a, tPILI a] = some [tB true] := by
  apply vw_braid5
  have e := c_likeInts a.2 a.2 h
  rw [decide_eq_true rfl] at e
  simp only [bw_braid5, beq_self_eq_true, cond_true, e, Option.bind_some, getTV_here]
theorem isBr_mk {n : Nat} (h1 : 1 ≤ n) (hn : n ≤ 8) {w : List Int} (hw : ∀ x ∈ w, Lr n x) (hl : w.length ≤ 200) : isBr ((n : Int), w) = true := by
  unfold isBr
  simp only [Bool.and_eq_true, decide_eq_true_eq, List.all_eq_true, okL]
  refine ⟨⟨⟨by omega, by omega⟩, hl⟩, fun x hx => ?_⟩
  have := hw x hx
  unfold Lr at this
  simp
  omega
theorem isBr_nat {a : Int × List Int} (h : isBr a = true) : ∃ (n : Nat) (w : List Int), 1 ≤ n ∧ n ≤ 8 ∧ a = ((n : Int), w) ∧ (∀ x ∈ w, Lr n x) ∧ w.length ≤ 200 := by
  obtain ⟨h1, h2, h3, h4⟩ := isBr_ok h
  obtain ⟨x, w⟩ := a
  simp only at h1 h2 h3 h4
  refine ⟨x.toNat, w, by omega, by omega, by rw [show ((x.toNat : Nat) : Int) = x by omega], fun y hy => ?_, h3⟩
  have := h4 y hy
  unfold Lr
  omega
theorem red_ok {c : Int × List Int} (h : (vReduceHandle c).2 = 0) : ∃ (n : Nat) (a b : List Int), 1 ≤ n ∧ n ≤ 8 ∧ c = ((n : Int), a) ∧ (vReduceHandle c).1 = ((n : Int), b) ∧ isBr ((n : Int), a) = true ∧ isBr ((n : Int), b) = true ∧ BE n a b := by
  unfold vReduceHandle at h ⊢
  cases hb : isBr c with
  | false => rw [hb] at h; exact absurd h (show ¬ ((1 : Int) = 0) by decide)
  | true =>
    rw [hb, if_pos rfl] at h
    rw [if_pos rfl]
    obtain ⟨n, w, h1, hn, rfl, hw, hl⟩ := isBr_nat hb
    simp only at h ⊢
    cases hf : fh w with
    | none => rw [hf] at h; exact absurd h (show ¬ ((4 : Int) = 0) by decide)
    | some r =>
      rw [hf] at h
      simp only at h ⊢
      by_cases hl2 : 200 < (rdl w r.1 r.2).length
      · rw [if_pos hl2] at h; exact absurd h (show ¬ ((3 : Int) = 0) by decide)
      · rw [if_neg hl2]
        exact ⟨n, w, rdl w r.1 r.2, h1, hn, rfl, rfl, hb, isBr_mk h1 hn (rdl_Lr hw (fh_lt hf).2.1) (by omega), BE.step hw hf⟩
theorem free_ok {c : Int × List Int} (h : (vHandleFree c).2 = 0) : ∃ (n : Nat) (a b : List Int), 1 ≤ n ∧ n ≤ 8 ∧ c = ((n : Int), a) ∧ (vHandleFree c).1 = ((n : Int), b) ∧ isBr ((n : Int), a) = true ∧ isBr ((n : Int), b) = true ∧ BE n a b ∧ fh b = none ∧ rdc 3000 a = some b := by
  unfold vHandleFree at h ⊢
  cases hb : isBr c with
  | false => rw [hb] at h; exact absurd h (show ¬ ((1 : Int) = 0) by decide)
  | true =>
    rw [hb, if_pos rfl] at h
    rw [if_pos rfl]
    obtain ⟨n, w, h1, hn, rfl, hw, hl⟩ := isBr_nat hb
    simp only at h ⊢
    cases hf : rdc 3000 w with
    | none => rw [hf] at h; exact absurd h (show ¬ ((3 : Int) = 0) by decide)
    | some v =>
      rw [hf] at h
      simp only at h ⊢
      by_cases hl2 : 200 < v.length
      · rw [if_pos hl2] at h; exact absurd h (show ¬ ((3 : Int) = 0) by decide)
      · rw [if_neg hl2]
        obtain ⟨x, y, z⟩ := BE.rdc hf hw
        exact ⟨n, w, v, h1, hn, rfl, rfl, hb, isBr_mk h1 hn y (by omega), x, z, hf⟩
theorem bI (a b : Int) : (a == b) = decide (a = b) := by
  by_cases h : a = b <;> simp [h]
theorem e0 : ((0 : Int) != 0) = false := rfl
theorem e0' : ((0 : Int) == 0) = true := rfl
theorem ne_e {e : Int} (h : e ≠ 0) : (e == 0) = false := by simp [h]
theorem c_FnHandles_j34 (a : List Int) (hy : Bytes a) : R iw_FnHandles_j34 [tLU8 a] = some [tI 0, tB true] := by
  obtain ⟨g, d1, hg⟩ := c_DrawWordSign a hy
  obtain ⟨h, d2, hh⟩ := c_DrawIsTrivial a hy
  apply vw_FnHandles_j34
  simp only [bw_FnHandles_j34, d1, d2, c_WordSign_i g hg.l, c_WordSign_s g hg.l hg.i64, c_IsTrivial_i h hh.l, c_IsTrivial_s h hh.l hh.i64, c_MainLetter_i h hh.l, c_MainLetter_s h hh.l hh.i64, Option.bind_some, getTV_here, getTV_next, beq_self_eq_true, cond_true]
theorem c_FnHandles_j20 (a : List Int) (hy : Bytes a) : R iw_FnHandles_j20 [tLU8 a] = some [tI 0, tB true] := by
  have J := c_FnHandles_j34 a hy
  obtain ⟨e, d1, he⟩ := c_DrawHandleFree a hy
  have h1 := c_HandleFree_i e he.l
  have h2 := c_HandleFree_s e he.l he.i64
  have m1 := c_MainLetter_i e he.l
  have m2 := c_MainLetter_s e he.l he.i64
  have t1 := c_IsTrivial_i e he.l
  have b5 := c_braid5 (vHandleFree e).1 (by have := vHandleFree_len e; omega)
  apply vw_FnHandles_j20
  by_cases hz : (vHandleFree e).2 = 0
  · obtain ⟨n, w, v, n1, n8, rfl, ev, bw, bv, hBE, hf, hr⟩ := free_ok hz
    have E := P.eqb_true n1 n8 bw bv hBE
    have f1 := c_FirstHandle_i ((n : Int), v) (by have := isBr_len bv; show v.length < _; simp only at this; omega)
    have s1 := c_WordSign_i ((n : Int), v) (by have := isBr_len bv; show v.length < _; simp only at this; omega)
    have vf : vFirstHandle ((n : Int), v) = ([], 4) := by
      unfold vFirstHandle
      rw [bv, if_pos rfl, hf]
    have vs : vWordSign ((n : Int), v) = (sgn (mainL v), 0) := by
      unfold vWordSign
      rw [bv, if_pos rfl]
    have vm : vMainLetter ((n : Int), w) = (mainL v, 0) := by
      unfold vMainLetter letterOf
      rw [bw, if_pos rfl]
      simp only [hr]
    have vt : vIsTrivial ((n : Int), w) = (mainL v == 0, 0) := by
      unfold vIsTrivial
      rw [vm]
      simp
    have hv : Lt v := isBr_Lt bv
    have z0 := mainL_zero hv hf
    rw [vf] at f1
    rw [vs] at s1
    rw [vm] at m1 m2
    rw [vt] at t1
    rw [hz, ev] at h1 h2
    rw [ev] at b5
    simp only at f1 s1 m1 m2 t1 h1 h2
    have q1 : ((mainL v == 0) != (((v.length : Nat) : Int) == 0)) = false := by
      have : (mainL v == 0) = (((v.length : Nat) : Int) == 0) := by
        rw [bI, bI, decide_eq_decide, z0]
        constructor
        · rintro rfl; rfl
        · intro h
          exact List.length_eq_zero_iff.1 (by omega)
      rw [this]
      exact bne_self_eq_false _
    have q2 : ((sgn (mainL v) == 0) != (mainL v == 0)) = false := by
      have : (sgn (mainL v) == 0) = (mainL v == 0) := by
        rw [bI, bI, decide_eq_decide]
        unfold sgn
        constructor
        · intro h
          split at h
          · omega
          · split at h <;> omega
        · intro h
          rw [h]
          rfl
      rw [this]
      exact bne_self_eq_false _
    have q3 : (decide (0 < sgn (mainL v)) != decide (0 < mainL v)) = false := by
      have : decide (0 < sgn (mainL v)) = decide (0 < mainL v) := by
        rw [decide_eq_decide]
        unfold sgn
        constructor
        · intro h
          split at h
          · assumption
          · split at h <;> omega
        · intro h
          rw [if_pos h]
          omega
      rw [this]
      exact bne_self_eq_false _
    have c4 : ((4 : Int) != 4) = false := rfl
    simp only [bw_FnHandles_j20, d1, h1, h2, m1, m2, b5, f1, s1, t1, E, q1, q2, q3, c4, e0, e0', J, bne_self_eq_false, Option.bind_some, getTV_here, getTV_next, Bool.not_true, cond_true, cond_false]
  · simp only [bw_FnHandles_j20, d1, h1, h2, m1, m2, b5, ne_e hz, J, bne_self_eq_false, Option.bind_some, getTV_here, getTV_next, Bool.not_true, cond_true, cond_false]
theorem law_FnHandles (a : List Int) (h : Fit (.slice (.int .u8)) a) : R iw_FnHandles [tLU8 a] = some [tB true] := by
  obtain ⟨hl, hb⟩ := fit_bytes h
  apply vw_FnHandles
  by_cases hB : 4096 < ((a.length : Nat) : Int)
  · simp [bw_FnHandles, c_big, hB]
  · have hy : Bytes a := ⟨hb, by omega⟩
    have J := c_FnHandles_j20 a hy
    obtain ⟨b, d1, hbd⟩ := c_DrawFirstHandle a hy
    obtain ⟨c, d2, hc⟩ := c_DrawReduceHandle a hy
    have f1 := c_FirstHandle_i b hbd.l
    have f2 := c_FirstHandle_s b hbd.l hbd.i64
    have r1 := c_ReduceHandle_i c hc.l
    have r2 := c_ReduceHandle_s c hc.l hc.i64
    have l1 := c_likeInts (vFirstHandle b).1 (vFirstHandle b).1 (by have := vFirstHandle_len b; omega)
    rw [decide_eq_true rfl] at l1
    have b5 := c_braid5 (vReduceHandle c).1 (by have := vReduceHandle_len c; omega)
    have hone : (vFirstHandle b).2 ≠ 0 ∨ ((vFirstHandle b).2 = 0 ∧ ∃ p q : Nat, (vFirstHandle b).1 = [(p : Int), (q : Int)] ∧ p < b.2.length ∧ q < b.2.length ∧ List.getD b.2 p 0 = -List.getD b.2 q 0 ∧ -8 ≤ List.getD b.2 q 0 ∧ List.getD b.2 q 0 ≤ 8) := by
      unfold vFirstHandle
      cases hbr : isBr b with
      | false => exact .inl (show (1 : Int) ≠ 0 by decide)
      | true =>
        rw [if_pos rfl]
        cases hf : fh b.2 with
        | none => exact .inl (show (4 : Int) ≠ 0 by decide)
        | some r =>
          have hlt := fh_lt hf
          have hL := (isBr_Lt hbr).at hlt.2.1
          refine .inr ⟨rfl, r.1, r.2, rfl, by omega, hlt.2.1, hlt.2.2, ?_, ?_⟩
          · rw [getD_at hlt.2.1]; exact hL.2.1
          · rw [getD_at hlt.2.1]; exact hL.2.2
    by_cases hz : (vReduceHandle c).2 = 0
    · obtain ⟨n, u, v, n1, n8, rfl, ev, bu, bv, hBE⟩ := red_ok hz
      obtain ⟨o, ho, x1, x2⟩ := ends_BE n8 bu bv hBE
      have y1 := c_SumOf ((n : Int), u) bu
      have y2 := c_SumOf ((n : Int), v) bv
      have ee : v.foldl addS 0 = u.foldl addS 0 := (addS_BE hBE 0).symm
      simp only [ee] at y1 y2
      have l2 := c_likeInts o o (by omega)
      rw [decide_eq_true rfl] at l2
      rw [hz, ev] at r1 r2
      rw [ev] at b5
      rcases hone with h1 | ⟨h1, p, q, e1, hp, hq, e2, k1, k2⟩
      · simp only [bw_FnHandles, c_big, decide_eq_false hB, d1, d2, f1, f2, r1, r2, l1, b5, ne_e h1, e0, e0', x1, x2, y1, y2, l2, J, bne_self_eq_false, Option.bind_some, getTV_here, getTV_next, Bool.not_true, cond_true, cond_false]
      · rw [h1, e1] at f1 f2
        rw [e1] at l1
        have t0 : ((([(p : Int), (q : Int)].length : Nat) : Int) != 2) = false := rfl
        have t1 : decide ((0 : Int) < (([(p : Int), (q : Int)].length : Nat) : Int)) = true := rfl
        have t2 : decide ((1 : Int) < (([(p : Int), (q : Int)].length : Nat) : Int)) = true := rfl
        have g0 : List.getD [(p : Int), (q : Int)] 0 0 = (p : Int) := rfl
        have g1 : List.getD [(p : Int), (q : Int)] 1 0 = (q : Int) := rfl
        have s1 : decide (0 ≤ (p : Int)) = true := decide_eq_true (by omega)
        have s2 : decide ((p : Int) < ((b.2.length : Nat) : Int)) = true := decide_eq_true (by omega)
        have s3 : decide (0 ≤ (q : Int)) = true := decide_eq_true (by omega)
        have s4 : decide ((q : Int) < ((b.2.length : Nat) : Int)) = true := decide_eq_true (by omega)
        have w1 : wi64 (0 - List.getD b.2 q 0) = -List.getD b.2 q 0 := by rw [wrap_i64] <;> omega
        simp only [bw_FnHandles, c_big, decide_eq_false hB, d1, d2, f1, f2, r1, r2, l1, b5, t0, t1, t2, g0, g1, s1, s2, s3, s4, Bool.and_true, Int.toNat_natCast, w1, e2, e0, e0', x1, x2, y1, y2, l2, J, bne_self_eq_false, Option.bind_some, getTV_here, getTV_next, Bool.not_true, cond_true, cond_false]
    · rcases hone with h1 | ⟨h1, p, q, e1, hp, hq, e2, k1, k2⟩
      · simp only [bw_FnHandles, c_big, decide_eq_false hB, d1, d2, f1, f2, r1, r2, l1, b5, ne_e h1, ne_e hz, J, bne_self_eq_false, Option.bind_some, getTV_here, getTV_next, Bool.not_true, cond_true, cond_false]
      · rw [h1, e1] at f1 f2
        rw [e1] at l1
        have t0 : ((([(p : Int), (q : Int)].length : Nat) : Int) != 2) = false := rfl
        have t1 : decide ((0 : Int) < (([(p : Int), (q : Int)].length : Nat) : Int)) = true := rfl
        have t2 : decide ((1 : Int) < (([(p : Int), (q : Int)].length : Nat) : Int)) = true := rfl
        have g0 : List.getD [(p : Int), (q : Int)] 0 0 = (p : Int) := rfl
        have g1 : List.getD [(p : Int), (q : Int)] 1 0 = (q : Int) := rfl
        have s1 : decide (0 ≤ (p : Int)) = true := decide_eq_true (by omega)
        have s2 : decide ((p : Int) < ((b.2.length : Nat) : Int)) = true := decide_eq_true (by omega)
        have s3 : decide (0 ≤ (q : Int)) = true := decide_eq_true (by omega)
        have s4 : decide ((q : Int) < ((b.2.length : Nat) : Int)) = true := decide_eq_true (by omega)
        have w1 : wi64 (0 - List.getD b.2 q 0) = -List.getD b.2 q 0 := by rw [wrap_i64] <;> omega
        simp only [bw_FnHandles, c_big, decide_eq_false hB, d1, d2, f1, f2, r1, r2, l1, b5, t0, t1, t2, g0, g1, s1, s2, s3, s4, Bool.and_true, Int.toNat_natCast, w1, e2, e0, e0', ne_e hz, J, bne_self_eq_false, Option.bind_some, getTV_here, getTV_next, Bool.not_true, cond_true, cond_false]
end Go.Ev.Yteclcmiopobnaaa
