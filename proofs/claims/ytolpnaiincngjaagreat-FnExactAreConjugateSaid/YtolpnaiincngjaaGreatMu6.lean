/- AreConjugate: the law. -/
import Derived.Test.YtolpnaiincngjaaGreatMu5
import Derived.Test.YtolpnaiincngjaaGreatMnG
set_option linter.unusedVariables false
set_option linter.unusedSimpArgs false
namespace Go.Ev.YtolpnaiincngjaaGreat
open Go.Ev Go.Gar
theorem pm1 (s t : Pm 1) : s = t := by
  apply Pm.ext
  intro x
  by_cases h : x < 1
  · have a := s.lt h
    have b := t.lt h
    omega
  · rw [s.out x (by omega), t.out x (by omega)]
abbrev V1 : VN := (1, 0, [])
theorem c_turnBy1 (k : Int) : R i__i_Normal__turnBy [tPIPILA8 V1, tI k] = some [tPIPILA8 V1] := by
  apply v__i_Normal__turnBy
  simp [b__i_Normal__turnBy]
theorem c_put1 : R i__i_Normal__put [tPIPILA8 V1, tA8 (sA (1 : Pm 1))] = some [tPIPILA8 V1] := by
  apply v__i_Normal__put
  have h := c_nothing 1 (by omega)
  simp only [Int.natCast_one] at h
  simp [b__i_Normal__put, h]
theorem c_conjugate1 (s : Pm 1) : R ii_conjugate [tPIPILA8 V1, tA8 (sA s)] = some [tPIPILA8 V1] := by
  rw [pm1 s 1]
  have hl := c_leftComplement 1 (by omega) (1 : Pm 1)
  rw [pm1 (Pm.half 1 * (1 : Pm 1)⁻¹) 1] at hl
  simp only [Int.natCast_one] at hl
  have hpi : R i__i_Normal__putInverse [tPIPILA8 V1, tA8 (sA (1 : Pm 1))] = some [tPIPILA8 V1] := by
    apply v__i_Normal__putInverse
    simp only [b__i_Normal__putInverse, c_turnBy1, Option.bind_some, getTV_here, hl, c_put1]
  have hcp : R ii_copyNormal [tPIPILA8 V1] = some [tPIPILA8 V1] := by
    apply vi_copyNormal
    simp [bi_copyNormal, apOk, lim]
  have h4 : R ii_product_4 [tI 0, tI 0, tLA8 [], tI 1, tI 0, tLA8 [], tLA8 [], tI 0, tI 0] = some [tI 0, tI 0, tI 0, tLA8 [], tI 1, tI 0, tLA8 []] := by
    apply vi_product_4
    simp [bi_product_4]
  have hpr : R ii_product [tPIPILA8 V1, tPIPILA8 V1] = some [tPIPILA8 V1] := by
    apply vi_product
    simp only [bi_product, hcp, Option.bind_some, getTV_here, c_turnBy1, List.length_nil, Int.natCast_zero, h4, getTV_next]
  have hw : R ii_withoutHead [tPIPILA8 V1, tA8 (sA (1 : Pm 1))] = some [tPIPILA8 V1] := by
    apply vi_withoutHead
    simp only [bi_withoutHead, hpi, Option.bind_some, getTV_here, hpr]
  apply vi_conjugate
  simp only [bi_conjugate, hw, Option.bind_some, getTV_here, c_put1]
theorem c_superSummit1_7 (S : List (Pm 1)) (hS : S.length < 1000000) : ∀ (m k : Nat), k + m = S.length → R ii_superSummit_7 [tLPIPILA8 [V1], tLA8 (sL S), tI 0, tI (S.length : Int), tI (k : Int)] = some [tI 0, tLPIPILA8 [V1], tLA8 (sL S), tI 0] := by
  intro m
  induction m with
  | zero =>
    intro k hk
    apply vi_superSummit_7
    have : ¬ ((k : Int) < (S.length : Int)) := by omega
    simp only [bi_superSummit_7, decide_eq_false this, cond_false]
  | succ m ih =>
    intro k hk
    have hkS : k < S.length := by omega
    apply vi_superSummit_7
    have w : wi64 ((k : Int) + 1) = ((k + 1 : Nat) : Int) := by rw [wrap_i64] <;> omega
    have hlt : ((k : Int) < (S.length : Int)) := by omega
    have hc := c_ContainsFunc V1 [V1] (fun z hz => by simp at hz; subst hz; simp) (by simp)
    have hg : List.getD ([V1] : List VN) 0 (0, (0, [])) = V1 := rfl
    have h01 : ((0 : Int) < ((1 : Nat) : Int)) := by omega
    have ht : Int.toNat 0 = 0 := rfl
    simp (disch := omega) only [bi_superSummit_7, decide_eq_true hlt, decide_eq_true h01, decide_eq_true, sL_len, List.length_cons, List.length_nil, Nat.zero_add, cond_true, Bool.and_true, Int.toNat_natCast, ht, hg, sL_get hkS, c_conjugate1, Option.bind_some, getTV_here, w]
    have e1 : decide (V1 ∈ [V1]) = true := by simp
    simp only [hc, Option.bind_some, getTV_here, bne_self_eq_false, cond_false, e1, cond_true]
    exact ih (k + 1) (by omega)
/-- Both lists, without the mathematics. -/
structure Sets0 {n : Nat} (v : Nm n) (ys : List VN) : Prop where
  impl : R ii_superSummit [tPIPILA8 (enc v)] = some [tLPIPILA8 ys, tB true]
  spec : R is_l04Set [tPIPILA8 (enc v)] = some [tLPIPILA8 ys, tB true]
  all : ∀ z ∈ ys, ∃ y : Nm n, z = enc y ∧ SS (sumN v) y
  asc : Asc ys
  len : ys.length ≤ 120
  nod : ys.Nodup
  ne : ys ≠ []
theorem sets_one (v : Nm 1) (hv : OkN v 200) : Sets0 v [V1] := by
  have hs1 := c_summit 1 (by omega) (by omega) v (hv.mono (by omega))
  have hs2 := c_l04Summit 1 (by omega) (by omega) v (hv.mono (by omega))
  have hsu := (sumN_ok (by omega) hv).one rfl
  have hv0 := hv.one rfl
  subst hv0
  rw [hsu] at hs1 hs2
  obtain ⟨S1, a1, a2, a3⟩ := c_allSimple 1 (by omega) (by omega)
  obtain ⟨S2, b1, b2, b3, b4⟩ := c_l04Simples_all 1 (by omega) (by omega)
  have hS2 := b4 rfl
  subst hS2
  have eE : enc ((0, []) : Nm 1) = V1 := rfl
  have h7 := c_superSummit1_7 S1 (by omega) S1.length 0 (by omega)
  have hcl : Cls 1 0 0 V1 := ⟨rfl, rfl, rfl, fun x hx => by simp at hx⟩
  obtain ⟨ys, q1, q2, q3⟩ := c_sortNormals (n := 1) (p := 0) (k := 0) (by omega) [V1] (fun x hx => by simp at hx; subst hx; exact hcl) (by simp)
  have ey : ys = [V1] := List.perm_singleton.1 q2
  subst ey
  have n1 := c_l02Same 1 (by omega)
  simp only [Int.natCast_one, Int.natCast_zero, eE] at h7 hs1 hs2 a1 b1 n1
  have w : wi64 ((0 : Int) + 1) = 1 := by rw [wrap_i64] <;> omega
  have h4b : R ii_superSummit_4 [tLPIPILA8 [V1], tLA8 (sL S1), tI 1] = some [tI 0, tLPIPILA8 [V1]] := by
    apply vi_superSummit_4
    simp [bi_superSummit_4]
  have h4 : R ii_superSummit_4 [tLPIPILA8 [V1], tLA8 (sL S1), tI 0] = some [tI 0, tLPIPILA8 [V1]] := by
    apply vi_superSummit_4
    have h01 : ((0 : Int) < ((1 : Nat) : Int)) := by omega
    simp only [bi_superSummit_4, List.length_cons, List.length_nil, Nat.zero_add, decide_eq_true h01, cond_true, sL_len, h7, Option.bind_some, getTV_here, getTV_next, beq_self_eq_true, w, h4b]
  have s7 : R is_l04Set_7 [tI 1, tI 0, tLA8 [], tLPIPILA8 [V1], tLPIPILA8 [V1], tLA8 [], tI 0, tI 0] = some [tI 0, tI 1, tI 0, tLA8 [], tLPIPILA8 [V1], tLPIPILA8 [V1], tLA8 [], tI 0] := by
    apply vs_l04Set_7
    simp [bs_l04Set_7]
  have s4b : R is_l04Set_4 [tI 1, tI 0, tLA8 [], tLPIPILA8 [V1], tLPIPILA8 [V1], tLA8 [], tI 1] = some [tI 0, tLPIPILA8 [V1]] := by
    apply vs_l04Set_4
    simp [bs_l04Set_4]
  have s4 : R is_l04Set_4 [tI 1, tI 0, tLA8 [], tLPIPILA8 [V1], tLPIPILA8 [V1], tLA8 [], tI 0] = some [tI 0, tLPIPILA8 [V1]] := by
    apply vs_l04Set_4
    have h01 : ((0 : Int) < ((1 : Nat) : Int)) := by omega
    simp only [bs_l04Set_4, List.length_cons, List.length_nil, Nat.zero_add, decide_eq_true h01, cond_true, s7, Option.bind_some, getTV_here, getTV_next, beq_self_eq_true, w, s4b]
  refine ⟨?_, ?_, fun z hz => ?_, by simp, by simp, by simp, by simp⟩
  · rw [eE]
    apply vi_superSummit
    simp only [bi_superSummit, hs1, Option.bind_some, getTV_here, a1, h4, beq_self_eq_true, cond_true, getTV_next, q1]
  · rw [eE]
    apply vs_l04Set
    simp only [sL_nil] at b1
    simp only [bs_l04Set, hs2, Option.bind_some, getTV_here, n1, b1, s4, beq_self_eq_true, cond_true, getTV_next]
  · simp only [List.mem_singleton] at hz
    exact ⟨(0, []), hz, by rw [hsu]; exact ⟨Lat.Proper.nil, rfl, rfl⟩⟩
theorem sets_all (n : Nat) (h1 : 1 ≤ n) (h4 : n ≤ 4) (v : Nm n) (hv : OkN v 200) :
    (R ii_superSummit [tPIPILA8 (enc v)] = some [tLPIPILA8 [], tB false] ∧ R is_l04Set [tPIPILA8 (enc v)] = some [tLPIPILA8 [], tB false]) ∨ ∃ ys : List VN, Sets0 v ys := by
  by_cases h : n = 1
  · subst h
    exact .inr ⟨_, sets_one v hv⟩
  · rcases sets_two n (by omega) h4 v hv with h | ⟨ys, g⟩
    · exact .inl h
    · refine .inr ⟨ys, ⟨g.impl, g.spec, g.all, g.asc, g.len, g.nod, ?_⟩⟩
      intro e
      have := (g.mem (sumN v)).1 .base
      rw [e] at this
      simp at this
theorem Sets0.cls {n : Nat} {v : Nm n} {ys : List VN} (h : Sets0 v ys) : ∀ z ∈ ys, Cls (n : Int) (sumN v).1 (sumN v).2.length z := fun z hz => by
  obtain ⟨y, rfl, hy⟩ := h.all z hz
  exact hy.cls

/-! ### AreConjugate -/
theorem c_AreConjugate_bad {a b : VN} (ha : Rows8 a.2.2) (hb : Rows8 b.2.2) (h : both a b ≠ 0) : R is_AreConjugate [tPIPILA8 a, tPIPILA8 b] = some [tB false, tI (both a b)] ∧ R ii_AreConjugate [tPIPILA8 a, tPIPILA8 b] = some [tB false, tI (both a b)] := by
  have e1 : (both a b == 0) = false := by simpa using h
  have e2 : (both a b != 0) = true := by simpa using h
  constructor
  · apply vs_AreConjugate
    simp only [bs_AreConjugate, c_l03Both a b ha hb, Option.bind_some, getTV_here, e1, e2, cond_false, cond_true]
  · apply vi_AreConjugate
    simp only [bi_AreConjugate, c_areSameCount a b ha hb, Option.bind_some, getTV_here, e2, cond_true]
open Classical in
theorem c_AreConjugate_ok {n : Nat} (hn1 : 1 ≤ n) (hn : n ≤ 8) {v w : Nm n} (hv : OkN v 200) (hw : OkN w 200) (h : both (enc v) (enc w) = 0) :
    ∃ (r : Bool) (c : Int), R is_AreConjugate [tPIPILA8 (enc v), tPIPILA8 (enc w)] = some [tB r, tI c] ∧ R ii_AreConjugate [tPIPILA8 (enc v), tPIPILA8 (enc w)] = some [tB r, tI c] := by
  have ha : Rows8 (enc v).2.2 := sL_rows hn _
  have hb : Rows8 (enc w).2.2 := sL_rows hn _
  have b1 := c_l03Both (enc v) (enc w) ha hb
  have b2 := c_areSameCount (enc v) (enc w) ha hb
  rw [h] at b1 b2
  have e0 : ((0 : Int) != 0) = false := rfl
  have eV : ∀ x : VN, (x.1, x.2.1, x.2.2) = x := fun x => rfl
  have eN : (enc v).1 = (n : Int) := rfl
  have vs1 := c_l04Summit n hn1 hn v (hv.mono (by omega))
  have vs2 := c_l04Summit n hn1 hn w (hw.mono (by omega))
  have vi1 := c_summit n hn1 hn v (hv.mono (by omega))
  have vi2 := c_summit n hn1 hn w (hw.mono (by omega))
  have rs : ∀ r c, (bif decide (4 < (n : Int)) then some [tB false, tI 2] else
      bif (((sumN v).1) != ((sumN w).1)) then some [tB false, tI 0] else
      bif ((((sumN v).2.length : Nat) : Int) != (((sumN w).2.length : Nat) : Int)) then some [tB false, tI 0] else
      (R is_l04Set [tPIPILA8 (enc v)]).bind fun o4 => bif (!(gB o4 1)) then some [tB false, tI 3] else
        (R is_l04Insert [tLPIPILA8 (gLPIPILA8 o4 0), tPIPILA8 (enc (sumN w))]).bind fun o5 => some [tB (!(gB o5 1)), tI 0]) = some [tB r, tI c] → R is_AreConjugate [tPIPILA8 (enc v), tPIPILA8 (enc w)] = some [tB r, tI c] := by
    intro r c hh
    apply vs_AreConjugate
    simp only [bs_AreConjugate, eV, b1, Option.bind_some, getTV_here, beq_self_eq_true, cond_true, e0, cond_false, vs1, vs2]
    simp only [eN, (enc_2 _).1, (enc_2 _).2]
    exact hh
  have ri : ∀ r c, (bif decide (4 < (n : Int)) then some [tB false, tI 2] else
      bif (((sumN v).1) != ((sumN w).1)) then some [tB false, tI 0] else
      bif ((((sumN v).2.length : Nat) : Int) != (((sumN w).2.length : Nat) : Int)) then some [tB false, tI 0] else
      (R ii_superSummit [tPIPILA8 (enc v)]).bind fun o4 => bif (!(gB o4 1)) then some [tB false, tI 3] else
        (R ig_ContainsFunc___i_Normal_i_Normal__v2 [tLPIPILA8 (gLPIPILA8 o4 0), tPIPILA8 (enc (sumN w))]).bind fun o5 => some [tB (gB o5 0), tI 0]) = some [tB r, tI c] → R ii_AreConjugate [tPIPILA8 (enc v), tPIPILA8 (enc w)] = some [tB r, tI c] := by
    intro r c hh
    apply vi_AreConjugate
    simp only [bi_AreConjugate, eV, b2, Option.bind_some, getTV_here, e0, cond_false, vi1, vi2]
    simp only [eN, (enc_2 _).1, (enc_2 _).2]
    exact hh
  by_cases h4 : 4 < (n : Int)
  · refine ⟨false, 2, rs _ _ ?_, ri _ _ ?_⟩ <;> simp only [decide_eq_true h4, cond_true]
  · by_cases p1 : (sumN v).1 = (sumN w).1
    · by_cases p2 : (((sumN v).2.length : Nat) : Int) = (((sumN w).2.length : Nat) : Int)
      · simp only [decide_eq_false h4, cond_false, p1, p2, bne_self_eq_false] at rs ri
        rcases sets_all n hn1 (by omega) v hv with ⟨g1, g2⟩ | ⟨ys, g⟩
        · refine ⟨false, 3, rs _ _ ?_, ri _ _ ?_⟩
          · simp [g2]
          · simp [g1]
        · have hok := sumN_ok hn1 hw
          have hcw : Cls (n : Int) (sumN v).1 (sumN v).2.length (enc (sumN w)) := ⟨rfl, p1.symm, by rw [(enc_2 _).2]; omega, sL_8 _⟩
          have hkl := (sumN_ok hn1 hv).len
          have hins := c_l04Insert (enc (sumN w)) hcw (by omega) ys g.cls (by have := g.len; omega) g.asc
          have hcon := c_ContainsFunc_v2 (enc (sumN w)) ys (fun z hz => by rw [(g.cls z hz).2.2.1]; omega) (by have := g.len; omega)
          refine ⟨decide (enc (sumN w) ∈ ys), 0, rs _ _ ?_, ri _ _ ?_⟩
          · simp only [g.spec, Option.bind_some, getTV_here, getTV_next, Bool.not_true, cond_false, hins]
            by_cases e : enc (sumN w) ∈ ys
            · simp [e]
            · simp [e]
          · simp only [g.impl, Option.bind_some, getTV_here, getTV_next, Bool.not_true, cond_false, hcon]
      · have p2' : ((((sumN v).2.length : Nat) : Int) != (((sumN w).2.length : Nat) : Int)) = true := by simpa using p2
        refine ⟨false, 0, rs _ _ ?_, ri _ _ ?_⟩ <;> simp only [decide_eq_false h4, cond_false, p1, bne_self_eq_false, p2', cond_true]
    · have p1' : ((sumN v).1 != (sumN w).1) = true := by simpa using p1
      refine ⟨false, 0, rs _ _ ?_, ri _ _ ?_⟩ <;> simp only [decide_eq_false h4, cond_false, p1', cond_true]
theorem law_FnExactAreConjugate (a : Int × Int × List (List Int)) (h : Fit (.pair (.int .i64) (.pair (.int .i64) (.slice (.arr .u8 8)))) a) (b : Int × Int × List (List Int)) (h' : Fit (.pair (.int .i64) (.pair (.int .i64) (.slice (.arr .u8 8)))) b) : R iw_FnExactAreConjugate [tPIPILA8 a, tPIPILA8 b] = some [tB true] := by
  obtain ⟨hl, hw⟩ := fit_normal h
  obtain ⟨hl', hw'⟩ := fit_normal h'
  apply vw_FnExactAreConjugate
  by_cases hb : (1048576 : Int) < a.2.2.length
  · simp [bw_FnExactAreConjugate, c_szNormal a 1048576 hl (by omega) (by omega), hb]
  · have hs : a.2.2.length < 1000000000 := by omega
    have e : ¬ (1048576 - (a.2.2.length : Int) < 0) := by omega
    by_cases hb' : 1048576 - (a.2.2.length : Int) < b.2.2.length
    · simp [bw_FnExactAreConjugate, c_szNormal a 1048576 hl (by omega) (by omega), hb, e, c_szNormal b (1048576 - (a.2.2.length : Int)) hl' (by omega) (by omega), hb']
    · have hs' : b.2.2.length < 1000000000 := by omega
      have e' : ¬ (1048576 - (a.2.2.length : Int) - b.2.2.length < 0) := by omega
      obtain ⟨r, c, hss, hii⟩ : ∃ (r : Bool) (c : Int), R is_AreConjugate [tPIPILA8 a, tPIPILA8 b] = some [tB r, tI c] ∧ R ii_AreConjugate [tPIPILA8 a, tPIPILA8 b] = some [tB r, tI c] := by
        rcases both_cases a b with h1 | ⟨h1, n, v, w, q1, q2, q3, q4, rfl, rfl⟩
        · have := c_AreConjugate_bad hw hw' h1
          exact ⟨_, _, this.1, this.2⟩
        · exact c_AreConjugate_ok q1 q2 q3 q4 h1
      simp [bw_FnExactAreConjugate, c_szNormal a 1048576 hl (by omega) (by omega), hb, e, c_szNormal b (1048576 - (a.2.2.length : Int)) hl' (by omega) (by omega), hb', e', c_toNormal a hw.len8 hs, c_toNormal b hw'.len8 hs', hss, hii,
        c_eqNormal a _ hw.len8 hw.len8 hs, c_eqNormal b _ hw'.len8 hw'.len8 hs']
end Go.Ev.YtolpnaiincngjaaGreat
