/- AreConjugate: the law. -/
import Derived.Test.YtolpnaiincngjaaGreatMu5
import Derived.Test.YtolpnaiincngjaaGreatMnG
set_option linter.unusedVariables false
set_option linter.unusedSimpArgs false
namespace Go.Ev.YtolpnaiincngjaaGreat
open Go.Ev Go.Gar
theorem pm1 (s t : Pm 1) : s = t := by
  apply Pm.ext
  intro x
  by_cases h : x < 1
  · have a := s.lt h
    have b := t.lt h
    omega
  · rw [s.out x (by omega), t.out x (by omega)]
abbrev V1 : VN := (1, 0, [])
theorem c_turnBy1 (k : Int) : R i__i_Normal__turnBy [tPIPILA8 V1, tI k] = some [tPIPILA8 V1] := by
  apply v__i_Normal__turnBy
  simp [b__i_Normal__turnBy]
theorem c_put1 : R i__i_Normal__put [tPIPILA8 V1, tA8 (sA (1 : Pm 1))] = some [tPIPILA8 V1] := by
  apply v__i_Normal__put
  have h := c_nothing 1 (by omega)
  simp only [Int.natCast_one] at h
  simp [b__i_Normal__put, h]
theorem c_conjugate1 (s : Pm 1) : R ii_conjugate [tPIPILA8 V1, tA8 (sA s)] = some [tPIPILA8 V1] := by
  rw [pm1 s 1]
  have hl := c_leftComplement 1 (by omega) (1 : Pm 1)
  rw [pm1 (Pm.half 1 * (1 : Pm 1)⁻¹) 1] at hl
  simp only [Int.natCast_one] at hl
  have hpi : R i__i_Normal__putInverse [tPIPILA8 V1, tA8 (sA (1 : Pm 1))] = some [tPIPILA8 V1] := by
    apply v__i_Normal__putInverse
    simp only [b__i_Normal__putInverse, c_turnBy1, Option.bind_some, getTV_here, hl, c_put1]
  have hcp : R ii_copyNormal [tPIPILA8 V1] = some [tPIPILA8 V1] := by
    apply vi_copyNormal
    simp [bi_copyNormal, apOk, lim]
  have h4 : R ii_product_4 [tI 0, tI 0, tLA8 [], tI 1, tI 0, tLA8 [], tLA8 [], tI 0, tI 0] = some [tI 0, tI 0, tI 0, tLA8 [], tI 1, tI 0, tLA8 []] := by
    apply vi_product_4
    simp [bi_product_4]
  have hpr : R ii_product [tPIPILA8 V1, tPIPILA8 V1] = some [tPIPILA8 V1] := by
    apply vi_product
    simp only [bi_product, hcp, Option.bind_some, getTV_here, c_turnBy1, List.length_nil, Int.natCast_zero, h4, getTV_next]
  have hw : R ii_withoutHead [tPIPILA8 V1, tA8 (sA (1 : Pm 1))] = some [tPIPILA8 V1] := by
    apply vi_withoutHead
    simp only [bi_withoutHead, hpi, Option.bind_some, getTV_here, hpr]
  apply vi_conjugate
  simp only [bi_conjugate, hw, Option.bind_some, getTV_here, c_put1]
theorem c_superSummit1_7 (S : List (Pm 1)) (hS : S.length < 1000000) : ∀ (m k : Nat), k + m = S.length → R ii_superSummit_7 [tLPIPILA8 [V1], tLA8 (sL S), tI 0, tI (S.length : Int), tI (k : Int)] = some [tI 0, tLPIPILA8 [V1], tLA8 (sL S), tI 0] := by
  intro m
  induction m with
  | zero =>
    intro k hk
    apply vi_superSummit_7
    have : ¬ ((k : Int) < (S.length : Int)) := by omega
    simp only [bi_superSummit_7, decide_eq_false this, cond_false]
  | succ m ih =>
    intro k hk
    have hkS : k < S.length := by omega
    apply vi_superSummit_7
    have w : wi64 ((k : Int) + 1) = ((k + 1 : Nat) : Int) := by rw [wrap_i64] <;> omega
    have hlt : ((k : Int) < (S.length : Int)) := by omega
    have hc := c_ContainsFunc V1 [V1] (fun z hz => by simp at hz; subst hz; simp) (by simp)
    have hg : List.getD ([V1] : List VN) 0 (0, (0, [])) = V1 := rfl
    have h01 : ((0 : Int) < ((1 : Nat) : Int)) := by omega
    have ht : Int.toNat 0 = 0 := rfl
    simp (disch := omega) only [bi_superSummit_7, decide_eq_true hlt, decide_eq_true h01, decide_eq_true, sL_len, List.length_cons, List.length_nil, Nat.zero_add, cond_true, Bool.and_true, Int.toNat_natCast, ht, hg, sL_get hkS, c_conjugate1, Option.bind_some, getTV_here, w]
    have e1 : decide (V1 ∈ [V1]) = true := by simp
    simp only [hc, Option.bind_some, getTV_here, bne_self_eq_false, cond_false, e1, cond_true]
    exact ih (k + 1) (by omega)
/-- Both lists, without the mathematics. -/
structure Sets0 {n : Nat} (v : Nm n) (ys : List VN) : Prop where
  impl : R ii_superSummit [tPIPILA8 (enc v)] = some [tLPIPILA8 ys, tB true]
  spec : R is_l04Set [tPIPILA8 (enc v)] = some [tLPIPILA8 ys, tB true]
  all : ∀ z ∈ ys, ∃ y : Nm n, z = enc y ∧ SS (sumN v) y
  asc : Asc ys
  len : ys.length ≤ 120
  nod : ys.Nodup
  ne : ys ≠ []
theorem sets_one (v : Nm 1) (hv : OkN v 200) : Sets0 v [V1] := by
  have hs1 := c_summit 1 (by omega) (by omega) v (hv.mono (by omega))
  have hs2 := c_l04Summit 1 (by omega) (by omega) v (hv.mono (by omega))
  have hsu := (sumN_ok (by omega) hv).one rfl
  have hv0 := hv.one rfl
  subst hv0
  rw [hsu] at hs1 hs2
  obtain ⟨S1, a1, a2, a3⟩ := c_allSimple 1 (by omega) (by omega)
  obtain ⟨S2, b1, b2, b3, b4⟩ := c_l04Simples_all 1 (by omega) (by omega)
  have hS2 := b4 rfl
  subst hS2
  have eE : enc ((0, []) : Nm 1) = V1 := rfl
  have h7 := c_superSummit1_7 S1 (by omega) S1.length 0 (by omega)
  have hcl : Cls 1 0 0 V1 := ⟨rfl, rfl, rfl, fun x hx => by simp at hx⟩
  obtain ⟨ys, q1, q2, q3⟩ := c_sortNormals (n := 1) (p := 0) (k := 0) (by omega) [V1] (fun x hx => by simp at hx; subst hx; exact hcl) (by simp)
  have ey : ys = [V1] := List.perm_singleton.1 q2
  subst ey
  have n1 := c_l02Same 1 (by omega)
  simp only [Int.natCast_one, Int.natCast_zero, eE] at h7 hs1 hs2 a1 b1 n1
  have w : wi64 ((0 : Int) + 1) = 1 := by rw [wrap_i64] <;> omega
  have h4b : R ii_superSummit_4 [tLPIPILA8 [V1], tLA8 (sL S1), tI 1] = some [tI 0, tLPIPILA8 [V1]] := by
    apply vi_superSummit_4
    simp [bi_superSummit_4]
  have h4 : R ii_superSummit_4 [tLPIPILA8 [V1], tLA8 (sL S1), tI 0] = some [tI 0, tLPIPILA8 [V1]] := by
    apply vi_superSummit_4
    have h01 : ((0 : Int) < ((1 : Nat) : Int)) := by omega
    simp only [bi_superSummit_4, List.length_cons, List.length_nil, Nat.zero_add, decide_eq_true h01, cond_true, sL_len, h7, Option.bind_some, getTV_here, getTV_next, beq_self_eq_true, w, h4b]
  have s7 : R is_l04Set_7 [tI 1, tI 0, tLA8 [], tLPIPILA8 [V1], tLPIPILA8 [V1], tLA8 [], tI 0, tI 0] = some [tI 0, tI 1, tI 0, tLA8 [], tLPIPILA8 [V1], tLPIPILA8 [V1], tLA8 [], tI 0] := by
    apply vs_l04Set_7
    simp [bs_l04Set_7]
  have s4b : R is_l04Set_4 [tI 1, tI 0, tLA8 [], tLPIPILA8 [V1], tLPIPILA8 [V1], tLA8 [], tI 1] = some [tI 0, tLPIPILA8 [V1]] := by
    apply vs_l04Set_4
    simp [bs_l04Set_4]
  have s4 : R is_l04Set_4 [tI 1, tI 0, tLA8 [], tLPIPILA8 [V1], tLPIPILA8 [V1], tLA8 [], tI 0] = some [tI 0, tLPIPILA8 [V1]] := by
    apply vs_l04Set_4
    have h01 : ((0 : Int) < ((1 : Nat) : Int)) := by omega
    simp only [bs_l04Set_4, List.length_cons, List.length_nil, Nat.zero_add, decide_eq_true h01, cond_true, s7, Option.bind_some, getTV_here, getTV_next, beq_self_eq_true, w, s4b]
  refine ⟨?_, ?_, fun z hz => ?_, by simp, by simp, by simp, by simp⟩
  · rw [eE]
    apply vi_superSummit
    simp only [bi_superSummit, hs1, Option.bind_some, getTV_here, a1, h4, beq_self_eq_true, cond_true, getTV_next, q1]
  · rw [eE]
    apply vs_l04Set
    simp only [sL_nil] at b1
    simp only [bs_l04Set, hs2, Option.bind_some, getTV_here, n1, b1, s4, beq_self_eq_true, cond_true, getTV_next]
  · simp only [List.mem_singleton] at hz
    exact ⟨(0, []), hz, by rw [hsu]; exact ⟨Lat.Proper.nil, rfl, rfl⟩⟩
theorem sets_all (n : Nat) (h1 : 1 ≤ n) (h4 : n ≤ 4) (v : Nm n) (hv : OkN v 200) :
    (R ii_superSummit [tPIPILA8 (enc v)] = some [tLPIPILA8 [], tB false] ∧ R is_l04Set [tPIPILA8 (enc v)] = some [tLPIPILA8 [], tB false]) ∨ ∃ ys : List VN, Sets0 v ys := by
  by_cases h : n = 1
  · subst h
    exact .inr ⟨_, sets_one v hv⟩
  · rcases sets_two n (by omega) h4 v hv with h | ⟨ys, g⟩
    · exact .inl h
    · refine .inr ⟨ys, ⟨g.impl, g.spec, g.all, g.asc, g.len, g.nod, ?_⟩⟩
      intro e
      have := (g.mem (sumN v)).1 .base
      rw [e] at this
      simp at this
theorem Sets0.cls {n : Nat} {v : Nm n} {ys : List VN} (h : Sets0 v ys) : ∀ z ∈ ys, Cls (n : Int) (sumN v).1 (sumN v).2.length z := fun z hz => by
  obtain ⟨y, rfl, hy⟩ := h.all z hz
  exact hy.cls

end Go.Ev.YtolpnaiincngjaaGreat
