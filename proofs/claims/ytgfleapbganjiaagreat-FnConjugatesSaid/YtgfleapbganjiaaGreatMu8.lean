/- Super summit sets and products: the program's side alone. -/
import Derived.Test.YtgfleapbganjiaaGreatWe
import Derived.Test.YtgfleapbganjiaaGreatWf
set_option linter.unusedVariables false
set_option linter.unusedSimpArgs false
namespace Go.Ev.YtgfleapbganjiaaGreat
open Go.Ev Go.Gar
structure SetsI {n : Nat} (v : Nm n) (ys : List VN) : Prop where
 impl : R ii_superSummit [tPIPILA8 (enc v)] = some [tLPIPILA8 ys, tB true]
 mem : ∀ y : Nm n, Reach (sumN v) y ↔ enc y ∈ ys
 all : ∀ z ∈ ys, ∃ y : Nm n, z = enc y ∧ SS (sumN v) y
 len : ys.length ≤ 120
theorem setsI_two (n : Nat) (h2 : 2 ≤ n) (h4 : n ≤ 4) (v : Nm n) (hv : OkN v 200) :
  (R ii_superSummit [tPIPILA8 (enc v)] = some [tLPIPILA8 [], tB false]) ∨ ∃ ys : List VN, SetsI v ys := by
 have hn : n ≤ 8 := by omega
 have hs1 := c_summit n (by omega) hn v (hv.mono (by omega))
 have hf : OkN (sumN v) 1000 := (sumN_ok (by omega) hv).mono (by omega)
 generalize hfst : sumN v = first at *
 obtain ⟨S1, a1, a2, a3⟩ := c_allSimple n (by omega) h4
 have g4 := c_superSummit_4 n h2 hn first hf S1 (by omega) 121 0 [first] (good_first hf) (by omega) (by simp)
 have eV : ∀ x : VN, (x.1, x.2.1, x.2.2) = x := fun x => rfl
 have ee : ([first].map enc : List VN) = [enc first] := rfl
 have eI : (enc v).1 = (n : Int) := rfl
 simp only [Int.natCast_zero, ee] at g4
 cases hA : bfsG first S1 121 0 [first] with
 | none =>
  left
  apply vi_superSummit
  rw [hA] at g4
  simp only [bi_superSummit, eV, hs1, Option.bind_some, getTV_here]
  simp only [eI, a1, Option.bind_some, getTV_here, g4, getTV_next]
  rfl
 | some A =>
  right
  obtain ⟨gA, hR⟩ := bfsG_some h2 hf (fun s _ => a2 s) 121 0 _ A (good_first hf) (fun i x hi => by omega) (by omega) (by simp) hA
  rw [hA] at g4
  simp only at g4
  have hcA : ∀ z ∈ A.map enc, Cls (n : Int) first.1 first.2.length z := fun z hz => by
   obtain ⟨u, hu, rfl⟩ := List.mem_map.1 hz
   exact (gA.ss u hu).cls
  have hfl := hf.len
  have hAl := gA.len
  obtain ⟨ys, q1, q2, q3⟩ := c_sortNormals (by omega : first.2.length < 1000000000) (A.map enc) hcA (by rw [List.length_map]; omega)
  refine ⟨ys, ?_, fun y => ?_, fun z hz => ?_, ?_⟩
  · apply vi_superSummit
    simp only [bi_superSummit, eV, hs1, Option.bind_some, getTV_here]
    simp only [eI, a1, Option.bind_some, getTV_here, g4, beq_self_eq_true, cond_true, getTV_next, q1]
  · rw [hfst, q2.mem_iff]
    exact (⟨fun h => (enc_mem hn).2 (hR y h), fun h => gA.reach y ((enc_mem hn).1 h)⟩ : Reach first y ↔ enc y ∈ A.map enc)
  · obtain ⟨u, hu, rfl⟩ := List.mem_map.1 (q2.mem_iff.1 hz)
    exact ⟨u, rfl, by rw [hfst]; exact gA.ss u hu⟩
  · rw [q2.length_eq, List.length_map]; exact hAl
theorem setI_one (v : Nm 1) (hv : OkN v 200) : R ii_superSummit [tPIPILA8 (enc v)] = some [tLPIPILA8 [V1], tB true] := by
 have hs1 := c_summit 1 (by omega) (by omega) v (hv.mono (by omega))
 have hsu := (sumN_ok (by omega) hv).one rfl
 have hv0 := hv.one rfl
 subst hv0
 rw [hsu] at hs1
 obtain ⟨S1, a1, a2, a3⟩ := c_allSimple 1 (by omega) (by omega)
 have eE : enc ((0, []) : Nm 1) = V1 := rfl
 have h7 := c_superSummit1_7 S1 (by omega) S1.length 0 (by omega)
 have hcl : Cls 1 0 0 V1 := ⟨rfl, rfl, rfl, fun x hx => by simp at hx⟩
 obtain ⟨ys, q1, q2, q3⟩ := c_sortNormals (n := 1) (p := 0) (k := 0) (by omega) [V1] (fun x hx => by simp at hx; subst hx; exact hcl) (by simp)
 have ey : ys = [V1] := List.perm_singleton.1 q2
 subst ey
 simp only [Int.natCast_one, Int.natCast_zero, eE] at h7 hs1 a1
 have w : wi64 ((0 : Int) + 1) = 1 := by rw [wrap_i64] <;> omega
 have h4b : R ii_superSummit_4 [tLPIPILA8 [V1], tLA8 (sL S1), tI 1] = some [tI 0, tLPIPILA8 [V1]] := by
  apply vi_superSummit_4
  simp [bi_superSummit_4]
 have h4 : R ii_superSummit_4 [tLPIPILA8 [V1], tLA8 (sL S1), tI 0] = some [tI 0, tLPIPILA8 [V1]] := by
  apply vi_superSummit_4
  have h01 : ((0 : Int) < ((1 : Nat) : Int)) := by omega
  simp only [bi_superSummit_4, List.length_cons, List.length_nil, Nat.zero_add, decide_eq_true h01, cond_true, sL_len, h7, Option.bind_some, getTV_here, getTV_next, beq_self_eq_true, w, h4b]
 rw [eE]
 apply vi_superSummit
 simp only [bi_superSummit, hs1, Option.bind_some, getTV_here, a1, h4, beq_self_eq_true, cond_true, getTV_next, q1]
theorem mulI_n {n : Nat} (hn1 : 1 ≤ n) (hn : n ≤ 8) {v w : Nm n} (hv : OkN v 200) (hw : OkN w 200) :
  (OkN (prod v w) 200 ∧ R ii_MultiplyNormals [tPIPILA8 (enc v), tPIPILA8 (enc w)] = some [tPIPILA8 (enc (prod v w)), tI 0]) ∨ R ii_MultiplyNormals [tPIPILA8 (enc v), tPIPILA8 (enc w)] = some [tPIPILA8 NoV, tI 3] := by
 have hr : Rows8 (enc v).2.2 := sL_rows hn v.2
 have hr' : Rows8 (enc w).2.2 := sL_rows hn w.2
 have h := both_enc hn1 hn hv hw
 have e2 := c_product n hn1 hn v w (hv.mono (by omega)) (hw.mono (by omega))
 have e : R ii_MultiplyNormals [tPIPILA8 (enc v), tPIPILA8 (enc w)] = some [tPIPILA8 (limV (enc (prod v w))).1, tI (limV (enc (prod v w))).2] := by
  apply vi_MultiplyNormals
  simp [bi_MultiplyNormals, c_areSameCount _ _ hr hr', h, e2, c_limited]
 rcases prod_dich hn1 hv hw with h5 | h5
 · rw [lim_ok h5] at e
   exact .inl ⟨h5, e⟩
 · rw [h5] at e
   exact .inr e
end Go.Ev.YtgfleapbganjiaaGreat
