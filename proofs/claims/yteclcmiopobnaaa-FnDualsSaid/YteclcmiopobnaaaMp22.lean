/- Dual forms and EqualByBands: what they answer. -/
import Derived.Test.YteclcmiopobnaaaWe
set_option linter.unusedVariables false
set_option linter.unusedSimpArgs false
namespace Go.Ev.Yteclcmiopobnaaa.P
open Go.Ev.Yteclcmiopobnaaa
open Go.Ev Go.Gar
theorem dual_both3 (a b : Int × List Int) (hl : a.2.length < 1000000000) (hw : I64 a.2) (hl' : b.2.length < 1000000000) (hw' : I64 b.2) : ∃ (r : Bool) (c : Int), R is_EqualByBands [tPILI a, tPILI b] = some [tB r, tI c] ∧ R ii_EqualByBands [tPILI a, tPILI b] = some [tB r, tI c] ∧ (c ≠ 0 ∨ (c = 0 ∧ ∃ (n : Nat) (h1 : 1 ≤ n), n ≤ 8 ∧ a.1 = (n : Int) ∧ b.1 = (n : Int) ∧ isBr a = true ∧ isBr b = true ∧ r = decide (enc (dOf n h1 a.2) = enc (dOf n h1 b.2)))) := by
 cases h : isBr a with
 | false =>
  refine ⟨false, 1, ?_, ?_, .inl (by decide)⟩
  · apply vs_EqualByBands
    simp [bs_EqualByBands, c_l01Is a hl hw, h]
  · apply vi_EqualByBands
    simp [bi_EqualByBands, c_IsBraid a hl, h]
 | true =>
  cases h' : isBr b with
  | false =>
   refine ⟨false, 1, ?_, ?_, .inl (by decide)⟩
   · apply vs_EqualByBands
     simp [bs_EqualByBands, c_l01Is a hl hw, c_l01Is b hl' hw', h, h']
   · apply vi_EqualByBands
     simp [bi_EqualByBands, c_IsBraid a hl, c_IsBraid b hl', h, h']
  | true =>
   by_cases e : a.1 = b.1
   · obtain ⟨n, q1, q2, q3, q4, q5⟩ := isBr_Lw h
     obtain ⟨m, r1, r2, r3, r4, r5⟩ := isBr_Lw h'
     have hnm : n = m := by omega
     subst hnm
     have f1 := c_l07Form n q2 q3 a.2 q5 q4
     have f2 := c_dualOf n q2 q3 a.2 q5 q4
     have g1 := c_l07Form n q2 q3 b.2 r5 r4
     have g2 := c_dualOf n q2 q3 b.2 r5 r4
     have hn := dOf_len q2 a.2 q5 q4
     have hs := c_l07Same (enc (dOf n q2 a.2)) (enc (dOf n q2 b.2)) (by simp only [enc, sL_len]; omega)
     have hs' := c_Equal (enc (dOf n q2 a.2)).2.2 (enc (dOf n q2 b.2)).2.2 (by simp only [enc, sL_len]; omega)
     obtain ⟨a1, a2⟩ := a
     obtain ⟨b1, b2⟩ := b
     simp only at q1 r1
     subst q1
     subst r1
     refine ⟨decide (enc (dOf n q2 a2) = enc (dOf n q2 b2)), 0, ?_, ?_, .inr ⟨rfl, n, q2, q3, rfl, rfl, rfl, rfl, rfl⟩⟩
     · apply vs_EqualByBands
       simp [bs_EqualByBands, c_l01Is ((n : Int), a2) hl hw, c_l01Is ((n : Int), b2) hl' hw', h, h', f1, g1, hs]
     · apply vi_EqualByBands
       by_cases k : (enc (dOf n q2 a2)).2.1 = (enc (dOf n q2 b2)).2.1
       · have e2 : (enc (dOf n q2 a2) = enc (dOf n q2 b2)) ↔ (enc (dOf n q2 a2)).2.2 = (enc (dOf n q2 b2)).2.2 := by
          constructor
          · intro h; rw [h]
          · intro h
            show ((n : Int), (enc (dOf n q2 a2)).2.1, (enc (dOf n q2 a2)).2.2) = ((n : Int), (enc (dOf n q2 b2)).2.1, (enc (dOf n q2 b2)).2.2)
            rw [k, h]
         have e3 : decide (enc (dOf n q2 a2) = enc (dOf n q2 b2)) = decide ((enc (dOf n q2 a2)).2.2 = (enc (dOf n q2 b2)).2.2) := by rw [decide_eq_decide]; exact e2
         rw [e3]
         simp [bi_EqualByBands, c_IsBraid ((n : Int), a2) hl, c_IsBraid ((n : Int), b2) hl', h, h', f2, g2, k, hs']
       · have e2 : ¬ (enc (dOf n q2 a2) = enc (dOf n q2 b2)) := fun h => k (by rw [h])
         simp [bi_EqualByBands, c_IsBraid ((n : Int), a2) hl, c_IsBraid ((n : Int), b2) hl', h, h', f2, g2, k, e2, beq_dec]
   · refine ⟨false, 2, ?_, ?_, .inl (by decide)⟩
     · apply vs_EqualByBands
       simp [bs_EqualByBands, c_l01Is a hl hw, c_l01Is b hl' hw', h, h', e, bne_dec]
     · apply vi_EqualByBands
       simp [bi_EqualByBands, c_IsBraid a hl, c_IsBraid b hl', h, h', e, bne_dec]
theorem sLp_inj {n : Nat} (hn : n ≤ 8) : ∀ {l m : List (Pm n)}, sL l = sL m → l = m
 | [], [], _ => rfl
 | [], _ :: _, h => by simp [sL] at h
 | _ :: _, [], h => by simp [sL] at h
 | a :: l, b :: m, h => by
  simp only [sL, List.map_cons, List.cons.injEq] at h
  rw [sA_inj hn h.1, sLp_inj hn (l := l) (m := m) h.2]
theorem encp_iff {n : Nat} (hn : n ≤ 8) {v w : Nm n} : enc v = enc w ↔ v = w := by
 constructor
 · intro h
   simp only [enc, Prod.mk.injEq] at h
   exact Prod.ext h.2.1 (sLp_inj hn h.2.2)
 · intro h
   rw [h]
theorem df_all (a : Int × List Int) (hl : a.2.length < 1000000000) (hw : I64 a.2) : ∃ (d : Int × Int × List (List Int)) (e : Int), R is_DualForm [tPILI a] = some [tPIPILA8 d, tI e] ∧ R ii_DualForm [tPILI a] = some [tPIPILA8 d, tI e] ∧ d.2.2.length ≤ 200 ∧
  (e ≠ 0 ∨ (e = 0 ∧ ∃ (n : Nat) (h1 : 1 ≤ n), n ≤ 8 ∧ a.1 = (n : Int) ∧ isBr a = true ∧ Lw n a.2 ∧ a.2.length ≤ 200 ∧ d = enc (dOf n h1 a.2))) := by
 cases h : isBr a with
 | false =>
  refine ⟨(0, 0, []), 1, ?_, ?_, by simp, .inl (by decide)⟩
  · apply vs_DualForm
    simp [bs_DualForm, c_l01Is a hl hw, h]
  · apply vi_DualForm
    simp [bi_DualForm, c_IsBraid a hl, h]
 | true =>
  obtain ⟨n, q1, q2, q3, q4, q5⟩ := isBr_Lw h
  have f1 := c_l07Form n q2 q3 a.2 q5 q4
  have f2 := c_dualOf n q2 q3 a.2 q5 q4
  have hn := dOf_len q2 a.2 q5 q4
  obtain ⟨a1, a2⟩ := a
  simp only at q1
  subst q1
  refine ⟨enc (dOf n q2 a2), 0, ?_, ?_, by simp only [enc, sL_len]; exact hn, .inr ⟨rfl, n, q2, q3, rfl, rfl, q5, q4, rfl⟩⟩
  · apply vs_DualForm
    simp [bs_DualForm, c_l01Is ((n : Int), a2) hl hw, h, f1]
  · apply vi_DualForm
    simp [bi_DualForm, c_IsBraid ((n : Int), a2) hl, h, f2]
theorem dOf_bd {n : Nat} (h1 : 1 ≤ n) {w : List Int} (hw : Lw n w) (hl : w.length ≤ 200) : (latP n h1).Proper (dOf n h1 w).2 ∧ -200 ≤ (dOf n h1 w).1 ∧ (dOf n h1 w).1 ≤ 200 ∧ (dOf n h1 w).2.length ≤ 200 ∧ (n = 1 → (dOf n h1 w).1 = 0) := by
 by_cases h2 : 2 ≤ n
 · have := fold_ok h2 w hw (OkD.zero h1)
   have a := this.lo
   have b := this.hi
   have c := this.len
   exact ⟨this.P, by show -200 ≤ (w.foldl (stepD h1) (0, [])).1; omega, by show (w.foldl (stepD h1) (0, [])).1 ≤ 200; omega, by show (w.foldl (stepD h1) (0, [])).2.length ≤ 200; omega, fun h => by omega⟩
 · obtain rfl : n = 1 := by omega
   rw [Lw_one hw]
   exact ⟨Lat.Proper.nil, by simp [dOf], by simp [dOf], by simp [dOf], fun _ => rfl⟩
end Go.Ev.Yteclcmiopobnaaa.P
