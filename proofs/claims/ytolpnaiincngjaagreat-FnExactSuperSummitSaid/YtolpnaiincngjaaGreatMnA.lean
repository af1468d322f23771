/- Cycling, decycling, sliding: what both packages make. -/
import Derived.Test.YtolpnaiincngjaaGreatMn9
set_option linter.unusedVariables false
set_option linter.unusedSimpArgs false
namespace Go.Ev.YtolpnaiincngjaaGreat
open Go.Ev Go.Gar
def t1 {n : Nat} (p : Int) (s : Pm n) : Pm n := if p.tmod 2 = 0 then s else trn s
theorem tk_cons {n : Nat} (k : Int) (s : Pm n) (l : List (Pm n)) : tk k (s :: l) = t1 k s :: tk k l := by
  unfold tk t1
  split <;> rfl
noncomputable def cyc {n : Nat} (v : Nm n) : Nm n := if v.2.length = 0 then v else mk v.1 (v.2.drop 1 ++ [t1 v.1 (v.2.getD 0 1)])
noncomputable def decyc {n : Nat} (v : Nm n) : Nm n := if v.2.length = 0 then v else mk v.1 (t1 v.1 (v.2.getD (v.2.length - 1) 1) :: v.2.take (v.2.length - 1))
noncomputable def less1 {n : Nat} (v : Nm n) (s : Pm n) : Nm n := mk (v.1 - 1) (t1 v.1 (Pm.half n * s⁻¹) :: v.2)
noncomputable def conj1 {n : Nat} (v : Nm n) (s : Pm n) : Nm n := mk (less1 v s).1 ((less1 v s).2 ++ [s])
/-- w is within v. -/
structure Rel {n : Nat} (w v : Nm n) : Prop where
  P : (Pm.lat n).Proper w.2
  lo : v.1 ≤ w.1
  hi : w.1 + w.2.length ≤ v.1 + v.2.length
  one : n = 1 → w = (0, [])
theorem Rel.refl {n : Nat} {v : Nm n} {b : Nat} (h : OkN v b) : Rel v v := ⟨h.P, Int.le_refl _, Int.le_refl _, h.one⟩
theorem Rel.ok {n : Nat} {w v : Nm n} {b : Nat} (h : Rel w v) (hv : OkN v b) : OkN w (2 * b) := by
  have a1 := hv.len
  have a2 := hv.lo
  have a3 := hv.hi
  have b1 := h.lo
  have b2 := h.hi
  exact ⟨h.P, by omega, by omega, by omega, h.one⟩
theorem Rel.trans {n : Nat} {u w v : Nm n} (h : Rel u w) (h' : Rel w v) : Rel u v :=
  ⟨h.P, Int.le_trans h'.lo h.lo, Int.le_trans h.hi h'.hi, h.one⟩
theorem two_of {n : Nat} (hn1 : 1 ≤ n) {v : Nm n} (h1 : n = 1 → v = (0, [])) (h : v.2.length ≠ 0) : 2 ≤ n := by
  by_cases h2 : n = 1
  · rw [h1 h2] at h; simp at h
  · omega
theorem cyc_rel {n : Nat} (hn1 : 1 ≤ n) {w v : Nm n} (h : Rel w v) : Rel (cyc w) v := by
  unfold cyc
  split
  · exact h
  · rename_i h0
    have h2 := two_of hn1 h.one h0
    have hm := mk_spec h2 w.1 (w.2.drop 1 ++ [t1 w.1 (w.2.getD 0 1)])
    simp only [List.length_append, List.length_drop, List.length_cons, List.length_nil] at hm
    have b1 := h.lo
    have b2 := h.hi
    exact ⟨hm.1, by omega, by omega, fun h' => by omega⟩
theorem decyc_rel {n : Nat} (hn1 : 1 ≤ n) {w v : Nm n} (h : Rel w v) : Rel (decyc w) v := by
  unfold decyc
  split
  · exact h
  · rename_i h0
    have h2 := two_of hn1 h.one h0
    have hm := mk_spec h2 w.1 (t1 w.1 (w.2.getD (w.2.length - 1) 1) :: w.2.take (w.2.length - 1))
    simp only [List.length_cons, List.length_take] at hm
    have b1 := h.lo
    have b2 := h.hi
    exact ⟨hm.1, by omega, by omega, fun h' => by omega⟩
theorem getD_pm {n : Nat} {l : List (Pm n)} {i : Nat} (h : i < l.length) : l.getD i 1 = l[i] := by
  simp [List.getD_eq_getElem?_getD, List.getElem?_eq_getElem h]
theorem sL_getD {n : Nat} {l : List (Pm n)} {i : Nat} (h : i < l.length) : List.getD (sL l) i (List.replicate 8 0) = sA (l.getD i 1) := by
  rw [sL_get h, getD_pm h]
theorem c_l04First (n : Nat) (hn : n ≤ 8) (v : Nm n) (h0 : 0 < v.2.length) : R is_l04First [tPIPILA8 (enc v)] = some [tA8 (sA (t1 v.1 (v.2.getD 0 1)))] := by
  apply vs_l04First
  have h1 : ((0 : Int) < ((sL v.2).length : Nat)) := by rw [sL_len]; omega
  simp only [bs_l04First, enc, decide_eq_true h1, cond_true, sL_getD h0, c_l02Turn n hn, Option.bind_some, getTV_here, bne_dec, t1]
  rw [sL_len] at h1
  by_cases h : v.1.tmod 2 = 0 <;> simp [h, h0, sL_len]
theorem c_turned (n : Nat) (hn : n ≤ 8) (s : Pm n) (v : Nm n) : R ii_turned [tA8 (sA s), tPIPILA8 (enc v)] = some [tA8 (sA (t1 v.1 s))] := by
  apply vi_turned
  simp only [bi_turned, enc, c_turn n hn, Option.bind_some, getTV_here, bne_dec, t1]
  by_cases h : v.1.tmod 2 = 0 <;> simp [h]
theorem beq0 {n : Nat} (l : List (Pm n)) : ((((sL l).length : Nat) : Int) == 0) = decide (l.length = 0) := by
  rw [sL_len, beq_dec]
  by_cases h : l.length = 0 <;> simp [h]
theorem beq0n {n : Nat} (l : List (Pm n)) : (((l.length : Nat) : Int) == 0) = decide (l.length = 0) := by
  rw [beq_dec]
  by_cases h : l.length = 0 <;> simp [h]
theorem c_l04Cycle (n : Nat) (hn1 : 1 ≤ n) (hn : n ≤ 8) (v : Nm n) (hv : OkN v 100000) : R is_l04Cycle [tPIPILA8 (enc v)] = some [tPIPILA8 (enc (cyc v))] := by
  have a1 := hv.len
  have a2 := hv.lo
  have a3 := hv.hi
  apply vs_l04Cycle
  unfold cyc
  by_cases h : v.2.length = 0
  · simp only [bs_l04Cycle, enc, beq0, decide_eq_true h, cond_true, if_pos h]
  · have h2 := two_of hn1 hv.one h
    have h1 : ((1 : Int) ≤ ((sL v.2).length : Nat)) := by rw [sL_len]; omega
    have hf := c_l04First n hn v (by omega)
    have hm := c_l03Make n hn1 hn (v.2.drop 1 ++ [t1 v.1 (v.2.getD 0 1)]) (by simp; omega) (fun h' => by omega) v.1 (by omega) (by omega)
    simp only [enc] at hf hm ⊢
    simp only [bs_l04Cycle, beq0, decide_eq_false h, cond_false, decide_eq_true h1, cond_true, sL_drop, apOk0 (ys := sL (v.2.drop 1)) (by rw [sL_len]; simp; omega), hf, Option.bind_some, getTV_here,
      apOk1 (xs := sL (v.2.drop 1)) (x := sA (t1 v.1 (v.2.getD 0 1))) (by rw [sL_len]; simp; omega), sL_snoc, hm, if_neg h]
theorem proper_drop {n : Nat} {A : List (Pm n)} (h : (Pm.lat n).Proper A) : (Pm.lat n).Proper (A.drop 1) := by
  cases A with
  | nil => exact h
  | cons a A => exact ⟨allS _, h.W.2, fun x hx => h.no x (List.mem_cons_of_mem _ hx)⟩
theorem c_cycled (n : Nat) (hn1 : 1 ≤ n) (hn : n ≤ 8) (v : Nm n) (hv : OkN v 100000) : R ii_cycled [tPIPILA8 (enc v)] = some [tPIPILA8 (enc (cyc v))] := by
  have a1 := hv.len
  have a2 := hv.lo
  have a3 := hv.hi
  apply vi_cycled
  unfold cyc
  by_cases h : v.2.length = 0
  · have hc := c_copyNormal v (by omega)
    simp only [enc] at hc
    simp only [bi_cycled, enc, beq0, decide_eq_true h, cond_true, hc, Option.bind_some, getTV_here, if_pos h]
  · have h2 := two_of hn1 hv.one h
    have h1 : ((1 : Int) ≤ ((sL v.2).length : Nat)) := by rw [sL_len]; omega
    have h3 : ((0 : Int) < ((sL v.2).length : Nat)) := by rw [sL_len]; omega
    have hc := c_copyNormal (n := n) (v.1, v.2.drop 1) (by simp; omega)
    have ht := c_turned n hn (v.2.getD 0 1) v
    have hp := c_put n h2 hn (v.1, v.2.drop 1) (t1 v.1 (v.2.getD 0 1)) (proper_drop hv.P) (by simp; omega) (by simp only; omega) (by simp only; omega)
    simp only [enc] at hc ht hp ⊢
    simp only [bi_cycled, beq0, decide_eq_false h, cond_false, decide_eq_true h1, decide_eq_true h3, cond_true, sL_drop, hc, sL_getD (show 0 < v.2.length by omega), ht, Option.bind_some, getTV_here, hp, if_neg h]
theorem c_l04Decycle (n : Nat) (hn1 : 1 ≤ n) (hn : n ≤ 8) (v : Nm n) (hv : OkN v 100000) : R is_l04Decycle [tPIPILA8 (enc v)] = some [tPIPILA8 (enc (decyc v))] := by
  have a1 := hv.len
  have a2 := hv.lo
  have a3 := hv.hi
  apply vs_l04Decycle
  unfold decyc
  by_cases h : v.2.length = 0
  · simp only [bs_l04Decycle, enc, beq0, decide_eq_true h, cond_true, if_pos h]
  · have h2 := two_of hn1 hv.one h
    have e1 : wi64 ((v.2.length : Int) - 1) = ((v.2.length - 1 : Nat) : Int) := by rw [wrap_i64] <;> omega
    have hm := c_l03Make n hn1 hn (t1 v.1 (v.2.getD (v.2.length - 1) 1) :: v.2.take (v.2.length - 1)) (by simp; omega) (fun h' => by omega) v.1 (by omega) (by omega)
    have e2 : ∀ s : Pm n, [sA s] ++ sL (v.2.take (v.2.length - 1)) = sL (s :: v.2.take (v.2.length - 1)) := fun s => rfl
    have e3 : ∀ s : Pm n, apOk [sA s] (sL (v.2.take (v.2.length - 1))) = true := fun s => apOk2 (by rw [sL_len]; simp; omega)
    simp only [enc] at hm ⊢
    simp (disch := omega) only [bs_l04Decycle, beq0n, decide_eq_false h, cond_false, e1, sL_len, decide_eq_true, Bool.and_true, cond_true, Int.toNat_natCast, sL_getD, c_l02Turn n hn, Option.bind_some, getTV_here, sL_take, e2, e3, bne_dec, if_neg h]
    by_cases h5 : v.1.tmod 2 = 0
    · have e4 : t1 v.1 (v.2.getD (v.2.length - 1) 1) = v.2.getD (v.2.length - 1) 1 := by rw [t1, if_pos h5]
      rw [e4] at hm ⊢
      simp only [h5, decide_true, Bool.not_true, cond_false, hm, Option.bind_some, getTV_here]
    · have e4 : t1 v.1 (v.2.getD (v.2.length - 1) 1) = trn (v.2.getD (v.2.length - 1) 1) := by rw [t1, if_neg h5]
      rw [e4] at hm ⊢
      simp only [h5, decide_false, Bool.not_false, cond_true, hm, Option.bind_some, getTV_here]
theorem c_decycled_7 (n : Nat) (h2 : 2 ≤ n) (hn : n ≤ 8) (B : List (Pm n)) (hB : B.length < 400000) (x0 x1 : Int) (x2 : List (List Int)) : ∀ (d i : Nat) (v : Nm n), i + d = B.length → (Pm.lat n).Proper v.2 → v.2.length + d < 900000 → -1000000000 ≤ v.1 → v.1 + v.2.length + d ≤ 1000000000 →
    R ii_decycled_7 [tI x0, tI x1, tLA8 x2, tI (n : Int), tI v.1, tLA8 (sL v.2), tLA8 (sL B), tI (B.length : Int), tI (i : Int)] = some [tI 0, tI x0, tI x1, tLA8 x2, tI (n : Int), tI (mk v.1 (v.2 ++ B.drop i)).1, tLA8 (sL (mk v.1 (v.2 ++ B.drop i)).2)] := by
  intro d
  induction d with
  | zero =>
    intro i v hi hP _ _ _
    apply vi_decycled_7
    have h1 : ¬ ((i : Int) < (B.length : Int)) := by omega
    rw [List.drop_of_length_le (by omega), List.append_nil, mk_proper h2 v.1 hP]
    simp only [bi_decycled_7, decide_eq_false h1, cond_false]
  | succ d ih =>
    intro i v hi hP hl hp hp'
    have h0 : i < B.length := by omega
    have hm := mk_spec h2 v.1 (v.2 ++ [B[i]])
    have hle : (v.2 ++ [B[i]]).length = v.2.length + 1 := by simp
    have hput := c_put n h2 hn v B[i] hP (by omega) (by omega) (by omega)
    have ih' := ih (i + 1) (mk v.1 (v.2 ++ [B[i]])) (by omega) hm.1 (by omega) (by omega) (by omega)
    rw [← mk_app h2, List.append_assoc, List.singleton_append, ← List.drop_eq_getElem_cons h0] at ih'
    apply vi_decycled_7
    simp only [enc] at hput
    simp (disch := omega) only [bi_decycled_7, decide_eq_true, cond_true, Bool.and_true, Int.toNat_natCast, sL_len, sL_get h0, hput, Option.bind_some, getTV_here, wrap_i64]
    rw [show (i : Int) + 1 = ((i + 1 : Nat) : Int) by omega]
    exact ih'
theorem c_decycled (n : Nat) (hn1 : 1 ≤ n) (hn : n ≤ 8) (v : Nm n) (hv : OkN v 100000) : R ii_decycled [tPIPILA8 (enc v)] = some [tPIPILA8 (enc (decyc v))] := by
  have a1 := hv.len
  have a2 := hv.lo
  have a3 := hv.hi
  apply vi_decycled
  unfold decyc
  by_cases h : v.2.length = 0
  · have hc := c_copyNormal v (by omega)
    have e1 : wi64 (((sL v.2).length : Nat) - 1) = -1 := by rw [sL_len, wrap_i64] <;> omega
    have e0 : ((-1 : Int) < 0) := by omega
    simp only [enc] at hc
    simp only [bi_decycled, enc, e1, decide_eq_true e0, cond_true, hc, Option.bind_some, getTV_here, if_pos h]
  · have h2 := two_of hn1 hv.one h
    have e1 : wi64 ((v.2.length : Int) - 1) = ((v.2.length - 1 : Nat) : Int) := by rw [wrap_i64] <;> omega
    have e0 : ¬ (((v.2.length - 1 : Nat) : Int) < 0) := by omega
    have ht := c_turned n hn (v.2.getD (v.2.length - 1) 1) v
    have hp := c_put n h2 hn (v.1, []) (t1 v.1 (v.2.getD (v.2.length - 1) 1)) Lat.Proper.nil (by simp) (by simp only; omega) (by simp only; omega)
    have hms := mk_spec h2 v.1 ([] ++ [t1 v.1 (v.2.getD (v.2.length - 1) 1)])
    have hml := mk_len h2 v.1 ([] ++ [t1 v.1 (v.2.getD (v.2.length - 1) 1)])
    simp only [List.nil_append, List.length_cons, List.length_nil] at hms hml hp
    have tl : (v.2.take (v.2.length - 1)).length = v.2.length - 1 := by simp
    have h7 := c_decycled_7 n h2 hn (v.2.take (v.2.length - 1)) (by omega) 0 0 [] (v.2.take (v.2.length - 1)).length 0 (mk v.1 [t1 v.1 (v.2.getD (v.2.length - 1) 1)]) (by omega) hms.1 (by omega) (by omega) (by omega)
    rw [List.drop_zero, ← mk_app h2] at h7
    simp only [enc, sL_nil, Int.natCast_zero] at ht hp h7 ⊢
    simp (disch := omega) only [bi_decycled, e1, decide_eq_false e0, cond_false, sL_len, decide_eq_true, Bool.and_true, cond_true, Int.toNat_natCast, sL_getD, ht, hp, Option.bind_some, getTV_here, getTV_next, sL_take, h7, if_neg h]
    rfl
theorem mk_tk {n : Nat} (h2 : 2 ≤ n) (q k : Int) (l B : List (Pm n)) : mk (q + (((Pm.lat n).norm l).1 : Nat)) (tk k ((Pm.lat n).norm l).2 ++ B) = mk q (tk k l ++ B) := by
  have e : (Pm.lat n).norm (tk k l) = (((Pm.lat n).norm l).1, tk k ((Pm.lat n).norm l).2) := by
    unfold tk
    split
    · rfl
    · exact (trn_auto n).norm (half_ne h2) (allS l)
  rw [mk_app h2 q (tk k l) B]
  simp only [mk, e]
theorem less1_eq {n : Nat} (h2 : 2 ≤ n) (v : Nm n) (s : Pm n) : prod (mk (0 - 1) ([] ++ [Pm.half n * s⁻¹])) v = less1 v s := by
  unfold prod less1
  have h := mk_tk h2 (v.1 - 1) v.1 [Pm.half n * s⁻¹] v.2
  rw [tk_cons] at h
  have e : tk v.1 ([] : List (Pm n)) = [] := by unfold tk; split <;> rfl
  rw [e] at h
  have e3 : t1 v.1 (Pm.half n * s⁻¹) :: v.2 = [t1 v.1 (Pm.half n * s⁻¹)] ++ v.2 := rfl
  rw [e3, ← h]
  simp only [mk, List.nil_append]
  rw [show (0 : Int) - 1 + (((Pm.lat n).norm [Pm.half n * s⁻¹]).1 : Int) + v.1 = v.1 - 1 + (((Pm.lat n).norm [Pm.half n * s⁻¹]).1 : Int) by omega]
theorem c_withoutHead (n : Nat) (h2 : 2 ≤ n) (hn : n ≤ 8) (v : Nm n) (hv : OkN v 100000) (s : Pm n) : R ii_withoutHead [tPIPILA8 (enc v), tA8 (sA s)] = some [tPIPILA8 (enc (less1 v s))] := by
  apply vi_withoutHead
  have hp := c_putInverse n h2 hn (0, []) s Lat.Proper.nil (by simp) (by simp) (by simp)
  have hms := mk_spec h2 (0 - 1) ([] ++ [Pm.half n * s⁻¹])
  have hml := mk_len h2 (0 - 1) ([] ++ [Pm.half n * s⁻¹])
  simp only [List.nil_append, List.length_cons, List.length_nil] at hms hml
  have hpr := c_product n (by omega) hn (mk (0 - 1) ([] ++ [Pm.half n * s⁻¹])) v ⟨hms.1, by simp only [List.nil_append]; omega, by simp only [List.nil_append]; omega, by simp only [List.nil_append]; omega, fun h => by omega⟩ hv
  rw [less1_eq h2] at hpr
  simp only [enc, sL_nil, List.map_nil] at hp hpr ⊢
  simp only [bi_withoutHead, hp, Option.bind_some, getTV_here, hpr]
theorem c_l03Less (n : Nat) (h2 : 2 ≤ n) (hn : n ≤ 8) (v : Nm n) (hv : OkN v 100000) (s : Pm n) : R is_l03Less [tPIPILA8 (enc v), tA8 (sA s)] = some [tPIPILA8 (enc (less1 v s))] := by
  have a1 := hv.len
  have a2 := hv.lo
  have a3 := hv.hi
  apply vs_l03Less
  have hm := c_l03Make n (by omega) hn (t1 v.1 (Pm.half n * s⁻¹) :: v.2) (by simp; omega) (fun h => by omega) (v.1 - 1) (by omega) (by omega)
  have e2 : ∀ s : Pm n, [sA s] ++ sL v.2 = sL (s :: v.2) := fun s => rfl
  have e3 : ∀ s : Pm n, apOk [sA s] (sL v.2) = true := fun s => apOk2 (by rw [sL_len]; simp; omega)
  have e4 : ∀ s : Pm n, ((0 : Int) < ((sL (s :: v.2)).length : Nat)) := fun s => by rw [sL_len]; simp only [List.length_cons]; omega
  have e5 : ∀ s t : Pm n, List.set (sL (s :: v.2)) 0 (sA t) = sL (t :: v.2) := fun s t => rfl
  have e6 : ∀ s : Pm n, List.getD (sL (s :: v.2)) 0 (List.replicate 8 0) = sA s := fun s => rfl
  simp only [enc] at hm ⊢
  simp (disch := omega) only [bs_l03Less, c_l02Left n hn, Option.bind_some, getTV_here, e2, e3, cond_true, decide_eq_true (e4 _), e5, e6, c_l02Turn n hn, wrap_i64, bne_dec]
  unfold less1 t1 at *
  by_cases h : v.1.tmod 2 = 0
  · simp only [h, if_true, decide_true, Bool.not_true, cond_false] at hm ⊢
    simp only [hm, Option.bind_some, getTV_here]
  · simp only [h, if_false, decide_false, Bool.not_false, cond_true] at hm ⊢
    simp only [hm, Option.bind_some, getTV_here]
theorem less1_ok {n : Nat} (h2 : 2 ≤ n) {v : Nm n} {b : Nat} (hv : OkN v b) (s : Pm n) : OkN (less1 v s) (2 * b + 1) := by
  have a1 := hv.len
  have a2 := hv.lo
  have a3 := hv.hi
  have hms := mk_spec h2 (v.1 - 1) (t1 v.1 (Pm.half n * s⁻¹) :: v.2)
  have hml := mk_len h2 (v.1 - 1) (t1 v.1 (Pm.half n * s⁻¹) :: v.2)
  simp only [List.length_cons] at hms hml
  exact ⟨hms.1, by unfold less1; omega, by unfold less1; omega, by unfold less1; omega, fun h => by omega⟩
theorem conj1_ok {n : Nat} (h2 : 2 ≤ n) {v : Nm n} {b : Nat} (hv : OkN v b) (s : Pm n) : OkN (conj1 v s) (4 * b + 4) := by
  have hl := less1_ok h2 hv s
  have a1 := hl.len
  have a2 := hl.lo
  have a3 := hl.hi
  have hms := mk_spec h2 (less1 v s).1 ((less1 v s).2 ++ [s])
  have hml := mk_len h2 (less1 v s).1 ((less1 v s).2 ++ [s])
  simp only [List.length_append, List.length_cons, List.length_nil] at hms hml
  exact ⟨hms.1, by unfold conj1; omega, by unfold conj1; omega, by unfold conj1; omega, fun h => by omega⟩
theorem c_conjugate (n : Nat) (h2 : 2 ≤ n) (hn : n ≤ 8) (v : Nm n) (hv : OkN v 100000) (s : Pm n) : R ii_conjugate [tPIPILA8 (enc v), tA8 (sA s)] = some [tPIPILA8 (enc (conj1 v s))] := by
  apply vi_conjugate
  have hl := less1_ok h2 hv s
  have a1 := hl.len
  have a2 := hl.lo
  have a3 := hl.hi
  have hw := c_withoutHead n h2 hn v hv s
  have hp := c_put n h2 hn (less1 v s) s hl.P (by omega) (by omega) (by omega)
  simp only [enc] at hw hp ⊢
  simp only [bi_conjugate, hw, Option.bind_some, getTV_here, hp]
  rfl
theorem c_l04Conjugate (n : Nat) (h2 : 2 ≤ n) (hn : n ≤ 8) (v : Nm n) (hv : OkN v 100000) (s : Pm n) : R is_l04Conjugate [tPIPILA8 (enc v), tA8 (sA s)] = some [tPIPILA8 (enc (conj1 v s))] := by
  apply vs_l04Conjugate
  have hl := less1_ok h2 hv s
  have a1 := hl.len
  have a2 := hl.lo
  have a3 := hl.hi
  have hw := c_l03Less n h2 hn v hv s
  have hp := c_l03Times_f n h2 hn (less1 v s) s (by omega) (by omega) (by omega)
  simp only [enc] at hw hp ⊢
  simp only [bs_l04Conjugate, hw, Option.bind_some, getTV_here, hp]
  rfl
end Go.Ev.YtolpnaiincngjaaGreat
