/- Texts merged: MnA MnC MnD MnE MnF MnG MnK. -/
import Derived.Test.YtfkpbhbghbhmgaaGreatWc
set_option linter.unusedVariables false
set_option linter.unusedSimpArgs false
namespace Go.Ev.YtfkpbhbghbhmgaaGreat
open Go.Ev Go.Gar
def t1 {n : Nat} (p : Int) (s : Pm n) : Pm n := if p.tmod 2 = 0 then s else trn s
theorem tk_cons {n : Nat} (k : Int) (s : Pm n) (l : List (Pm n)) : tk k (s :: l) = t1 k s :: tk k l := by
 unfold tk t1; split <;> rfl
noncomputable def cyc {n : Nat} (v : Nm n) : Nm n := if v.2.length = 0 then v else mk v.1 (v.2.drop 1 ++ [t1 v.1 (v.2.getD 0 1)])
noncomputable def decyc {n : Nat} (v : Nm n) : Nm n := if v.2.length = 0 then v else mk v.1 (t1 v.1 (v.2.getD (v.2.length - 1) 1) :: v.2.take (v.2.length - 1))
noncomputable def less1 {n : Nat} (v : Nm n) (s : Pm n) : Nm n := mk (v.1 - 1) (t1 v.1 (Pm.half n * s⁻¹) :: v.2)
noncomputable def conj1 {n : Nat} (v : Nm n) (s : Pm n) : Nm n := mk (less1 v s).1 ((less1 v s).2 ++ [s])
structure Rel {n : Nat} (w v : Nm n) : Prop where
 P : (Pm.lat n).Proper w.2
 lo : v.1 ≤ w.1
 hi : w.1 + w.2.length ≤ v.1 + v.2.length
 one : n = 1 → w = (0, [])
theorem Rel.refl {n : Nat} {v : Nm n} {b : Nat} (h : OkN v b) : Rel v v := ⟨h.P, Int.le_refl _, Int.le_refl _, h.one⟩
theorem Rel.ok {n : Nat} {w v : Nm n} {b : Nat} (h : Rel w v) (hv : OkN v b) : OkN w (2 * b) := by
 have a1 := hv.len; have a2 := hv.lo; have a3 := hv.hi; have b1 := h.lo; have b2 := h.hi; exact ⟨h.P, by omega, by omega, by omega, h.one⟩
theorem Rel.trans {n : Nat} {u w v : Nm n} (h : Rel u w) (h' : Rel w v) : Rel u v :=
 ⟨h.P, Int.le_trans h'.lo h.lo, Int.le_trans h.hi h'.hi, h.one⟩
theorem two_of {n : Nat} (hn1 : 1 ≤ n) {v : Nm n} (h1 : n = 1 → v = (0, [])) (h : v.2.length ≠ 0) : 2 ≤ n := by
 by_cases h2 : n = 1
 · rw [h1 h2] at h; simp at h
 · omega
theorem cyc_rel {n : Nat} (hn1 : 1 ≤ n) {w v : Nm n} (h : Rel w v) : Rel (cyc w) v := by
 unfold cyc
 split
 · exact h
 · rename_i h0; have h2 := two_of hn1 h.one h0; have hm := mk_spec h2 w.1 (w.2.drop 1 ++ [t1 w.1 (w.2.getD 0 1)]); simp only [List.length_append, List.length_drop, List.length_cons, List.length_nil] at hm; have b1 := h.lo; have b2 := h.hi; exact ⟨hm.1, by omega, by omega, fun h' => by omega⟩
theorem decyc_rel {n : Nat} (hn1 : 1 ≤ n) {w v : Nm n} (h : Rel w v) : Rel (decyc w) v := by
 unfold decyc
 split
 · exact h
 · rename_i h0; have h2 := two_of hn1 h.one h0; have hm := mk_spec h2 w.1 (t1 w.1 (w.2.getD (w.2.length - 1) 1) :: w.2.take (w.2.length - 1)); simp only [List.length_cons, List.length_take] at hm; have b1 := h.lo; have b2 := h.hi; exact ⟨hm.1, by omega, by omega, fun h' => by omega⟩
theorem getD_pm {n : Nat} {l : List (Pm n)} {i : Nat} (h : i < l.length) : l.getD i 1 = l[i] := by
 simp [List.getD_eq_getElem?_getD, List.getElem?_eq_getElem h]
theorem sL_getD {n : Nat} {l : List (Pm n)} {i : Nat} (h : i < l.length) : List.getD (sL l) i (List.replicate 8 0) = sA (l.getD i 1) := by
 rw [sL_get h, getD_pm h]
theorem c_l04First (n : Nat) (hn : n ≤ 8) (v : Nm n) (h0 : 0 < v.2.length) : R is_l04First [tPIPILA8 (enc v)] = some [tA8 (sA (t1 v.1 (v.2.getD 0 1)))] := by
 apply vs_l04First; have h1 : ((0 : Int) < ((sL v.2).length : Nat)) := by rw [sL_len]; omega
 simp only [bs_l04First, enc, decide_eq_true h1, cond_true, sL_getD h0, c_l02Turn n hn, Option.bind_some, getTV_here, bne_dec, t1]; rw [sL_len] at h1; by_cases h : v.1.tmod 2 = 0 <;> simp [h, h0, sL_len]
theorem c_turned (n : Nat) (hn : n ≤ 8) (s : Pm n) (v : Nm n) : R ii_turned [tA8 (sA s), tPIPILA8 (enc v)] = some [tA8 (sA (t1 v.1 s))] := by
 apply vi_turned; simp only [bi_turned, enc, c_turn n hn, Option.bind_some, getTV_here, bne_dec, t1]; by_cases h : v.1.tmod 2 = 0 <;> simp [h]
theorem beq0 {n : Nat} (l : List (Pm n)) : ((((sL l).length : Nat) : Int) == 0) = decide (l.length = 0) := by
 rw [sL_len, beq_dec]; by_cases h : l.length = 0 <;> simp [h]
theorem beq0n {n : Nat} (l : List (Pm n)) : (((l.length : Nat) : Int) == 0) = decide (l.length = 0) := by
 rw [beq_dec]; by_cases h : l.length = 0 <;> simp [h]
theorem c_l04Cycle (n : Nat) (hn1 : 1 ≤ n) (hn : n ≤ 8) (v : Nm n) (hv : OkN v 100000) : R is_l04Cycle [tPIPILA8 (enc v)] = some [tPIPILA8 (enc (cyc v))] := by
 have a1 := hv.len; have a2 := hv.lo; have a3 := hv.hi; apply vs_l04Cycle; unfold cyc
 by_cases h : v.2.length = 0
 · simp only [bs_l04Cycle, enc, beq0, decide_eq_true h, cond_true, if_pos h]
 · have h2 := two_of hn1 hv.one h; have h1 : ((1 : Int) ≤ ((sL v.2).length : Nat)) := by rw [sL_len]; omega
   have hf := c_l04First n hn v (by omega); have hm := c_l03Make n hn1 hn (v.2.drop 1 ++ [t1 v.1 (v.2.getD 0 1)]) (by simp; omega) (fun h' => by omega) v.1 (by omega) (by omega); simp only [enc] at hf hm ⊢
   simp only [bs_l04Cycle, beq0, decide_eq_false h, cond_false, decide_eq_true h1, cond_true, sL_drop, apOk0 (ys := sL (v.2.drop 1)) (by rw [sL_len]; simp; omega), hf, Option.bind_some, getTV_here,
    apOk1 (xs := sL (v.2.drop 1)) (x := sA (t1 v.1 (v.2.getD 0 1))) (by rw [sL_len]; simp; omega), sL_snoc, hm, if_neg h]
theorem proper_drop {n : Nat} {A : List (Pm n)} (h : (Pm.lat n).Proper A) : (Pm.lat n).Proper (A.drop 1) := by
 cases A with
 | nil => exact h
 | cons a A => exact ⟨allS _, h.W.2, fun x hx => h.no x (List.mem_cons_of_mem _ hx)⟩
theorem c_cycled (n : Nat) (hn1 : 1 ≤ n) (hn : n ≤ 8) (v : Nm n) (hv : OkN v 100000) : R ii_cycled [tPIPILA8 (enc v)] = some [tPIPILA8 (enc (cyc v))] := by
 have a1 := hv.len; have a2 := hv.lo; have a3 := hv.hi; apply vi_cycled; unfold cyc
 by_cases h : v.2.length = 0
 · have hc := c_copyNormal v (by omega); simp only [enc] at hc; simp only [bi_cycled, enc, beq0, decide_eq_true h, cond_true, hc, Option.bind_some, getTV_here, if_pos h]
 · have h2 := two_of hn1 hv.one h; have h1 : ((1 : Int) ≤ ((sL v.2).length : Nat)) := by rw [sL_len]; omega
   have h3 : ((0 : Int) < ((sL v.2).length : Nat)) := by rw [sL_len]; omega
   have hc := c_copyNormal (n := n) (v.1, v.2.drop 1) (by simp; omega); have ht := c_turned n hn (v.2.getD 0 1) v; have hp := c_put n h2 hn (v.1, v.2.drop 1) (t1 v.1 (v.2.getD 0 1)) (proper_drop hv.P) (by simp; omega) (by simp only; omega) (by simp only; omega); simp only [enc] at hc ht hp ⊢; simp only [bi_cycled, beq0, decide_eq_false h, cond_false, decide_eq_true h1, decide_eq_true h3, cond_true, sL_drop, hc, sL_getD (show 0 < v.2.length by omega), ht, Option.bind_some, getTV_here, hp, if_neg h]
theorem c_l04Decycle (n : Nat) (hn1 : 1 ≤ n) (hn : n ≤ 8) (v : Nm n) (hv : OkN v 100000) : R is_l04Decycle [tPIPILA8 (enc v)] = some [tPIPILA8 (enc (decyc v))] := by
 have a1 := hv.len; have a2 := hv.lo; have a3 := hv.hi; apply vs_l04Decycle; unfold decyc
 by_cases h : v.2.length = 0
 · simp only [bs_l04Decycle, enc, beq0, decide_eq_true h, cond_true, if_pos h]
 · have h2 := two_of hn1 hv.one h; have e1 : wi64 ((v.2.length : Int) - 1) = ((v.2.length - 1 : Nat) : Int) := by rw [wrap_i64] <;> omega
   have hm := c_l03Make n hn1 hn (t1 v.1 (v.2.getD (v.2.length - 1) 1) :: v.2.take (v.2.length - 1)) (by simp; omega) (fun h' => by omega) v.1 (by omega) (by omega); have e2 : ∀ s : Pm n, [sA s] ++ sL (v.2.take (v.2.length - 1)) = sL (s :: v.2.take (v.2.length - 1)) := fun s => rfl; have e3 : ∀ s : Pm n, apOk [sA s] (sL (v.2.take (v.2.length - 1))) = true := fun s => apOk2 (by rw [sL_len]; simp; omega)
   simp only [enc] at hm ⊢; simp (disch := omega) only [bs_l04Decycle, beq0n, decide_eq_false h, cond_false, e1, sL_len, decide_eq_true, Bool.and_true, cond_true, Int.toNat_natCast, sL_getD, c_l02Turn n hn, Option.bind_some, getTV_here, sL_take, e2, e3, bne_dec, if_neg h]
   by_cases h5 : v.1.tmod 2 = 0
   · have e4 : t1 v.1 (v.2.getD (v.2.length - 1) 1) = v.2.getD (v.2.length - 1) 1 := by rw [t1, if_pos h5]
     rw [e4] at hm ⊢; simp only [h5, decide_true, Bool.not_true, cond_false, hm, Option.bind_some, getTV_here]
   · have e4 : t1 v.1 (v.2.getD (v.2.length - 1) 1) = trn (v.2.getD (v.2.length - 1) 1) := by rw [t1, if_neg h5]
     rw [e4] at hm ⊢; simp only [h5, decide_false, Bool.not_false, cond_true, hm, Option.bind_some, getTV_here]
theorem c_decycled_7 (n : Nat) (h2 : 2 ≤ n) (hn : n ≤ 8) (B : List (Pm n)) (hB : B.length < 400000) (x0 x1 : Int) (x2 : List (List Int)) : ∀ (d i : Nat) (v : Nm n), i + d = B.length → (Pm.lat n).Proper v.2 → v.2.length + d < 900000 → -1000000000 ≤ v.1 → v.1 + v.2.length + d ≤ 1000000000 →
  R ii_decycled_7 [tI x0, tI x1, tLA8 x2, tI (n : Int), tI v.1, tLA8 (sL v.2), tLA8 (sL B), tI (B.length : Int), tI (i : Int)] = some [tI 0, tI x0, tI x1, tLA8 x2, tI (n : Int), tI (mk v.1 (v.2 ++ B.drop i)).1, tLA8 (sL (mk v.1 (v.2 ++ B.drop i)).2)] := by
 intro d
 induction d with
 | zero =>
  intro i v hi hP _ _ _; apply vi_decycled_7; have h1 : ¬ ((i : Int) < (B.length : Int)) := by omega
  rw [List.drop_of_length_le (by omega), List.append_nil, mk_proper h2 v.1 hP]; simp only [bi_decycled_7, decide_eq_false h1, cond_false]
 | succ d ih =>
  intro i v hi hP hl hp hp'; have h0 : i < B.length := by omega
  have hm := mk_spec h2 v.1 (v.2 ++ [B[i]]); have hle : (v.2 ++ [B[i]]).length = v.2.length + 1 := by simp
  have hput := c_put n h2 hn v B[i] hP (by omega) (by omega) (by omega); have ih' := ih (i + 1) (mk v.1 (v.2 ++ [B[i]])) (by omega) hm.1 (by omega) (by omega) (by omega); rw [← mk_app h2, List.append_assoc, List.singleton_append, ← List.drop_eq_getElem_cons h0] at ih'; apply vi_decycled_7; simp only [enc] at hput; simp (disch := omega) only [bi_decycled_7, decide_eq_true, cond_true, Bool.and_true, Int.toNat_natCast, sL_len, sL_get h0, hput, Option.bind_some, getTV_here, wrap_i64]; rw [show (i : Int) + 1 = ((i + 1 : Nat) : Int) by omega]; exact ih'
theorem c_decycled (n : Nat) (hn1 : 1 ≤ n) (hn : n ≤ 8) (v : Nm n) (hv : OkN v 100000) : R ii_decycled [tPIPILA8 (enc v)] = some [tPIPILA8 (enc (decyc v))] := by
 have a1 := hv.len; have a2 := hv.lo; have a3 := hv.hi; apply vi_decycled; unfold decyc
 by_cases h : v.2.length = 0
 · have hc := c_copyNormal v (by omega); have e1 : wi64 (((sL v.2).length : Nat) - 1) = -1 := by rw [sL_len, wrap_i64] <;> omega
   have e0 : ((-1 : Int) < 0) := by omega
   simp only [enc] at hc; simp only [bi_decycled, enc, e1, decide_eq_true e0, cond_true, hc, Option.bind_some, getTV_here, if_pos h]
 · have h2 := two_of hn1 hv.one h; have e1 : wi64 ((v.2.length : Int) - 1) = ((v.2.length - 1 : Nat) : Int) := by rw [wrap_i64] <;> omega
   have e0 : ¬ (((v.2.length - 1 : Nat) : Int) < 0) := by omega
   have ht := c_turned n hn (v.2.getD (v.2.length - 1) 1) v; have hp := c_put n h2 hn (v.1, []) (t1 v.1 (v.2.getD (v.2.length - 1) 1)) Lat.Proper.nil (by simp) (by simp only; omega) (by simp only; omega); have hms := mk_spec h2 v.1 ([] ++ [t1 v.1 (v.2.getD (v.2.length - 1) 1)]); have hml := mk_len h2 v.1 ([] ++ [t1 v.1 (v.2.getD (v.2.length - 1) 1)]); simp only [List.nil_append, List.length_cons, List.length_nil] at hms hml hp; have tl : (v.2.take (v.2.length - 1)).length = v.2.length - 1 := by simp
   have h7 := c_decycled_7 n h2 hn (v.2.take (v.2.length - 1)) (by omega) 0 0 [] (v.2.take (v.2.length - 1)).length 0 (mk v.1 [t1 v.1 (v.2.getD (v.2.length - 1) 1)]) (by omega) hms.1 (by omega) (by omega) (by omega); rw [List.drop_zero, ← mk_app h2] at h7; simp only [enc, sL_nil, Int.natCast_zero] at ht hp h7 ⊢; simp (disch := omega) only [bi_decycled, e1, decide_eq_false e0, cond_false, sL_len, decide_eq_true, Bool.and_true, cond_true, Int.toNat_natCast, sL_getD, ht, hp, Option.bind_some, getTV_here, getTV_next, sL_take, h7, if_neg h]
   rfl
theorem mk_tk {n : Nat} (h2 : 2 ≤ n) (q k : Int) (l B : List (Pm n)) : mk (q + (((Pm.lat n).norm l).1 : Nat)) (tk k ((Pm.lat n).norm l).2 ++ B) = mk q (tk k l ++ B) := by
 have e : (Pm.lat n).norm (tk k l) = (((Pm.lat n).norm l).1, tk k ((Pm.lat n).norm l).2) := by
  unfold tk
  split
  · rfl
  · exact (trn_auto n).norm (half_ne h2) (allS l)
 rw [mk_app h2 q (tk k l) B]; simp only [mk, e]
theorem less1_eq {n : Nat} (h2 : 2 ≤ n) (v : Nm n) (s : Pm n) : prod (mk (0 - 1) ([] ++ [Pm.half n * s⁻¹])) v = less1 v s := by
 unfold prod less1; have h := mk_tk h2 (v.1 - 1) v.1 [Pm.half n * s⁻¹] v.2; rw [tk_cons] at h; have e : tk v.1 ([] : List (Pm n)) = [] := by unfold tk; split <;> rfl
 rw [e] at h; have e3 : t1 v.1 (Pm.half n * s⁻¹) :: v.2 = [t1 v.1 (Pm.half n * s⁻¹)] ++ v.2 := rfl; rw [e3, ← h]; simp only [mk, List.nil_append]; rw [show (0 : Int) - 1 + (((Pm.lat n).norm [Pm.half n * s⁻¹]).1 : Int) + v.1 = v.1 - 1 + (((Pm.lat n).norm [Pm.half n * s⁻¹]).1 : Int) by omega]
theorem c_withoutHead (n : Nat) (h2 : 2 ≤ n) (hn : n ≤ 8) (v : Nm n) (hv : OkN v 100000) (s : Pm n) : R ii_withoutHead [tPIPILA8 (enc v), tA8 (sA s)] = some [tPIPILA8 (enc (less1 v s))] := by
 apply vi_withoutHead; have hp := c_putInverse n h2 hn (0, []) s Lat.Proper.nil (by simp) (by simp) (by simp); have hms := mk_spec h2 (0 - 1) ([] ++ [Pm.half n * s⁻¹]); have hml := mk_len h2 (0 - 1) ([] ++ [Pm.half n * s⁻¹]); simp only [List.nil_append, List.length_cons, List.length_nil] at hms hml; have hpr := c_product n (by omega) hn (mk (0 - 1) ([] ++ [Pm.half n * s⁻¹])) v ⟨hms.1, by simp only [List.nil_append]; omega, by simp only [List.nil_append]; omega, by simp only [List.nil_append]; omega, fun h => by omega⟩ hv; rw [less1_eq h2] at hpr; simp only [enc, sL_nil, List.map_nil] at hp hpr ⊢; simp only [bi_withoutHead, hp, Option.bind_some, getTV_here, hpr]
theorem c_l03Less (n : Nat) (h2 : 2 ≤ n) (hn : n ≤ 8) (v : Nm n) (hv : OkN v 100000) (s : Pm n) : R is_l03Less [tPIPILA8 (enc v), tA8 (sA s)] = some [tPIPILA8 (enc (less1 v s))] := by
 have a1 := hv.len; have a2 := hv.lo; have a3 := hv.hi; apply vs_l03Less; have hm := c_l03Make n (by omega) hn (t1 v.1 (Pm.half n * s⁻¹) :: v.2) (by simp; omega) (fun h => by omega) (v.1 - 1) (by omega) (by omega); have e2 : ∀ s : Pm n, [sA s] ++ sL v.2 = sL (s :: v.2) := fun s => rfl; have e3 : ∀ s : Pm n, apOk [sA s] (sL v.2) = true := fun s => apOk2 (by rw [sL_len]; simp; omega)
 have e4 : ∀ s : Pm n, ((0 : Int) < ((sL (s :: v.2)).length : Nat)) := fun s => by rw [sL_len]; simp only [List.length_cons]; omega
 have e5 : ∀ s t : Pm n, List.set (sL (s :: v.2)) 0 (sA t) = sL (t :: v.2) := fun s t => rfl; have e6 : ∀ s : Pm n, List.getD (sL (s :: v.2)) 0 (List.replicate 8 0) = sA s := fun s => rfl; simp only [enc] at hm ⊢; simp (disch := omega) only [bs_l03Less, c_l02Left n hn, Option.bind_some, getTV_here, e2, e3, cond_true, decide_eq_true (e4 _), e5, e6, c_l02Turn n hn, wrap_i64, bne_dec]; unfold less1 t1 at *
 by_cases h : v.1.tmod 2 = 0
 · simp only [h, if_true, decide_true, Bool.not_true, cond_false] at hm ⊢; simp only [hm, Option.bind_some, getTV_here]
 · simp only [h, if_false, decide_false, Bool.not_false, cond_true] at hm ⊢; simp only [hm, Option.bind_some, getTV_here]
theorem less1_ok {n : Nat} (h2 : 2 ≤ n) {v : Nm n} {b : Nat} (hv : OkN v b) (s : Pm n) : OkN (less1 v s) (2 * b + 1) := by
 have a1 := hv.len; have a2 := hv.lo; have a3 := hv.hi; have hms := mk_spec h2 (v.1 - 1) (t1 v.1 (Pm.half n * s⁻¹) :: v.2); have hml := mk_len h2 (v.1 - 1) (t1 v.1 (Pm.half n * s⁻¹) :: v.2); simp only [List.length_cons] at hms hml; exact ⟨hms.1, by unfold less1; omega, by unfold less1; omega, by unfold less1; omega, fun h => by omega⟩
theorem conj1_ok {n : Nat} (h2 : 2 ≤ n) {v : Nm n} {b : Nat} (hv : OkN v b) (s : Pm n) : OkN (conj1 v s) (4 * b + 4) := by
 have hl := less1_ok h2 hv s; have a1 := hl.len; have a2 := hl.lo; have a3 := hl.hi; have hms := mk_spec h2 (less1 v s).1 ((less1 v s).2 ++ [s]); have hml := mk_len h2 (less1 v s).1 ((less1 v s).2 ++ [s]); simp only [List.length_append, List.length_cons, List.length_nil] at hms hml; exact ⟨hms.1, by unfold conj1; omega, by unfold conj1; omega, by unfold conj1; omega, fun h => by omega⟩
theorem c_conjugate (n : Nat) (h2 : 2 ≤ n) (hn : n ≤ 8) (v : Nm n) (hv : OkN v 100000) (s : Pm n) : R ii_conjugate [tPIPILA8 (enc v), tA8 (sA s)] = some [tPIPILA8 (enc (conj1 v s))] := by
 apply vi_conjugate; have hl := less1_ok h2 hv s; have a1 := hl.len; have a2 := hl.lo; have a3 := hl.hi; have hw := c_withoutHead n h2 hn v hv s; have hp := c_put n h2 hn (less1 v s) s hl.P (by omega) (by omega) (by omega); simp only [enc] at hw hp ⊢; simp only [bi_conjugate, hw, Option.bind_some, getTV_here, hp]
 rfl
theorem c_l04Conjugate (n : Nat) (h2 : 2 ≤ n) (hn : n ≤ 8) (v : Nm n) (hv : OkN v 100000) (s : Pm n) : R is_l04Conjugate [tPIPILA8 (enc v), tA8 (sA s)] = some [tPIPILA8 (enc (conj1 v s))] := by
 apply vs_l04Conjugate; have hl := less1_ok h2 hv s; have a1 := hl.len; have a2 := hl.lo; have a3 := hl.hi; have hw := c_l03Less n h2 hn v hv s; have hp := c_l03Times_f n h2 hn (less1 v s) s (by omega) (by omega) (by omega); simp only [enc] at hw hp ⊢; simp only [bs_l04Conjugate, hw, Option.bind_some, getTV_here, hp]
 rfl
theorem c_again (n : Nat) (hn1 : 1 ≤ n) (hn : n ≤ 8) (v : Nm n) (hv : OkN v 100000) : R is_l03Make [tI (n : Int), tI v.1, tLA8 (sL v.2)] = some [tPIPILA8 (enc v)] := by
 have a1 := hv.len; have a2 := hv.lo; have a3 := hv.hi; have hm := c_l03Make n hn1 hn v.2 (by omega) (fun h => by rw [hv.one h]) v.1 (by omega) (by omega); have e : mk v.1 v.2 = v := by
  by_cases h : n = 1
  · have := hv.one h; subst this; exact mk_nil _
  · exact mk_proper (by omega) v.1 hv.P
 rw [e] at hm; exact hm
end Go.Ev.YtfkpbhbghbhmgaaGreat
namespace Go.Ev.YtfkpbhbghbhmgaaGreat
open Go.Ev Go.Gar
def srch {α : Type} (st : α → α) (good : α → Bool) : Nat → α → Option α
 | 0, _ => none
 | d + 1, c => if good (st c) then some (st c) else srch st good d (st c)
theorem srch_some {α : Type} {st : α → α} {good : α → Bool} {P : α → Prop} (hst : ∀ x, P x → P (st x)) : ∀ (d : Nat) (c u : α), P c → srch st good d c = some u → P u ∧ good u = true := by
 intro d
 induction d with
 | zero => intro c u _ h; simp [srch] at h
 | succ d ih =>
  intro c u hc h
  by_cases g : good (st c) = true
  · rw [srch, if_pos g] at h
    cases h
    exact ⟨hst c hc, g⟩
  · rw [srch, if_neg g] at h; exact ih _ _ (hst c hc) h
def gA {n : Nat} (v w : Nm n) : Bool := decide (v.1 < w.1)
def gB' {n : Nat} (v w : Nm n) : Bool := decide (w.1 + (w.2.length : Int) < v.1 + (v.2.length : Int))
def mN (n : Nat) : Nat := n * (n - 1) / 2
theorem mN_eq {n : Nat} (hn1 : 1 ≤ n) (hn : n ≤ 8) : wi64 (Int.tdiv (wi64 ((n : Int) * (wi64 ((n : Int) - 1)))) 2) = ((mN n : Nat) : Int) := by
 have h : n = 1 ∨ n = 2 ∨ n = 3 ∨ n = 4 ∨ n = 5 ∨ n = 6 ∨ n = 7 ∨ n = 8 := by omega
 rcases h with rfl | rfl | rfl | rfl | rfl | rfl | rfl | rfl <;> decide
theorem mN_lt {n : Nat} (hn1 : 1 ≤ n) (hn : n ≤ 8) : mN n < 100 := by
 have h : n = 1 ∨ n = 2 ∨ n = 3 ∨ n = 4 ∨ n = 5 ∨ n = 6 ∨ n = 7 ∨ n = 8 := by omega
 rcases h with rfl | rfl | rfl | rfl | rfl | rfl | rfl | rfl <;> decide
noncomputable def fA {n : Nat} (v : Nm n) : Option (Nm n) := srch cyc (gA v) (mN n) v
noncomputable def fB {n : Nat} (v : Nm n) : Option (Nm n) := srch decyc (gB' v) (mN n) v
noncomputable def sumF {n : Nat} : Nat → Nm n → Nm n
 | 0, v => v
 | f + 1, v => match fA v with
  | some u => sumF f u
  | none => match fB v with
   | some u => sumF f u
   | none => v
noncomputable def sumN {n : Nat} (v : Nm n) : Nm n := sumF (v.2.length + 1) v
theorem fA_some {n : Nat} (hn1 : 1 ≤ n) {v v0 u : Nm n} (h : Rel v v0) (hu : fA v = some u) : Rel u v0 ∧ u.2.length < v.2.length := by
 have hv : Rel v v := ⟨h.P, Int.le_refl _, Int.le_refl _, h.one⟩; have := srch_some (P := fun x => Rel x v) (fun x hx => cyc_rel hn1 hx) _ _ _ hv hu; refine ⟨this.1.trans h, ?_⟩; have h2 := this.2; simp only [gA, decide_eq_true_eq] at h2; have b2 := this.1.hi; omega
theorem fB_some {n : Nat} (hn1 : 1 ≤ n) {v v0 u : Nm n} (h : Rel v v0) (hu : fB v = some u) : Rel u v0 ∧ u.2.length < v.2.length := by
 have hv : Rel v v := ⟨h.P, Int.le_refl _, Int.le_refl _, h.one⟩; have := srch_some (P := fun x => Rel x v) (fun x hx => decyc_rel hn1 hx) _ _ _ hv hu; refine ⟨this.1.trans h, ?_⟩; have h2 := this.2; simp only [gB', decide_eq_true_eq] at h2; have b1 := this.1.lo; omega
theorem sumF_rel {n : Nat} (hn1 : 1 ≤ n) (v0 : Nm n) : ∀ (f : Nat) (v : Nm n), Rel v v0 → Rel (sumF f v) v0 := by
 intro f
 induction f with
 | zero => intro v h; exact h
 | succ f ih =>
  intro v h; rw [sumF]
  split
  · rename_i u hu; exact ih u (fA_some hn1 h hu).1
  · split
    · rename_i u hu; exact ih u (fB_some hn1 h hu).1
    · exact h
theorem Rel.ok5 {n : Nat} {w v : Nm n} {b : Nat} (h : Rel w v) (hv : OkN v b) (hb : b ≤ 50000) : OkN w 100000 := (h.ok hv).mono (by omega)
theorem c_l04Summit_4 (n : Nat) (hn1 : 1 ≤ n) (hn : n ≤ 8) (v0 : Nm n) (hv0 : OkN v0 50000) (v : Nm n) (x3 x4 : Int) (x5 : List (List Int)) (x9 : Int) : ∀ (d : Nat) (c : Nm n), d < 1000 → Rel c v0 →
  ∃ w : Nm n, R is_l04Summit_4 [tI (n : Int), tI v.1, tLA8 (sL v.2), tI x3, tI x4, tLA8 x5, tI (n : Int), tI c.1, tLA8 (sL c.2), tI x9, tB false, tI (d : Int)]
   = some [tI 0, tI (n : Int), tI v.1, tLA8 (sL v.2), tI x3, tI x4, tLA8 x5, tI (n : Int), tI w.1, tLA8 (sL w.2), tI x9, tB (srch cyc (gA v) d c).isSome] ∧ (∀ u, srch cyc (gA v) d c = some u → w = u) := by
 intro d
 induction d with
 | zero =>
  intro c _ hc; refine ⟨c, ?_, fun u h => by simp [srch] at h⟩; apply vs_l04Summit_4; simp only [bs_l04Summit_4, srch]
  rfl
 | succ d ih =>
  intro c hd hc; have h1 : ((0 : Int) < ((d + 1 : Nat) : Int)) := by omega
  have hcy := c_l04Cycle n hn1 hn c (hc.ok5 hv0 (by omega)); have hd' : wi64 (((d + 1 : Nat) : Int) - 1) = (d : Int) := by rw [wrap_i64] <;> omega
  simp only [enc] at hcy
  by_cases g : gA v (cyc c) = true
  · refine ⟨cyc c, ?_, fun u h => by rw [srch, if_pos g] at h; exact Option.some.inj h⟩; apply vs_l04Summit_4; simp only [bs_l04Summit_4, decide_eq_true h1, cond_true, Bool.not_false, hcy, Option.bind_some, getTV_here, hd', srch, if_pos g]; have g' : v.1 < (cyc c).1 := by simpa [gA] using g
    simp only [decide_eq_true g']; apply vs_l04Summit_4; simp only [bs_l04Summit_4, Bool.not_true, cond_false]; by_cases hz : (0 : Int) < (d : Int) <;> simp [hz]
  · obtain ⟨w, e1, e2⟩ := ih (cyc c) (by omega) (cyc_rel hn1 hc); refine ⟨w, ?_, fun u h => by rw [srch, if_neg g] at h; exact e2 u h⟩; apply vs_l04Summit_4; have g' : ¬ v.1 < (cyc c).1 := by simpa [gA] using g
    simp only [bs_l04Summit_4, decide_eq_true h1, cond_true, Bool.not_false, hcy, Option.bind_some, getTV_here, hd', srch, if_neg g, decide_eq_false g', e1]
theorem c_l04Summit_4t (a b c : Int) (x2 x5 x8 : List (List Int)) (x0 x1 x3 x4 x6 x7 x9 x11 : Int) : R is_l04Summit_11 [tI x0, tI x1, tLA8 x2, tI x3, tI x4, tLA8 x5, tI x6, tI x7, tLA8 x8, tI x9, tB true, tI x11] = some [tI 0, tI x0, tI x1, tLA8 x2, tI x3, tI x4, tLA8 x5, tI x6, tI x7, tLA8 x8, tI x9, tB true] := by
 apply vs_l04Summit_11; by_cases h : 0 < x11 <;> simp [bs_l04Summit_11, h]
theorem c_l04Summit_11 (n : Nat) (hn1 : 1 ≤ n) (hn : n ≤ 8) (v0 : Nm n) (hv0 : OkN v0 50000) (v : Nm n) (hv : Rel v v0) (x3 x4 : Int) (x5 : List (List Int)) (x9 : Int) : ∀ (d : Nat) (c : Nm n), d < 1000 → Rel c v0 →
  ∃ w : Nm n, R is_l04Summit_11 [tI (n : Int), tI v.1, tLA8 (sL v.2), tI x3, tI x4, tLA8 x5, tI (n : Int), tI c.1, tLA8 (sL c.2), tI x9, tB false, tI (d : Int)]
   = some [tI 0, tI (n : Int), tI v.1, tLA8 (sL v.2), tI x3, tI x4, tLA8 x5, tI (n : Int), tI w.1, tLA8 (sL w.2), tI x9, tB (srch decyc (gB' v) d c).isSome] ∧ (∀ u, srch decyc (gB' v) d c = some u → w = u) := by
 intro d; have ov := hv.ok5 hv0 (by omega); have v1 := ov.lo; have v2 := ov.hi; have v3 := ov.len
 induction d with
 | zero =>
  intro c _ hc; refine ⟨c, ?_, fun u h => by simp [srch] at h⟩; apply vs_l04Summit_11; simp only [bs_l04Summit_11, srch]
  rfl
 | succ d ih =>
  intro c hd hc; have h1 : ((0 : Int) < ((d + 1 : Nat) : Int)) := by omega
  have hcy := c_l04Decycle n hn1 hn c (hc.ok5 hv0 (by omega)); have hd' : wi64 (((d + 1 : Nat) : Int) - 1) = (d : Int) := by rw [wrap_i64] <;> omega
  have oc := (decyc_rel hn1 hc).ok5 hv0 (by omega); have c1 := oc.lo; have c2 := oc.hi; have c3 := oc.len; have w1 : wi64 ((decyc c).1 + ((decyc c).2.length : Int)) = (decyc c).1 + ((decyc c).2.length : Int) := by rw [wrap_i64] <;> omega
  have w2 : wi64 (v.1 + (v.2.length : Int)) = v.1 + (v.2.length : Int) := by rw [wrap_i64] <;> omega
  simp only [enc] at hcy
  by_cases g : gB' v (decyc c) = true
  · refine ⟨decyc c, ?_, fun u h => by rw [srch, if_pos g] at h; exact Option.some.inj h⟩; apply vs_l04Summit_11; have g' : (decyc c).1 + ((decyc c).2.length : Int) < v.1 + (v.2.length : Int) := by simpa [gB'] using g
    simp only [bs_l04Summit_11, decide_eq_true h1, cond_true, Bool.not_false, hcy, Option.bind_some, getTV_here, hd', srch, if_pos g, sL_len, w1, w2, decide_eq_true g']; apply vs_l04Summit_11; simp only [bs_l04Summit_11, Bool.not_true, cond_false]; by_cases hz : (0 : Int) < (d : Int) <;> simp [hz]
  · obtain ⟨w, e1, e2⟩ := ih (decyc c) (by omega) (decyc_rel hn1 hc); refine ⟨w, ?_, fun u h => by rw [srch, if_neg g] at h; exact e2 u h⟩; apply vs_l04Summit_11; have g' : ¬ (decyc c).1 + ((decyc c).2.length : Int) < v.1 + (v.2.length : Int) := by simpa [gB'] using g
    simp only [bs_l04Summit_11, decide_eq_true h1, cond_true, Bool.not_false, hcy, Option.bind_some, getTV_here, hd', srch, if_neg g, sL_len, w1, w2, decide_eq_false g', e1]
theorem c_l04Summit_2 (n : Nat) (hn1 : 1 ≤ n) (hn : n ≤ 8) (v0 : Nm n) (hv0 : OkN v0 50000) (x3 x4 : Int) (x5 : List (List Int)) : ∀ (f : Nat) (v : Nm n), v.2.length < f → Rel v v0 →
  ∃ y3 y4 : Int, ∃ y5 : List (List Int), R is_l04Summit_2 [tI (n : Int), tI v.1, tLA8 (sL v.2), tI x3, tI x4, tLA8 x5, tI (n : Int)]
   = some [tI 0, tI (n : Int), tI (sumF f v).1, tLA8 (sL (sumF f v).2)] := by
 intro f
 induction f with
 | zero => intro v h; omega
 | succ f ih =>
  intro v hf hv; refine ⟨0, 0, [], ?_⟩; have hm := mN_eq hn1 hn; have hml := mN_lt hn1 hn; obtain ⟨w, e1, e2⟩ := c_l04Summit_4 n hn1 hn v0 hv0 v x3 x4 x5 (n : Int) (mN n) v (by omega) hv; apply vs_l04Summit_2; simp only [bs_l04Summit_2, hm, e1, Option.bind_some, getTV_here, getTV_next]; rw [sumF]
  cases hA : fA v with
  | some u =>
   have hA' : srch cyc (gA v) (mN n) v = some u := hA; obtain rfl := e2 u hA'; have hr := fA_some hn1 hv hA; obtain ⟨_, _, _, e3⟩ := ih w (by omega) hr.1; simp only [hA', Option.isSome_some, Bool.not_true, cond_false, hm, c_l04Summit_4t 0 0 0, Option.bind_some, getTV_here, getTV_next, e3]
  | none =>
   have hA' : srch cyc (gA v) (mN n) v = none := hA; obtain ⟨z, e4, e5⟩ := c_l04Summit_11 n hn1 hn v0 hv0 v hv x3 x4 x5 (n : Int) (mN n) v (by omega) hv; simp only [hA', Option.isSome_none, Bool.not_false, cond_true, hm, e4, Option.bind_some, getTV_here, getTV_next]
   cases hB : fB v with
   | some u =>
    have hB' : srch decyc (gB' v) (mN n) v = some u := hB; obtain rfl := e5 u hB'; have hr := fB_some hn1 hv hB; obtain ⟨_, _, _, e3⟩ := ih z (by omega) hr.1; simp only [hB', Option.isSome_some, Bool.not_true, cond_false, e3]
   | none =>
    have hB' : srch decyc (gB' v) (mN n) v = none := hB; simp only [hB', Option.isSome_none, Bool.not_false, cond_true]
theorem c_l04Summit (n : Nat) (hn1 : 1 ≤ n) (hn : n ≤ 8) (v : Nm n) (hv : OkN v 50000) : R is_l04Summit [tPIPILA8 (enc v)] = some [tPIPILA8 (enc (sumN v))] := by
 obtain ⟨_, _, _, e⟩ := c_l04Summit_2 n hn1 hn v hv 0 0 [] (v.2.length + 1) v (by omega) (Rel.refl hv); apply vs_l04Summit; simp only [enc] at e ⊢; simp only [bs_l04Summit, e, Option.bind_some, getTV_here, getTV_next]
 rfl
theorem c_better_3 (n : Nat) (hn1 : 1 ≤ n) (hn : n ≤ 8) (v0 : Nm n) (hv0 : OkN v0 50000) (v : Nm n) (x3 x4 : Int) (x5 : List (List Int)) (m : Nat) (hm : m < 1000) : ∀ (d : Nat) (i : Nat) (c : Nm n), i + d = m → Rel c v0 →
  R ii_better_3 [tI (n : Int), tI v.1, tLA8 (sL v.2), tI x3, tI x4, tLA8 x5, tI (n : Int), tI c.1, tLA8 (sL c.2), tI (m : Int), tI (i : Int)]
   = some (match srch cyc (gA v) d c with
    | some u => [tI 1, tI (n : Int), tI u.1, tLA8 (sL u.2), tB true]
    | none => [tI 0, tI (n : Int), tI v.1, tLA8 (sL v.2), tI x3, tI x4, tLA8 x5]) := by
 intro d
 induction d with
 | zero =>
  intro i c hi hc; apply vi_better_3; have h1 : ¬ ((i : Int) < (m : Int)) := by omega
  simp only [bi_better_3, decide_eq_false h1, cond_false, srch]
 | succ d ih =>
  intro i c hi hc; have h1 : ((i : Int) < (m : Int)) := by omega
  have hcy := c_cycled n hn1 hn c (hc.ok5 hv0 (by omega)); have hi' : wi64 ((i : Int) + 1) = ((i + 1 : Nat) : Int) := by rw [wrap_i64] <;> omega
  have hk : R ii_summitK1 [tPIPILA8 ((n : Int), (cyc c).1, sL (cyc c).2), tPIPILA8 ((n : Int), v.1, sL v.2)] = some [tB (gA v (cyc c))] := by
   apply vi_summitK1; simp only [bi_summitK1, gA]
  simp only [enc] at hcy; apply vi_better_3
  by_cases g : gA v (cyc c) = true
  · simp only [bi_better_3, decide_eq_true h1, cond_true, hcy, Option.bind_some, getTV_here, hk, g, srch, if_true]
  · have g' : gA v (cyc c) = false := by simpa using g
    simp only [bi_better_3, decide_eq_true h1, cond_true, hcy, Option.bind_some, getTV_here, hk, g', srch, cond_false, hi', ih (i + 1) (cyc c) (by omega) (cyc_rel hn1 hc), if_false, Bool.false_eq_true]
theorem c_better (n : Nat) (hn1 : 1 ≤ n) (hn : n ≤ 8) (v0 : Nm n) (hv0 : OkN v0 50000) (v : Nm n) (hv : Rel v v0) : R ii_better [tPIPILA8 ((n : Int), v.1, sL v.2)] = some (match fA v with
        | some u => [tPIPILA8 ((n : Int), u.1, sL u.2), tB true]
        | none => [tPIPILA8 ((n : Int), v.1, sL v.2), tB false]) := by
 have e := c_better_3 n hn1 hn v0 hv0 v 0 0 [] (mN n) (by have := mN_lt hn1 hn; omega) (mN n) 0 v (by omega) hv; apply vi_better; simp only [Int.natCast_zero] at e; simp only [bi_better, mN_eq hn1 hn, e]; unfold fA
 cases srch cyc (gA v) (mN n) v with
 | some u => rfl
 | none => rfl
theorem c_greatest (n : Nat) (v : Nm n) (hv : OkN v 100000) : R ii_greatest [tPIPILA8 ((n : Int), v.1, sL v.2)] = some [tI (v.1 + (v.2.length : Int))] := by
 have v1 := hv.lo; have v2 := hv.hi; have v3 := hv.len; apply vi_greatest; have w2 : wi64 (v.1 + (v.2.length : Int)) = v.1 + (v.2.length : Int) := by rw [wrap_i64] <;> omega
 simp only [bi_greatest, sL_len, w2]
theorem c_better_v2_3 (n : Nat) (hn1 : 1 ≤ n) (hn : n ≤ 8) (v0 : Nm n) (hv0 : OkN v0 50000) (v : Nm n) (hv : Rel v v0) (x3 x4 : Int) (x5 : List (List Int)) (m : Nat) (hm : m < 1000) : ∀ (d : Nat) (i : Nat) (c : Nm n), i + d = m → Rel c v0 →
  R ii_better_v2_3 [tI (n : Int), tI v.1, tLA8 (sL v.2), tI x3, tI x4, tLA8 x5, tI (n : Int), tI c.1, tLA8 (sL c.2), tI (m : Int), tI (i : Int)]
   = some (match srch decyc (gB' v) d c with
    | some u => [tI 1, tI (n : Int), tI u.1, tLA8 (sL u.2), tB true]
    | none => [tI 0, tI (n : Int), tI v.1, tLA8 (sL v.2), tI x3, tI x4, tLA8 x5]) := by
 intro d
 induction d with
 | zero =>
  intro i c hi hc; apply vi_better_v2_3; have h1 : ¬ ((i : Int) < (m : Int)) := by omega
  simp only [bi_better_v2_3, decide_eq_false h1, cond_false, srch]
 | succ d ih =>
  intro i c hi hc; have h1 : ((i : Int) < (m : Int)) := by omega
  have hcy := c_decycled n hn1 hn c (hc.ok5 hv0 (by omega)); have hi' : wi64 ((i : Int) + 1) = ((i + 1 : Nat) : Int) := by rw [wrap_i64] <;> omega
  have hk : R ii_summitK2 [tPIPILA8 ((n : Int), (decyc c).1, sL (decyc c).2), tPIPILA8 ((n : Int), v.1, sL v.2)] = some [tB (gB' v (decyc c))] := by
   apply vi_summitK2; simp only [bi_summitK2, gB', c_greatest n _ ((decyc_rel hn1 hc).ok5 hv0 (by omega)), c_greatest n _ (hv.ok5 hv0 (by omega)), Option.bind_some, getTV_here]
  simp only [enc] at hcy; apply vi_better_v2_3
  by_cases g : gB' v (decyc c) = true
  · simp only [bi_better_v2_3, decide_eq_true h1, cond_true, hcy, Option.bind_some, getTV_here, hk, g, srch, if_true]
  · have g' : gB' v (decyc c) = false := by simpa using g
    simp only [bi_better_v2_3, decide_eq_true h1, cond_true, hcy, Option.bind_some, getTV_here, hk, g', srch, cond_false, hi', ih (i + 1) (decyc c) (by omega) (decyc_rel hn1 hc), if_false, Bool.false_eq_true]
theorem c_better_v2 (n : Nat) (hn1 : 1 ≤ n) (hn : n ≤ 8) (v0 : Nm n) (hv0 : OkN v0 50000) (v : Nm n) (hv : Rel v v0) : R ii_better_v2 [tPIPILA8 ((n : Int), v.1, sL v.2)] = some (match fB v with
        | some u => [tPIPILA8 ((n : Int), u.1, sL u.2), tB true]
        | none => [tPIPILA8 ((n : Int), v.1, sL v.2), tB false]) := by
 have e := c_better_v2_3 n hn1 hn v0 hv0 v hv 0 0 [] (mN n) (by have := mN_lt hn1 hn; omega) (mN n) 0 v (by omega) hv; apply vi_better_v2; simp only [Int.natCast_zero] at e; simp only [bi_better_v2, mN_eq hn1 hn, e]; unfold fB
 cases srch decyc (gB' v) (mN n) v with
 | some u => rfl
 | none => rfl
theorem c_summit_1 (n : Nat) (hn1 : 1 ≤ n) (hn : n ≤ 8) (v0 : Nm n) (hv0 : OkN v0 50000) (x3 x4 : Int) (x5 : List (List Int)) : ∀ (f : Nat) (v : Nm n), v.2.length < f → Rel v v0 →
  R ii_summit_1 [tI (n : Int), tI v.1, tLA8 (sL v.2), tI x3, tI x4, tLA8 x5] = some [tI 0, tI (n : Int), tI (sumF f v).1, tLA8 (sL (sumF f v).2)] := by
 intro f
 induction f with
 | zero => intro v h; omega
 | succ f ih =>
  intro v hf hv; have ov := hv.ok5 hv0 (by omega); have v3 := ov.len; have b1 := c_better n hn1 hn v0 hv0 v hv; have b2 := c_better_v2 n hn1 hn v0 hv0 v hv; have hc := c_copyNormal v (by omega); simp only [enc] at hc; apply vi_summit_1; rw [sumF]
  cases hA : fA v with
  | some u =>
   have hr := fA_some hn1 hv hA; rw [hA] at b1; simp only [bi_summit_1, b1, Option.bind_some, getTV_here, getTV_next, Bool.not_true, cond_false, ih u (by omega) hr.1]
  | none =>
   rw [hA] at b1
   cases hB : fB v with
   | some u =>
    have hr := fB_some hn1 hv hB; rw [hB] at b2; simp only [bi_summit_1, b1, b2, Option.bind_some, getTV_here, getTV_next, Bool.not_true, Bool.not_false, cond_true, cond_false, ih u (by omega) hr.1]
   | none =>
    rw [hB] at b2; simp only [bi_summit_1, b1, b2, Option.bind_some, getTV_here, getTV_next, Bool.not_false, cond_true, hc]
theorem c_summit (n : Nat) (hn1 : 1 ≤ n) (hn : n ≤ 8) (v : Nm n) (hv : OkN v 50000) : R ii_summit [tPIPILA8 (enc v)] = some [tPIPILA8 (enc (sumN v))] := by
 have e := c_summit_1 n hn1 hn v hv 0 0 [] (v.2.length + 1) v (by omega) (Rel.refl hv); apply vi_summit; simp only [enc] at e ⊢; simp only [bi_summit, e, Option.bind_some, getTV_here, getTV_next]
 rfl
theorem sumN_rel {n : Nat} (hn1 : 1 ≤ n) {v : Nm n} {b : Nat} (hv : OkN v b) : Rel (sumN v) v := sumF_rel hn1 v _ v (Rel.refl hv)
theorem sumN_ok {n : Nat} (hn1 : 1 ≤ n) {v : Nm n} {b : Nat} (hv : OkN v b) : OkN (sumN v) (4 * b + 4) := ((sumN_rel hn1 hv).ok hv).mono (by omega)
end Go.Ev.YtfkpbhbghbhmgaaGreat
namespace Go.Ev.YtfkpbhbghbhmgaaGreat
open Go.Ev Go.Gar
theorem c_SummitLengths_bad {a : Int × Int × List (List Int)} (ha : Rows8 a.2.2) (h : isNm a = false) : R is_SummitLengths [tPIPILA8 a] = some [tLI [], tI 1] ∧ R ii_SummitLengths [tPIPILA8 a] = some [tLI [], tI 1] := by
 constructor
 · apply vs_SummitLengths; simp [bs_SummitLengths, c_l03Is a ha, h]
 · apply vi_SummitLengths; simp [bi_SummitLengths, c_IsNormal a ha, h]
theorem c_SummitLengths_ok {n : Nat} (hn1 : 1 ≤ n) (hn : n ≤ 8) {v : Nm n} (hv : OkN v 200) :
  R is_SummitLengths [tPIPILA8 (enc v)] = some [tLI [(enc (sumN v)).2.1, ((enc (sumN v)).2.2.length : Int)], tI 0] ∧ R ii_SummitLengths [tPIPILA8 (enc v)] = some [tLI [(enc (sumN v)).2.1, ((enc (sumN v)).2.2.length : Int)], tI 0] := by
 have hr : Rows8 (enc v).2.2 := sL_rows hn v.2; have h := isNm_enc hn1 hn hv; have e1 := c_l04Summit n hn1 hn v (hv.mono (by omega)); have e2 := c_summit n hn1 hn v (hv.mono (by omega))
 constructor
 · apply vs_SummitLengths; simp [bs_SummitLengths, c_l03Is _ hr, h, e1]
 · apply vi_SummitLengths; simp [bi_SummitLengths, c_IsNormal _ hr, h, e2]
theorem zero_ok (n b : Nat) : OkN ((0, []) : Nm n) b := ⟨Lat.Proper.nil, by simp, by simp only; omega, by simp only; omega, fun _ => rfl⟩
end Go.Ev.YtfkpbhbghbhmgaaGreat
namespace Go.Ev.YtfkpbhbghbhmgaaGreat
open Go.Ev Go.Gar
theorem c_SummitOf_bad {a : Int × Int × List (List Int)} (ha : Rows8 a.2.2) (h : isNm a = false) : R is_SummitOf [tPIPILA8 a] = some [tPIPILA8 NoV, tI 1] ∧ R ii_SummitOf [tPIPILA8 a] = some [tPIPILA8 NoV, tI 1] := by
 constructor
 · apply vs_SummitOf; simp [bs_SummitOf, c_l03Is a ha, h]
 · have hc : R ii_changed [tPIPILA8 a] = some [tPIPILA8 NoV, tI 1] := by
    apply vi_changed; simp [bi_changed, c_IsNormal a ha, h]
   apply vi_SummitOf; simp [bi_SummitOf, hc]
theorem c_SummitOf_ok {n : Nat} (hn1 : 1 ≤ n) (hn : n ≤ 8) {v : Nm n} (hv : OkN v 200) :
  R is_SummitOf [tPIPILA8 (enc v)] = some [tPIPILA8 (limV (enc (sumN v))).1, tI (limV (enc (sumN v))).2] ∧ R ii_SummitOf [tPIPILA8 (enc v)] = some [tPIPILA8 (limV (enc (sumN v))).1, tI (limV (enc (sumN v))).2] := by
 have hr : Rows8 (enc v).2.2 := sL_rows hn v.2; have h := isNm_enc hn1 hn hv; have hk := sumN_ok hn1 hv; have e1 := c_l04Summit n hn1 hn v (hv.mono (by omega)); have e2 := c_summit n hn1 hn v (hv.mono (by omega)); have e3 : R is_l03Make [tI (enc (sumN v)).1, tI (enc (sumN v)).2.1, tLA8 (enc (sumN v)).2.2] = some [tPIPILA8 (enc (sumN v))] := c_again n hn1 hn (sumN v) (hk.mono (by omega))
 constructor
 · apply vs_SummitOf; simp [bs_SummitOf, c_l03Is _ hr, h, e1, e3, c_l03Fit]
 · have hc : R ii_changed [tPIPILA8 (enc v)] = some [tPIPILA8 (limV (enc (sumN v))).1, tI (limV (enc (sumN v))).2] := by
    apply vi_changed; simp [bi_changed, c_IsNormal _ hr, h, e2, c_limited]
   apply vi_SummitOf; simp [bi_SummitOf, hc]
end Go.Ev.YtfkpbhbghbhmgaaGreat
namespace Go.Ev.YtfkpbhbghbhmgaaGreat
open Go.Ev Go.Gar
theorem bne_l (a b : List Int) : (a != b) = !decide (a = b) := by rw [Bool.eq_iff_iff]; simp
theorem c_l03Like_4 (x0 x1 x3 x4 : Int) (a b : List (List Int)) (h0 : a.length < 1000000000) (h1 : b.length = a.length) : ∀ i, i ≤ a.length → R is_l03Like_4 [tI x0, tI x1, tLA8 a, tI x3, tI x4, tLA8 b, tI (i : Int)] = some (if a.drop i = b.drop i then [tI 0] else [tI 1, tB false]) := by
 refine up_loop _ ?_ (fun i hi ih => ?_)
 · apply vs_l03Like_4; rw [List.drop_length, ← h1, List.drop_length]; simp [bs_l03Like_4, h1]
 · apply vs_l03Like_4; rw [List.drop_eq_getElem_cons hi, List.drop_eq_getElem_cons (by omega : i < b.length)]; simp (disch := omega) only [bs_l03Like_4, decide_eq_true, cond_true, Bool.and_true, Int.toNat_natCast, wrap_i64]; rw [show (i : Int) + 1 = ((i + 1 : Nat) : Int) by omega, ih]; simp only [List.getD_eq_getElem?_getD, List.getElem?_eq_getElem hi, List.getElem?_eq_getElem (by omega : i < b.length), Option.getD_some, List.cons.injEq]; by_cases e : a[i] = b[i] <;> simp [e, bne_l]
theorem c_Equal_4 (a b : List (List Int)) (h0 : a.length < 1000000000) (h1 : b.length = a.length) : ∀ i, i ≤ a.length → R ig_Equal___i_Simple_i_Simple__4 [tLA8 a, tLA8 b, tI (a.length : Int), tI (i : Int)] = some (if a.drop i = b.drop i then [tI 0] else [tI 1, tB false]) := by
 refine up_loop _ ?_ (fun i hi ih => ?_)
 · apply vg_Equal___i_Simple_i_Simple__4; rw [List.drop_length, ← h1, List.drop_length]; simp [bg_Equal___i_Simple_i_Simple__4, h1]
 · apply vg_Equal___i_Simple_i_Simple__4; rw [List.drop_eq_getElem_cons hi, List.drop_eq_getElem_cons (by omega : i < b.length)]; simp (disch := omega) only [bg_Equal___i_Simple_i_Simple__4, decide_eq_true, cond_true, Bool.and_true, Int.toNat_natCast, wrap_i64]; rw [show (i : Int) + 1 = ((i + 1 : Nat) : Int) by omega, ih]; simp only [List.getD_eq_getElem?_getD, List.getElem?_eq_getElem hi, List.getElem?_eq_getElem (by omega : i < b.length), Option.getD_some, List.cons.injEq]; by_cases e : a[i] = b[i] <;> simp [e, bne_l]
theorem c_Equal (a b : List (List Int)) (h0 : a.length < 1000000000) : R ig_Equal___i_Simple_i_Simple_ [tLA8 a, tLA8 b] = some [tB (decide (a = b))] := by
 apply vg_Equal___i_Simple_i_Simple_
 by_cases e : b.length = a.length
 · have := c_Equal_4 a b h0 e 0 (Nat.zero_le _); simp only [List.drop_zero, Int.natCast_zero] at this; simp only [bg_Equal___i_Simple_i_Simple_, e, bne_self_eq_false, cond_false, this]; by_cases e2 : a = b <;> simp [e2]
 · have : a ≠ b := fun h => e (by rw [h])
   have e3 : ¬ ((a.length : Int) = b.length) := by omega
   simp [bg_Equal___i_Simple_i_Simple_, this, e3, bne_dec]
theorem c_l03Like (a b : Int × Int × List (List Int)) (h0 : a.2.2.length < 1000000000) : R is_l03Like [tPIPILA8 a, tPIPILA8 b] = some [tB (decide (a = b))] := by
 apply vs_l03Like; obtain ⟨a1, a2, a3⟩ := a; obtain ⟨b1, b2, b3⟩ := b
 by_cases q1 : a1 = b1
 · by_cases q2 : a2 = b2
   · by_cases e : b3.length = a3.length
     · have := c_l03Like_4 a1 a2 b1 b2 a3 b3 h0 e 0 (Nat.zero_le _); simp only [List.drop_zero, Int.natCast_zero] at this; subst q1; subst q2; simp only [bs_l03Like, e, bne_self_eq_false, cond_false, this]; by_cases e2 : a3 = b3 <;> simp [e2]
     · have : a3 ≠ b3 := fun h => e (by rw [h])
       have e3 : ¬ ((a3.length : Int) = b3.length) := by omega
       simp [bs_l03Like, this, e3, bne_dec]
   · simp [bs_l03Like, q2, bne_dec]
 · simp [bs_l03Like, q1, bne_dec]
theorem c_sameNormal (a b : Int × Int × List (List Int)) (h0 : a.2.2.length < 1000000000) : R ii_sameNormal [tPIPILA8 a, tPIPILA8 b] = some [tB (decide (a = b))] := by
 apply vi_sameNormal; obtain ⟨a1, a2, a3⟩ := a; obtain ⟨b1, b2, b3⟩ := b
 by_cases q1 : a1 = b1
 · by_cases q2 : a2 = b2
   · simp [bi_sameNormal, q1, q2, c_Equal a3 b3 h0]
   · simp [bi_sameNormal, q2, beq_dec]
 · simp [bi_sameNormal, q1, beq_dec]
theorem foldN_ok {n : Nat} (h2 : 2 ≤ n) : ∀ (l : List Int) {v : Nm n} {j : Nat}, OkJ v j → OkJ (l.foldl stepN v) (j + l.length)
 | [], v, j, h => h
 | s :: l, v, j, h => by
  have := foldN_ok h2 l (stepN_ok h2 h s); rw [List.foldl_cons, List.length_cons, show j + (l.length + 1) = j + 1 + l.length by omega]; exact this
end Go.Ev.YtfkpbhbghbhmgaaGreat
namespace Go.Ev.YtfkpbhbghbhmgaaGreat
open Go.Ev Go.Gar
theorem par (p : Int) : p.tmod 2 = 0 ↔ p % 2 = 0 :=
 ⟨fun h => Int.emod_eq_zero_of_dvd (Int.dvd_of_tmod_eq_zero h), fun h => Int.tmod_eq_zero_of_dvd (Int.dvd_of_emod_eq_zero h)⟩
theorem map_trn2 {n : Nat} (l : List (Pm n)) : (l.map trn).map trn = l := by
 rw [List.map_map]
 conv => rhs; rw [← List.map_id l]
 apply List.map_congr_left; intro x _; exact trn_trn x
theorem tk_add {n : Nat} (a b : Int) (l : List (Pm n)) : tk (a + b) l = tk a (tk b l) := by
 unfold tk; have ha := par a; have hb := par b; have hab := par (a + b)
 by_cases h1 : a % 2 = 0
 · by_cases h2 : b % 2 = 0
   · rw [if_pos (hab.2 (by omega)), if_pos (ha.2 h1), if_pos (hb.2 h2)]
   · rw [if_neg (fun h => h2 (by have := hab.1 h; omega)), if_pos (ha.2 h1), if_neg (fun h => h2 (hb.1 h))]
 · by_cases h2 : b % 2 = 0
   · rw [if_neg (fun h => h1 (by have := hab.1 h; omega)), if_neg (fun h => h1 (ha.1 h)), if_pos (hb.2 h2)]
   · rw [if_pos (hab.2 (by omega)), if_neg (fun h => h1 (ha.1 h)), if_neg (fun h => h2 (hb.1 h)), map_trn2]
theorem tk_app {n : Nat} (k : Int) (l m : List (Pm n)) : tk k (l ++ m) = tk k l ++ tk k m := by
 unfold tk
 split
 · rfl
 · rw [List.map_append]
theorem tk_one {n : Nat} (k : Int) (m : Pm n) : tk k [m] = [t1 k m] := by
 unfold tk t1; split <;> rfl
theorem tk_zero {n : Nat} (l : List (Pm n)) : tk 0 l = l := rfl
theorem K_eq {n : Nat} (x : Pm n) : (Pm.lat n).K x = x⁻¹ * Pm.half n := rfl
theorem half_l {n : Nat} (x : Pm n) : Pm.half n * (Pm.half n * x) = x := by rw [← Grp.assoc, Pm.half_half, Grp.one_mul]
theorem trn_K {n : Nat} (x : Pm n) : ((Pm.lat n).K x)⁻¹ * Pm.half n = trn x := by
 rw [K_eq, mul_inv_rev, inv_inv, Pm.half_inv, Grp.assoc]
 rfl
theorem x_K {n : Nat} (x : Pm n) : x * (Pm.lat n).K x = Pm.half n := mul_inv_l x _
theorem nf_D1 {n : Nat} (x : Pm n) (Y : List (Pm n)) : (Pm.lat n).nf (x :: Pm.half n :: Y) = (Pm.lat n).nf (Pm.half n :: trn x :: Y) := by
 have h := Lat.nf_move (Γ := Pm.lat n) (p := []) (q := Y) (x := x) (y := Pm.half n) (c := (Pm.lat n).K x) trivial trivial trivial ((Pm.lat n).refl trivial) ((Pm.lat n).le_D trivial) (allS _); rw [x_K, trn_K] at h; exact h
theorem nf_D {n : Nat} : ∀ (X Y : List (Pm n)), (Pm.lat n).nf (X ++ Pm.half n :: Y) = (Pm.lat n).nf (Pm.half n :: (X.map trn ++ Y))
 | [], Y => rfl
 | x :: X, Y => by
  rw [List.cons_append, Lat.nf_cons, nf_D X Y, ← Lat.nf_cons, nf_D1]
  rfl
theorem nf_Dk {n : Nat} : ∀ (i : Nat) (X Y : List (Pm n)), (Pm.lat n).nf (X ++ ((Pm.lat n).Ds i ++ Y)) = (Pm.lat n).nf ((Pm.lat n).Ds i ++ (tk (i : Int) X ++ Y))
 | 0, X, Y => rfl
 | i + 1, X, Y => by
  have e : (Pm.lat n).Ds (i + 1) = Pm.half n :: (Pm.lat n).Ds i := rfl; rw [e, List.cons_append, nf_D, Lat.nf_cons, nf_Dk i, ← Lat.nf_cons, List.cons_append]; rw [show ((i + 1 : Nat) : Int) = (i : Int) + 1 by omega, tk_add]
  rfl
theorem Ds_add {n : Nat} (i j : Nat) (Y : List (Pm n)) : (Pm.lat n).Ds i ++ ((Pm.lat n).Ds j ++ Y) = (Pm.lat n).Ds (i + j) ++ Y := by
 rw [← List.append_assoc]; simp only [Lat.Ds, List.replicate_append_replicate]
theorem mk_pre {n : Nat} (h2 : 2 ≤ n) (q : Int) (X Y : List (Pm n)) : mk (q + (((Pm.lat n).norm Y).1 : Nat)) (tk (((Pm.lat n).norm Y).1 : Nat) X ++ ((Pm.lat n).norm Y).2) = mk q (X ++ Y) := by
 obtain ⟨j, e, hP, _⟩ := Lat.norm_spec (half_ne h2) (allS Y); generalize (Pm.lat n).norm Y = z at e hP ⊢; obtain ⟨i, A⟩ := z; simp only at e hP ⊢; obtain ⟨j', e', hP', _⟩ := Lat.norm_spec (half_ne h2) (allS (tk (i : Int) X ++ A)); have h : (Pm.lat n).nf (X ++ Y) = (Pm.lat n).Ds (i + ((Pm.lat n).norm (tk (i : Int) X ++ A)).1) ++ ((Pm.lat n).norm (tk (i : Int) X ++ A)).2 ++ Lat.ones (j' + j) := by
  rw [← Lat.nf_app_r (allS Y), e, List.append_assoc, nf_Dk, Lat.nf_Ds i (allS _), ← List.append_assoc (tk (i : Int) X)]; have ho := Lat.nf_ones (Γ := Pm.lat n) (X := tk (i : Int) X ++ A) (Y := []) j (allS _) (allS _); rw [List.append_nil, List.append_nil] at ho; rw [ho, e']; rw [← Ds_add]; simp only [Lat.ones, ← List.replicate_append_replicate, List.append_assoc]
 have hn := Lat.norm_of (half_ne h2) h hP'; simp only [mk, hn]; congr 1; omega
theorem nf_1 {n : Nat} {A : List (Pm n)} (hP : (Pm.lat n).Proper A) : (Pm.lat n).nf (1 :: A) = A ++ [1] := by
 rw [Lat.nf_cons, Lat.nf_fix hP.W, Lat.L_one hP.S]
theorem less1_back {n : Nat} (h2 : 2 ≤ n) (v : Nm n) (hP : (Pm.lat n).Proper v.2) (m : Pm n) : mk (less1 v m).1 (t1 (less1 v m).1 m :: (less1 v m).2) = v := by
 have h := mk_pre h2 (v.1 - 1) (tk (v.1 - 1) [m]) (t1 v.1 (Pm.half n * m⁻¹) :: v.2); rw [← tk_add, Int.add_comm ((((Pm.lat n).norm (t1 v.1 (Pm.half n * m⁻¹) :: v.2)).1 : Nat) : Int), tk_one, tk_one] at h; have e : mk (less1 v m).1 (t1 (less1 v m).1 m :: (less1 v m).2) = mk (v.1 - 1) ([t1 (v.1 - 1) m] ++ t1 v.1 (Pm.half n * m⁻¹) :: v.2) := h; rw [e]; have hK : t1 v.1 (Pm.half n * m⁻¹) = (Pm.lat n).K (t1 (v.1 - 1) m) := by
  have ha := par v.1; have hb := par (v.1 - 1); rw [K_eq]; unfold t1
  by_cases h1 : v.1 % 2 = 0
  · rw [if_pos (ha.2 h1), if_neg (fun h => by have := hb.1 h; omega)]; unfold trn; simp only [mul_inv_rev, Pm.half_inv, Grp.assoc, Pm.half_half, Grp.mul_one]
  · rw [if_neg (fun h => h1 (ha.1 h)), if_pos (hb.2 (by omega))]; unfold trn; simp only [Grp.assoc, half_l]
 rw [hK]; have hm := Lat.nf_move (Γ := Pm.lat n) (p := []) (q := v.2) (x := t1 (v.1 - 1) m) (y := (Pm.lat n).K (t1 (v.1 - 1) m)) (c := (Pm.lat n).K (t1 (v.1 - 1) m)) trivial trivial trivial ((Pm.lat n).refl trivial) ((Pm.lat n).refl trivial) (allS _); rw [x_K, Grp.inv_mul] at hm; have hd : (Pm.lat n).nf (Pm.half n :: 1 :: v.2) = (Pm.lat n).Ds 1 ++ v.2 ++ Lat.ones 1 := by
  have := Lat.nf_Ds (Γ := Pm.lat n) 1 (Y := 1 :: v.2) (allS _); rw [nf_1 hP] at this; simp only [List.append_assoc]; exact this
 have hn := Lat.norm_of (half_ne h2) (hm.trans hd) hP; have hn' : (Pm.lat n).norm ([t1 (v.1 - 1) m] ++ (Pm.lat n).K (t1 (v.1 - 1) m) :: v.2) = (1, v.2) := hn; simp only [mk, hn']; obtain ⟨p, A⟩ := v; simp only; congr 1; omega
noncomputable def hd {n : Nat} (v : Nm n) : Pm n := if 0 < v.1 then Pm.half n else v.2.headD 1
theorem hd_mk {n : Nat} (h2 : 2 ≤ n) (Y : List (Pm n)) : hd (mk 0 Y) = ((Pm.lat n).nf Y).headD 1 := by
 obtain ⟨j, e, hP, _⟩ := Lat.norm_spec (half_ne h2) (allS Y); unfold hd mk; generalize (Pm.lat n).norm Y = z at e hP ⊢; obtain ⟨i, A⟩ := z; simp only at e hP ⊢; rw [e]
 cases i with
 | zero =>
  rw [if_neg (by omega)]
  cases A with
  | nil => cases j <;> rfl
  | cons a A => rfl
 | succ i =>
  rw [if_pos (by omega)]
  rfl
theorem hd_less {n : Nat} (h2 : 2 ≤ n) (v : Nm n) (hP : (Pm.lat n).Proper v.2) (m : Pm n) (h0 : 0 ≤ (less1 v m).1) : hd v = m * (Pm.lat n).meet ((Pm.lat n).K m) (hd (less1 v m)) := by
 have hb := less1_back h2 v hP m; have hP' : (Pm.lat n).Proper (less1 v m).2 := (mk_spec h2 _ _).1; generalize less1 v m = w at hb h0 hP' ⊢; obtain ⟨q, B⟩ := w; simp only at hb h0 hP'
 by_cases h : 0 < q
 · have hs := (mk_spec h2 q (t1 q m :: B)).2.1; rw [hb] at hs; unfold hd; rw [if_pos (by omega), if_pos h, show Pm.half n = (Pm.lat n).D from rfl, Lat.meet_D_r (Γ := Pm.lat n) trivial]; exact (x_K m).symm
 · have h00 : q = 0 := by omega
   subst h00; have ht : t1 0 m = m := rfl; rw [ht] at hb; rw [← hb, hd_mk h2, Lat.nf_cons, Lat.nf_fix hP'.W]
   cases B with
   | nil =>
    show m = m * (Pm.lat n).meet ((Pm.lat n).K m) 1; rw [Lat.meet_one_r (Γ := Pm.lat n) trivial, Grp.mul_one]
   | cons b B => rfl
theorem less_pos {n : Nat} (h2 : 2 ≤ n) (v : Nm n) (h0 : 0 ≤ v.1) (m : Pm n) (hm : m ≠ 1) (hle : (Pm.lat n).le m (hd v)) : 0 ≤ (less1 v m).1 := by
 obtain ⟨p, A⟩ := v; have hs := (mk_spec h2 (p - 1) (t1 p (Pm.half n * m⁻¹) :: A)).2.1
 by_cases h : 0 < p
 · have : p - 1 ≤ (less1 (p, A) m).1 := hs; omega
 · have h00 : p = 0 := by simp only at h0; omega
   subst h00
   cases A with
   | nil => exact (hm (Lat.le_one (Γ := Pm.lat n) trivial hle)).elim
   | cons a A =>
    have hle' : (Pm.lat n).le m a := hle; have hK : (Pm.lat n).K (Pm.half n * m⁻¹) = m := by
     rw [K_eq, mul_inv_rev, inv_inv, Pm.half_inv, Grp.assoc, Pm.half_half, Grp.mul_one]
    have hmv := Lat.nf_move (Γ := Pm.lat n) (p := []) (q := A) (x := Pm.half n * m⁻¹) (y := a) (c := m) trivial trivial trivial (by rw [hK]; exact (Pm.lat n).refl trivial) hle' (allS _); rw [inv_mul_r] at hmv; have hd := Lat.nf_Ds (Γ := Pm.lat n) 1 (Y := (m⁻¹ * a) :: A) (allS _); have e : (Pm.lat n).nf (Pm.half n * m⁻¹ :: a :: A) = Pm.half n :: (Pm.lat n).nf ((m⁻¹ * a) :: A) := hmv.trans hd; have hn : ((Pm.lat n).norm (Pm.half n * m⁻¹ :: a :: A)).1 = ((Pm.lat n).fr ((Pm.lat n).nf ((m⁻¹ * a) :: A))).1 + 1 := by
     unfold Lat.norm; rw [e]; simp only [Lat.fr]; rw [if_pos (show Pm.half n = (Pm.lat n).D from rfl)]
    show 0 ≤ (0 : Int) - 1 + (((Pm.lat n).norm (t1 0 (Pm.half n * m⁻¹) :: a :: A)).1 : Nat); have ht : t1 0 (Pm.half n * m⁻¹) = Pm.half n * m⁻¹ := rfl; rw [ht, hn]; omega
theorem put_keeps {n : Nat} : ∀ (A : List (Pm n)) (s : Pm n), (Pm.lat n).Wd A → (∀ x ∈ A, x ≠ 1) →
  ∃ B r, (Pm.lat n).pass (A ++ [s]) = B ++ [r] ∧ B.length = A.length ∧ (∀ x ∈ B, x ≠ 1) ∧ (∀ a, A.head? = some a → ∃ x, B.head? = some x ∧ (Pm.lat n).le a x)
 | [], s, _, _ => ⟨[], s, rfl, rfl, fun x hx => by simp at hx, fun a h => by simp at h⟩
 | a :: A, s, hW, hn => by
  obtain ⟨B, r, e, hl, hB, hh⟩ := put_keeps A s hW.2 (fun x hx => hn x (List.mem_cons_of_mem _ hx)); have ha : ∀ c, (Pm.lat n).le c ((Pm.lat n).K a) → (Pm.lat n).le a (a * c) ∧ a * c ≠ 1 := fun c hc => by
   have := (Lat.P1 (Γ := Pm.lat n) trivial trivial hc).2; refine ⟨this, fun h1 => ?_⟩; rw [h1] at this; exact hn a List.mem_cons_self (Lat.le_one (Γ := Pm.lat n) trivial this)
  have hp : (Pm.lat n).pass (a :: A ++ [s]) = (Pm.lat n).step1 a (B ++ [r]) := by
   rw [List.cons_append]; show (Pm.lat n).step1 a ((Pm.lat n).pass (A ++ [s])) = _; rw [e]
  cases B with
  | nil =>
   have hc := ha _ ((Pm.lat n).meet_l (x := (Pm.lat n).K a) (y := r) trivial trivial)
   refine ⟨[a * (Pm.lat n).meet ((Pm.lat n).K a) r], ((Pm.lat n).meet ((Pm.lat n).K a) r)⁻¹ * r, hp, by simp only [List.length_cons, List.length_nil] at hl ⊢; omega, fun x hx => ?_, fun a' h => ?_⟩
   · rw [List.mem_singleton] at hx; rw [hx]; exact hc.2
   · simp only [List.head?_cons, Option.some.injEq] at h; subst h; exact ⟨_, rfl, hc.1⟩
  | cons x B =>
   have hc := ha _ ((Pm.lat n).meet_l (x := (Pm.lat n).K a) (y := x) trivial trivial)
   refine ⟨(a * (Pm.lat n).meet ((Pm.lat n).K a) x) :: (((Pm.lat n).meet ((Pm.lat n).K a) x)⁻¹ * x) :: B, r, hp, by simp only [List.length_cons, List.length_nil] at hl ⊢; omega, fun y hy => ?_, fun a' h => ?_⟩
   · rcases List.mem_cons.1 hy with h | hy
     · rw [h]; exact hc.2
     · rcases List.mem_cons.1 hy with h | hy
       · rw [h]; intro h1; have hx : x = (Pm.lat n).meet ((Pm.lat n).K a) x := by
          have := congrArg (fun z => (Pm.lat n).meet ((Pm.lat n).K a) x * z) h1; simp only [mul_inv_l, Grp.mul_one] at this; exact this
         cases A with
         | nil => simp at hl
         | cons a2 A =>
          obtain ⟨x', hx', hle⟩ := hh a2 rfl; simp only [List.head?_cons, Option.some.injEq] at hx'; subst hx'; have h3 : (Pm.lat n).le a2 ((Pm.lat n).K a) := by
           rw [hx] at hle; exact (Pm.lat n).trans trivial trivial trivial hle ((Pm.lat n).meet_l trivial trivial)
          have h4 := Lat.meet_le (Γ := Pm.lat n) (x := (Pm.lat n).K a) (y := a2) (z := a2) trivial trivial trivial h3 ((Pm.lat n).refl trivial) (hW.1 a2 rfl); exact hn a2 (by simp) h4
       · exact hB y (List.mem_cons_of_mem _ hy)
   · simp only [List.head?_cons, Option.some.injEq] at h; subst h; exact ⟨_, rfl, hc.1⟩
theorem norm_one {n : Nat} (h2 : 2 ≤ n) (X Y : List (Pm n)) : (Pm.lat n).norm (X ++ [1] ++ Y) = (Pm.lat n).norm (X ++ Y) := by
 obtain ⟨j, e, hP, _⟩ := Lat.norm_spec (half_ne h2) (allS (X ++ Y)); have ho := Lat.nf_ones (Γ := Pm.lat n) (X := X) (Y := Y) 1 (allS _) (allS _); have h : (Pm.lat n).nf (X ++ [1] ++ Y) = (Pm.lat n).Ds ((Pm.lat n).norm (X ++ Y)).1 ++ ((Pm.lat n).norm (X ++ Y)).2 ++ Lat.ones (j + 1) := by
  have ho' : (Pm.lat n).nf (X ++ [1] ++ Y) = (Pm.lat n).nf (X ++ Y) ++ Lat.ones 1 := ho; rw [ho', e]; simp only [Lat.ones, ← List.replicate_append_replicate, List.append_assoc]
 exact Lat.norm_of (half_ne h2) h hP
theorem sup_ge {n : Nat} (h2 : 2 ≤ n) : ∀ (X A : List (Pm n)), (Pm.lat n).Wd A → (∀ x ∈ A, x ≠ 1) → A.length ≤ ((Pm.lat n).norm (A ++ X)).1 + ((Pm.lat n).norm (A ++ X)).2.length
 | [], A, hW, hn => by
  obtain ⟨j, e, hP, _⟩ := Lat.norm_spec (half_ne h2) (allS A); rw [Lat.nf_fix hW] at e; rw [List.append_nil]
  cases j with
  | zero =>
   have := congrArg List.length e; simp only [List.length_append, List.length_replicate, Lat.ones, Lat.Ds] at this; omega
  | succ j =>
   exact (hn 1 (by rw [e]; simp [Lat.ones]) rfl).elim
 | s :: X, A, hW, hn => by
  obtain ⟨B, r, e, hl, hB, _⟩ := put_keeps A s hW hn; have hpn := Lat.pass_nf (Γ := Pm.lat n) (s := s) (allS A) trivial hW; have hWB : (Pm.lat n).Wd (B ++ [r]) := by rw [← e]; exact Lat.pass_put (allS A) trivial hW
  have hnn : (Pm.lat n).norm (A ++ s :: X) = (Pm.lat n).norm (B ++ [r] ++ X) := by
   rw [← e, hpn]; unfold Lat.norm; rw [Lat.nf_app_l (allS _) (allS _), List.append_assoc]
   rfl
  rw [hnn]
  by_cases hr : r = 1
  · subst hr; rw [norm_one h2, ← hl]; exact sup_ge h2 X B (Wd_left hWB) hB
  · have := sup_ge h2 X (B ++ [r]) hWB (fun x hx => by
     rcases List.mem_append.1 hx with h | h
     · exact hB x h
     · rw [List.mem_singleton.1 h]; exact hr)
    rw [List.length_append] at this; omega
theorem Wd_snoc {n : Nat} : ∀ (M : List (Pm n)) (s : Pm n), (Pm.lat n).Wd M → (∀ m, M.getLast? = some m → (Pm.lat n).meet ((Pm.lat n).K m) s = 1) → (Pm.lat n).Wd (M ++ [s])
 | [], s, _, _ => ⟨fun b h => by simp at h, trivial⟩
 | [a], s, _, h => ⟨fun b hb => by
   have hb' : some s = some b := hb
   cases hb'
   exact h a rfl, fun b h => by simp at h, trivial⟩
 | a :: b :: M, s, hW, h => ⟨fun c hc => hW.1 c (by simpa using hc), Wd_snoc (b :: M) s hW.2 (fun m hm => h m (by simpa using hm))⟩
theorem mk_D {n : Nat} (h2 : 2 ≤ n) (p : Int) : mk p [Pm.half n] = (p + 1, []) := by
 have hn : (Pm.lat n).norm [Pm.half n] = (1, []) := Lat.norm_of (half_ne h2) (i := 1) (j := 0) (by rfl) Lat.Proper.nil; simp only [mk, hn]
 rfl
end Go.Ev.YtfkpbhbghbhmgaaGreat
namespace Go.Ev.YtfkpbhbghbhmgaaGreat
open Go.Ev Go.Gar
abbrev eN (n : Nat) : Nm n := (0, [])
theorem tk_nil {n : Nat} (k : Int) : tk k ([] : List (Pm n)) = [] := by unfold tk; split <;> rfl
theorem prod_assoc {n : Nat} (h2 : 2 ≤ n) (u v w : Nm n) : prod (prod u v) w = prod u (prod v w) := by
 obtain ⟨p, X⟩ := u; obtain ⟨q, Y⟩ := v; obtain ⟨r, Z⟩ := w; have h1 := mk_tk h2 (p + q + r) r (tk q X ++ Y) Z; have e2 := mk_pre h2 (p + q + r) (tk (q + r) X) (tk r Y ++ Z); rw [← tk_add] at e2; rw [tk_app, ← tk_add, List.append_assoc] at h1; have l : prod (prod (p, X) (q, Y)) (r, Z) = mk (p + q + r + (((Pm.lat n).norm (tk q X ++ Y)).1 : Nat)) (tk r ((Pm.lat n).norm (tk q X ++ Y)).2 ++ Z) := by
  unfold prod; simp only [mk]; rw [show p + q + (((Pm.lat n).norm (tk q X ++ Y)).1 : Int) + r = p + q + r + (((Pm.lat n).norm (tk q X ++ Y)).1 : Int) by omega]
 have r' : prod (p, X) (prod (q, Y) (r, Z)) = mk (p + q + r + (((Pm.lat n).norm (tk r Y ++ Z)).1 : Nat)) (tk ((((Pm.lat n).norm (tk r Y ++ Z)).1 : Nat) + (q + r)) X ++ ((Pm.lat n).norm (tk r Y ++ Z)).2) := by
  unfold prod; simp only [mk]; rw [show p + (q + r + (((Pm.lat n).norm (tk r Y ++ Z)).1 : Int)) = p + q + r + (((Pm.lat n).norm (tk r Y ++ Z)).1 : Int) by omega, show q + r + (((Pm.lat n).norm (tk r Y ++ Z)).1 : Int) = (((Pm.lat n).norm (tk r Y ++ Z)).1 : Int) + (q + r) by omega]
 rw [l, r', h1, e2, Int.add_comm r q]
theorem e_prod {n : Nat} (h2 : 2 ≤ n) {v : Nm n} (hP : (Pm.lat n).Proper v.2) : prod (eN n) v = v := by
 unfold prod; rw [tk_nil, List.nil_append, Int.zero_add, mk_proper h2 _ hP]
theorem prod_e {n : Nat} (h2 : 2 ≤ n) {v : Nm n} (hP : (Pm.lat n).Proper v.2) : prod v (eN n) = v := by
 unfold prod; rw [tk_zero, List.append_nil, Int.add_zero, mk_proper h2 _ hP]
theorem prod_P {n : Nat} (h2 : 2 ≤ n) (v w : Nm n) : (Pm.lat n).Proper (prod v w).2 := (mk_spec h2 _ _).1
noncomputable def isN {n : Nat} (s : Pm n) : Nm n := mk (-1) [Pm.half n * s⁻¹]
theorem isN_P {n : Nat} (h2 : 2 ≤ n) (s : Pm n) : (Pm.lat n).Proper (isN s).2 := (mk_spec h2 (-1) [Pm.half n * s⁻¹]).1
noncomputable def sN {n : Nat} (s : Pm n) : Nm n := mk 0 [s]
theorem prod_mk {n : Nat} (h2 : 2 ≤ n) (v : Nm n) (q : Int) (Y : List (Pm n)) : prod v (mk q Y) = mk (v.1 + q) (tk q v.2 ++ Y) := by
 have h := mk_pre h2 (v.1 + q) (tk q v.2) Y; rw [← tk_add] at h; rw [← h]; unfold prod; simp only [mk]; rw [show v.1 + (q + (((Pm.lat n).norm Y).1 : Int)) = v.1 + q + (((Pm.lat n).norm Y).1 : Int) by omega, Int.add_comm q]
theorem mk_mk {n : Nat} (h2 : 2 ≤ n) (p q : Int) (X Y : List (Pm n)) : prod (mk p X) (mk q Y) = mk (p + q) (tk q X ++ Y) := by
 rw [prod_mk h2]; have h := mk_tk h2 (p + q) q X Y; rw [← h]; simp only [mk]; rw [show p + (((Pm.lat n).norm X).1 : Int) + q = p + q + (((Pm.lat n).norm X).1 : Int) by omega]
theorem mk_xK {n : Nat} (h2 : 2 ≤ n) (x : Pm n) : mk (-1) [x, (Pm.lat n).K x] = eN n := by
 have hm := Lat.nf_move (Γ := Pm.lat n) (p := []) (q := []) (x := x) (y := (Pm.lat n).K x) (c := (Pm.lat n).K x) trivial trivial trivial ((Pm.lat n).refl trivial) ((Pm.lat n).refl trivial) (allS _); rw [x_K, Grp.inv_mul] at hm; have hd : (Pm.lat n).nf [Pm.half n, 1] = (Pm.lat n).Ds 1 ++ [] ++ Lat.ones 1 := by
  have := Lat.nf_Ds (Γ := Pm.lat n) 1 (Y := [1]) (allS _); rw [nf_1 Lat.Proper.nil] at this; exact this
 have hn := Lat.norm_of (half_ne h2) (hm.trans hd) Lat.Proper.nil; have hn' : (Pm.lat n).norm [x, (Pm.lat n).K x] = (1, []) := hn; simp only [mk, hn']
 rfl
theorem K_left {n : Nat} (s : Pm n) : (Pm.lat n).K (Pm.half n * s⁻¹) = s := by
 rw [K_eq, mul_inv_rev, inv_inv, Pm.half_inv, Grp.assoc, Pm.half_half, Grp.mul_one]
theorem is_s {n : Nat} (h2 : 2 ≤ n) (s : Pm n) : prod (isN s) (sN s) = eN n := by
 have h := mk_xK h2 (Pm.half n * s⁻¹); rw [K_left] at h; rw [← h]; exact mk_mk h2 (-1) 0 _ _
theorem s_is {n : Nat} (h2 : 2 ≤ n) (s : Pm n) : prod (sN s) (isN s) = eN n := by
 have h := mk_xK h2 (trn s); have e : (Pm.lat n).K (trn s) = Pm.half n * s⁻¹ := by
  rw [K_eq]; unfold trn; simp only [mul_inv_rev, Pm.half_inv, Grp.assoc, Pm.half_half, Grp.mul_one]
 rw [e] at h; rw [← h]; exact mk_mk h2 0 (-1) _ _
theorem stepI_eq {n : Nat} (h2 : 2 ≤ n) (w : Nm n) (s : Pm n) : stepI w s = prod w (isN s) := (prod_mk h2 w (-1) _).symm
theorem foldI_P {n : Nat} (h2 : 2 ≤ n) : ∀ (l : List (Pm n)) (w : Nm n), (Pm.lat n).Proper w.2 → (Pm.lat n).Proper (l.foldl stepI w).2
 | [], w, h => h
 | s :: l, w, h => foldI_P h2 l _ (by rw [stepI_eq h2]; exact prod_P h2 _ _)
noncomputable def FA {n : Nat} (A : List (Pm n)) : Nm n := A.reverse.foldl stepI (eN n)
theorem FA_P {n : Nat} (h2 : 2 ≤ n) (A : List (Pm n)) : (Pm.lat n).Proper (FA A).2 := foldI_P h2 _ _ Lat.Proper.nil
theorem FA_cons {n : Nat} (h2 : 2 ≤ n) (s : Pm n) (A : List (Pm n)) : FA (s :: A) = prod (FA A) (isN s) := by
 unfold FA; rw [List.reverse_cons, List.foldl_append, List.foldl_cons, List.foldl_nil, stepI_eq h2]
theorem PA_cons {n : Nat} (h2 : 2 ≤ n) (s : Pm n) (A : List (Pm n)) : mk 0 (s :: A) = prod (sN s) (mk 0 A) := (mk_mk h2 0 0 [s] A).symm
theorem FA_PA {n : Nat} (h2 : 2 ≤ n) : ∀ A : List (Pm n), prod (FA A) (mk 0 A) = eN n ∧ prod (mk 0 A) (FA A) = eN n
 | [] => by
  have h : mk 0 ([] : List (Pm n)) = eN n := mk_nil 0; have h' : FA ([] : List (Pm n)) = eN n := rfl; rw [h, h']; exact ⟨e_prod h2 Lat.Proper.nil, e_prod h2 Lat.Proper.nil⟩
 | s :: A => by
  obtain ⟨i1, i2⟩ := FA_PA h2 A; rw [FA_cons h2, PA_cons h2]
  constructor
  · rw [prod_assoc h2, ← prod_assoc h2 (isN s), is_s h2, e_prod h2 (mk_spec h2 _ _).1, i1]
  · rw [prod_assoc h2, ← prod_assoc h2 (mk 0 A), i2, e_prod h2 (isN_P h2 s), s_is h2]
theorem invN_eq {n : Nat} (h2 : 2 ≤ n) (v : Nm n) : invN v = prod (FA v.2) (-v.1, []) := by
 unfold prod; rw [tk_neg_eq, List.append_nil, mk_proper h2 _ (tk_proper _ (FA_P h2 _))]
 rfl
theorem v_eq {n : Nat} (h2 : 2 ≤ n) {v : Nm n} (hP : (Pm.lat n).Proper v.2) : v = prod (v.1, []) (mk 0 v.2) := by
 rw [mk_proper h2 0 hP]; unfold prod; rw [tk_nil, List.nil_append, mk_proper h2 _ hP, Int.add_zero]
theorem D_D {n : Nat} (h2 : 2 ≤ n) (p q : Int) (h : p + q = 0) : prod ((p, []) : Nm n) (q, []) = eN n := by
 unfold prod; rw [tk_nil, List.append_nil, h]; exact mk_nil 0
theorem inv_l {n : Nat} (h2 : 2 ≤ n) {v : Nm n} (hP : (Pm.lat n).Proper v.2) : prod (invN v) v = eN n := by
 rw [invN_eq h2]; have hv := v_eq h2 hP; have : prod (prod (FA v.2) (-v.1, [])) v = prod (prod (FA v.2) (-v.1, [])) (prod (v.1, []) (mk 0 v.2)) := by rw [← hv]
 rw [this, prod_assoc h2, ← prod_assoc h2 (-v.1, []), D_D h2 _ _ (by omega), e_prod h2 (mk_spec h2 _ _).1, (FA_PA h2 _).1]
theorem inv_r {n : Nat} (h2 : 2 ≤ n) {v : Nm n} (hP : (Pm.lat n).Proper v.2) : prod v (invN v) = eN n := by
 rw [invN_eq h2]; have hv := v_eq h2 hP; have : prod v (prod (FA v.2) (-v.1, [])) = prod (prod (v.1, []) (mk 0 v.2)) (prod (FA v.2) (-v.1, [])) := by rw [← hv]
 rw [this, prod_assoc h2, ← prod_assoc h2 (mk 0 v.2), (FA_PA h2 _).2, e_prod h2 Lat.Proper.nil, D_D h2 _ _ (by omega)]
theorem invN_P {n : Nat} (h2 : 2 ≤ n) (v : Nm n) : (Pm.lat n).Proper (invN v).2 := by rw [invN_eq h2]; exact prod_P h2 _ _
end Go.Ev.YtfkpbhbghbhmgaaGreat
