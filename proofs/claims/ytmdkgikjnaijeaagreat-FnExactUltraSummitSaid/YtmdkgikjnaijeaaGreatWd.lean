/- Texts merged: MnA MnC MnD MnE MnF MnG MnK. -/
import Derived.Test.YtmdkgikjnaijeaaGreatWc
set_option linter.unusedVariables false
set_option linter.unusedSimpArgs false
namespace Go.Ev.YtmdkgikjnaijeaaGreat
open Go.Ev Go.Gar
def t1 {n : Nat} (p : Int) (s : Pm n) : Pm n := if p.tmod 2 = 0 then s else trn s
theorem zQ4 {n : Nat} (k : Int) (s : Pm n) (l : List (Pm n)) : tk k (s :: l) = t1 k s :: tk k l := by
 unfold tk t1; split <;> rfl
noncomputable def cyc {n : Nat} (v : Nm n) : Nm n := if v.2.length = 0 then v else mk v.1 (v.2.drop 1 ++ [t1 v.1 (v.2.getD 0 1)])
noncomputable def decyc {n : Nat} (v : Nm n) : Nm n := if v.2.length = 0 then v else mk v.1 (t1 v.1 (v.2.getD (v.2.length - 1) 1) :: v.2.take (v.2.length - 1))
noncomputable def less1 {n : Nat} (v : Nm n) (s : Pm n) : Nm n := mk (v.1 - 1) (t1 v.1 (Pm.half n * s⁻¹) :: v.2)
noncomputable def conj1 {n : Nat} (v : Nm n) (s : Pm n) : Nm n := mk (less1 v s).1 ((less1 v s).2 ++ [s])
structure Rel {n : Nat} (w v : Nm n) : Prop where
 P : (Pm.lat n).Proper w.2
 lo : v.1 ≤ w.1
 hi : w.1 + w.2.length ≤ v.1 + v.2.length
 one : n = 1 → w = (0, [])
theorem Rel.refl {n : Nat} {v : Nm n} {b : Nat} (h : OkN v b) : Rel v v := ⟨h.P, Int.le_refl _, Int.le_refl _, h.one⟩
theorem Rel.ok {n : Nat} {w v : Nm n} {b : Nat} (h : Rel w v) (hv : OkN v b) : OkN w (2 * b) := by
 have a1 := hv.len; have a2 := hv.lo; have a3 := hv.hi; have b1 := h.lo; have b2 := h.hi; exact ⟨h.P, by omega, by omega, by omega, h.one⟩
theorem Rel.trans {n : Nat} {u w v : Nm n} (h : Rel u w) (h' : Rel w v) : Rel u v :=
 ⟨h.P, Int.le_trans h'.lo h.lo, Int.le_trans h.hi h'.hi, h.one⟩
theorem zJ2 {n : Nat} (hn1 : 1 ≤ n) {v : Nm n} (h1 : n = 1 → v = (0, [])) (h : v.2.length ≠ 0) : 2 ≤ n := by
 by_cases h2 : n = 1
 · rw [h1 h2] at h; simp at h
 · omega
theorem zLH {n : Nat} (hn1 : 1 ≤ n) {w v : Nm n} (h : Rel w v) : Rel (cyc w) v := by
 unfold cyc
 split
 · exact h
 · rename_i h0; have h2 := zJ2 hn1 h.one h0; have hm := kf h2 w.1 (w.2.drop 1 ++ [t1 w.1 (w.2.getD 0 1)]); simp only [List.length_append, List.length_drop, List.length_cons, List.length_nil] at hm; have b1 := h.lo; have b2 := h.hi; exact ⟨hm.1, by omega, by omega, fun h' => by omega⟩
theorem zEY {n : Nat} (hn1 : 1 ≤ n) {w v : Nm n} (h : Rel w v) : Rel (decyc w) v := by
 unfold decyc
 split
 · exact h
 · rename_i h0; have h2 := zJ2 hn1 h.one h0; have hm := kf h2 w.1 (t1 w.1 (w.2.getD (w.2.length - 1) 1) :: w.2.take (w.2.length - 1)); simp only [List.length_cons, List.length_take] at hm; have b1 := h.lo; have b2 := h.hi; exact ⟨hm.1, by omega, by omega, fun h' => by omega⟩
theorem zUP {n : Nat} {l : List (Pm n)} {i : Nat} (h : i < l.length) : l.getD i 1 = l[i] := by
 simp [List.getD_eq_getElem?_getD, List.getElem?_eq_getElem h]
theorem zKr {n : Nat} {l : List (Pm n)} {i : Nat} (h : i < l.length) : List.getD (sL l) i (List.replicate 8 0) = sA (l.getD i 1) := by
 rw [zBS h, zUP h]
theorem zQd (n : Nat) (hn : n ≤ 8) (v : Nm n) (h0 : 0 < v.2.length) : R zFi [zA (enc v)] = some [tA8 (sA (t1 v.1 (v.2.getD 0 1)))] := by
 apply zNP; have h1 : ((0 : Int) < ((sL v.2).length : Nat)) := by rw [zT]; omega
 simp only [zFz, enc, decide_eq_true h1, cond_true, zKr h0, zJH n hn, Option.bind_some, getTV_here, kQ, t1]; rw [zT] at h1; by_cases h : v.1.tmod 2 = 0 <;> simp [h, h0, zT]
theorem zPb (n : Nat) (hn : n ≤ 8) (s : Pm n) (v : Nm n) : R zGf [tA8 (sA s), zA (enc v)] = some [tA8 (sA (t1 v.1 s))] := by
 apply zQr; simp only [zJS, enc, zTa n hn, Option.bind_some, getTV_here, kQ, t1]; by_cases h : v.1.tmod 2 = 0 <;> simp [h]
theorem beq0 {n : Nat} (l : List (Pm n)) : ((((sL l).length : Nat) : Int) == 0) = decide (l.length = 0) := by
 rw [zT, zDz]; by_cases h : l.length = 0 <;> simp [h]
theorem zV3 {n : Nat} (l : List (Pm n)) : (((l.length : Nat) : Int) == 0) = decide (l.length = 0) := by
 rw [zDz]; by_cases h : l.length = 0 <;> simp [h]
theorem zHM (n : Nat) (hn1 : 1 ≤ n) (hn : n ≤ 8) (v : Nm n) (hv : OkN v 100000) : R zAJ [zA (enc v)] = some [zA (enc (cyc v))] := by
 have a1 := hv.len; have a2 := hv.lo; have a3 := hv.hi; apply zNQ; unfold cyc
 by_cases h : v.2.length = 0
 · simp only [zDv, enc, beq0, decide_eq_true h, cond_true, if_pos h]
 · have h2 := zJ2 hn1 hv.one h; have h1 : ((1 : Int) ≤ ((sL v.2).length : Nat)) := by rw [zT]; omega
   have hf := zQd n hn v (by omega); have hm := zGt n hn1 hn (v.2.drop 1 ++ [t1 v.1 (v.2.getD 0 1)]) (by simp; omega) (fun h' => by omega) v.1 (by omega) (by omega); simp only [enc] at hf hm ⊢
   simp only [zDv, beq0, decide_eq_false h, cond_false, decide_eq_true h1, cond_true, zNp, zQm (ys := sL (v.2.drop 1)) (by rw [zT]; simp; omega), hf, Option.bind_some, getTV_here,
    zJx (xs := sL (v.2.drop 1)) (x := sA (t1 v.1 (v.2.getD 0 1))) (by rw [zT]; simp; omega), zIe, hm, if_neg h]
theorem zIi {n : Nat} {A : List (Pm n)} (h : (Pm.lat n).Proper A) : (Pm.lat n).Proper (A.drop 1) := by
 cases A with
 | nil => exact h
 | cons a A => exact ⟨allS _, h.W.2, fun x hx => h.no x (List.mem_cons_of_mem _ hx)⟩
theorem zLb (n : Nat) (hn1 : 1 ≤ n) (hn : n ≤ 8) (v : Nm n) (hv : OkN v 100000) : R zCS [zA (enc v)] = some [zA (enc (cyc v))] := by
 have a1 := hv.len; have a2 := hv.lo; have a3 := hv.hi; apply zQt; unfold cyc
 by_cases h : v.2.length = 0
 · have hc := zBa v (by omega); simp only [enc] at hc; simp only [zGz, enc, beq0, decide_eq_true h, cond_true, hc, Option.bind_some, getTV_here, if_pos h]
 · have h2 := zJ2 hn1 hv.one h; have h1 : ((1 : Int) ≤ ((sL v.2).length : Nat)) := by rw [zT]; omega
   have h3 : ((0 : Int) < ((sL v.2).length : Nat)) := by rw [zT]; omega
   have hc := zBa (n := n) (v.1, v.2.drop 1) (by simp; omega); have ht := zPb n hn (v.2.getD 0 1) v; have hp := zQa n h2 hn (v.1, v.2.drop 1) (t1 v.1 (v.2.getD 0 1)) (zIi hv.P) (by simp; omega) (by simp only; omega) (by simp only; omega); simp only [enc] at hc ht hp ⊢; simp only [zGz, beq0, decide_eq_false h, cond_false, decide_eq_true h1, decide_eq_true h3, cond_true, zNp, hc, zKr (show 0 < v.2.length by omega), ht, Option.bind_some, getTV_here, hp, if_neg h]
theorem zMz (n : Nat) (hn1 : 1 ≤ n) (hn : n ≤ 8) (v : Nm n) (hv : OkN v 100000) : R zDk [zA (enc v)] = some [zA (enc (decyc v))] := by
 have a1 := hv.len; have a2 := hv.lo; have a3 := hv.hi; apply zKk; unfold decyc
 by_cases h : v.2.length = 0
 · simp only [zBw, enc, beq0, decide_eq_true h, cond_true, if_pos h]
 · have h2 := zJ2 hn1 hv.one h; have e1 : wi64 ((v.2.length : Int) - 1) = ((v.2.length - 1 : Nat) : Int) := by rw [zF] <;> omega
   have hm := zGt n hn1 hn (t1 v.1 (v.2.getD (v.2.length - 1) 1) :: v.2.take (v.2.length - 1)) (by simp; omega) (fun h' => by omega) v.1 (by omega) (by omega); have e2 : ∀ s : Pm n, [sA s] ++ sL (v.2.take (v.2.length - 1)) = sL (s :: v.2.take (v.2.length - 1)) := fun s => rfl; have e3 : ∀ s : Pm n, apOk [sA s] (sL (v.2.take (v.2.length - 1))) = true := fun s => zNG (by rw [zT]; simp; omega)
   simp only [enc] at hm ⊢; simp (disch := omega) only [zBw, zV3, decide_eq_false h, cond_false, e1, zT, decide_eq_true, Bool.and_true, cond_true, Int.toNat_natCast, zKr, zJH n hn, Option.bind_some, getTV_here, zKq, e2, e3, kQ, if_neg h]
   by_cases h5 : v.1.tmod 2 = 0
   · have e4 : t1 v.1 (v.2.getD (v.2.length - 1) 1) = v.2.getD (v.2.length - 1) 1 := by rw [t1, if_pos h5]
     rw [e4] at hm ⊢; simp only [h5, decide_true, Bool.not_true, cond_false, hm, Option.bind_some, getTV_here]
   · have e4 : t1 v.1 (v.2.getD (v.2.length - 1) 1) = trn (v.2.getD (v.2.length - 1) 1) := by rw [t1, if_neg h5]
     rw [e4] at hm ⊢; simp only [h5, decide_false, Bool.not_false, cond_true, hm, Option.bind_some, getTV_here]
theorem zM8 (n : Nat) (h2 : 2 ≤ n) (hn : n ≤ 8) (B : List (Pm n)) (hB : B.length < 400000) (x0 x1 : Int) (x2 : List (List Int)) : ∀ (d i : Nat) (v : Nm n), i + d = B.length → (Pm.lat n).Proper v.2 → v.2.length + d < 900000 → -1000000000 ≤ v.1 → v.1 + v.2.length + d ≤ 1000000000 →
  R zBt [tI x0, tI x1, tLA8 x2, tI (n : Int), tI v.1, tLA8 (sL v.2), tLA8 (sL B), tI (B.length : Int), tI (i : Int)] = some [tI 0, tI x0, tI x1, tLA8 x2, tI (n : Int), tI (mk v.1 (v.2 ++ B.drop i)).1, tLA8 (sL (mk v.1 (v.2 ++ B.drop i)).2)] := by
 intro d
 induction d with
 | zero =>
  intro i v hi hP _ _ _; apply zGF; have h1 : ¬ ((i : Int) < (B.length : Int)) := by omega
  rw [List.drop_of_length_le (by omega), List.append_nil, kO h2 v.1 hP]; simp only [zBz, decide_eq_false h1, cond_false]
 | succ d ih =>
  intro i v hi hP hl hp hp'; have h0 : i < B.length := by omega
  have hm := kf h2 v.1 (v.2 ++ [B[i]]); have hle : (v.2 ++ [B[i]]).length = v.2.length + 1 := by simp
  have hput := zQa n h2 hn v B[i] hP (by omega) (by omega) (by omega); have ih' := ih (i + 1) (mk v.1 (v.2 ++ [B[i]])) (by omega) hm.1 (by omega) (by omega) (by omega); rw [← zMW h2, List.append_assoc, List.singleton_append, ← List.drop_eq_getElem_cons h0] at ih'; apply zGF; simp only [enc] at hput; simp (disch := omega) only [zBz, decide_eq_true, cond_true, Bool.and_true, Int.toNat_natCast, zT, zBS h0, hput, Option.bind_some, getTV_here, zF]; rw [show (i : Int) + 1 = ((i + 1 : Nat) : Int) by omega]; exact ih'
theorem zQf (n : Nat) (hn1 : 1 ≤ n) (hn : n ≤ 8) (v : Nm n) (hv : OkN v 100000) : R zFo [zA (enc v)] = some [zA (enc (decyc v))] := by
 have a1 := hv.len; have a2 := hv.lo; have a3 := hv.hi; apply zNb; unfold decyc
 by_cases h : v.2.length = 0
 · have hc := zBa v (by omega); have e1 : wi64 (((sL v.2).length : Nat) - 1) = -1 := by rw [zT, zF] <;> omega
   have e0 : ((-1 : Int) < 0) := by omega
   simp only [enc] at hc; simp only [zDw, enc, e1, decide_eq_true e0, cond_true, hc, Option.bind_some, getTV_here, if_pos h]
 · have h2 := zJ2 hn1 hv.one h; have e1 : wi64 ((v.2.length : Int) - 1) = ((v.2.length - 1 : Nat) : Int) := by rw [zF] <;> omega
   have e0 : ¬ (((v.2.length - 1 : Nat) : Int) < 0) := by omega
   have ht := zPb n hn (v.2.getD (v.2.length - 1) 1) v; have hp := zQa n h2 hn (v.1, []) (t1 v.1 (v.2.getD (v.2.length - 1) 1)) Lat.Proper.nil (by simp) (by simp only; omega) (by simp only; omega); have hms := kf h2 v.1 ([] ++ [t1 v.1 (v.2.getD (v.2.length - 1) 1)]); have hml := zO9 h2 v.1 ([] ++ [t1 v.1 (v.2.getD (v.2.length - 1) 1)]); simp only [List.nil_append, List.length_cons, List.length_nil] at hms hml hp; have tl : (v.2.take (v.2.length - 1)).length = v.2.length - 1 := by simp
   have h7 := zM8 n h2 hn (v.2.take (v.2.length - 1)) (by omega) 0 0 [] (v.2.take (v.2.length - 1)).length 0 (mk v.1 [t1 v.1 (v.2.getD (v.2.length - 1) 1)]) (by omega) hms.1 (by omega) (by omega) (by omega); rw [List.drop_zero, ← zMW h2] at h7; simp only [enc, zDR, Int.natCast_zero] at ht hp h7 ⊢; simp (disch := omega) only [zDw, e1, decide_eq_false e0, cond_false, zT, decide_eq_true, Bool.and_true, cond_true, Int.toNat_natCast, zKr, ht, hp, Option.bind_some, getTV_here, getTV_next, zKq, h7, if_neg h]
   rfl
theorem zUD {n : Nat} (h2 : 2 ≤ n) (q k : Int) (l B : List (Pm n)) : mk (q + (((Pm.lat n).norm l).1 : Nat)) (tk k ((Pm.lat n).norm l).2 ++ B) = mk q (tk k l ++ B) := by
 have e : (Pm.lat n).norm (tk k l) = (((Pm.lat n).norm l).1, tk k ((Pm.lat n).norm l).2) := by
  unfold tk
  split
  · rfl
  · exact (zGL n).norm (kw h2) (allS l)
 rw [zMW h2 q (tk k l) B]; simp only [mk, e]
theorem zPE {n : Nat} (h2 : 2 ≤ n) (v : Nm n) (s : Pm n) : prod (mk (0 - 1) ([] ++ [Pm.half n * s⁻¹])) v = less1 v s := by
 unfold prod less1; have h := zUD h2 (v.1 - 1) v.1 [Pm.half n * s⁻¹] v.2; rw [zQ4] at h; have e : tk v.1 ([] : List (Pm n)) = [] := by unfold tk; split <;> rfl
 rw [e] at h; have e3 : t1 v.1 (Pm.half n * s⁻¹) :: v.2 = [t1 v.1 (Pm.half n * s⁻¹)] ++ v.2 := rfl; rw [e3, ← h]; simp only [mk, List.nil_append]; rw [show (0 : Int) - 1 + (((Pm.lat n).norm [Pm.half n * s⁻¹]).1 : Int) + v.1 = v.1 - 1 + (((Pm.lat n).norm [Pm.half n * s⁻¹]).1 : Int) by omega]
theorem zLL (n : Nat) (h2 : 2 ≤ n) (hn : n ≤ 8) (v : Nm n) (hv : OkN v 100000) (s : Pm n) : R zBA [zA (enc v), tA8 (sA s)] = some [zA (enc (less1 v s))] := by
 apply zFE; have hp := zMv n h2 hn (0, []) s Lat.Proper.nil (by simp) (by simp) (by simp); have hms := kf h2 (0 - 1) ([] ++ [Pm.half n * s⁻¹]); have hml := zO9 h2 (0 - 1) ([] ++ [Pm.half n * s⁻¹]); simp only [List.nil_append, List.length_cons, List.length_nil] at hms hml; have hpr := zRv n (by omega) hn (mk (0 - 1) ([] ++ [Pm.half n * s⁻¹])) v ⟨hms.1, by simp only [List.nil_append]; omega, by simp only [List.nil_append]; omega, by simp only [List.nil_append]; omega, fun h => by omega⟩ hv; rw [zPE h2] at hpr; simp only [enc, zDR, List.map_nil] at hp hpr ⊢; simp only [zBN, hp, Option.bind_some, getTV_here, hpr]
theorem zRw (n : Nat) (h2 : 2 ≤ n) (hn : n ≤ 8) (v : Nm n) (hv : OkN v 100000) (s : Pm n) : R zHG [zA (enc v), tA8 (sA s)] = some [zA (enc (less1 v s))] := by
 have a1 := hv.len; have a2 := hv.lo; have a3 := hv.hi; apply zPl; have hm := zGt n (by omega) hn (t1 v.1 (Pm.half n * s⁻¹) :: v.2) (by simp; omega) (fun h => by omega) (v.1 - 1) (by omega) (by omega); have e2 : ∀ s : Pm n, [sA s] ++ sL v.2 = sL (s :: v.2) := fun s => rfl; have e3 : ∀ s : Pm n, apOk [sA s] (sL v.2) = true := fun s => zNG (by rw [zT]; simp; omega)
 have e4 : ∀ s : Pm n, ((0 : Int) < ((sL (s :: v.2)).length : Nat)) := fun s => by rw [zT]; simp only [List.length_cons]; omega
 have e5 : ∀ s t : Pm n, List.set (sL (s :: v.2)) 0 (sA t) = sL (t :: v.2) := fun s t => rfl; have e6 : ∀ s : Pm n, List.getD (sL (s :: v.2)) 0 (List.replicate 8 0) = sA s := fun s => rfl; simp only [enc] at hm ⊢; simp (disch := omega) only [zHO, zRy n hn, Option.bind_some, getTV_here, e2, e3, cond_true, decide_eq_true (e4 _), e5, e6, zJH n hn, zF, kQ]; unfold less1 t1 at *
 by_cases h : v.1.tmod 2 = 0
 · simp only [h, if_true, decide_true, Bool.not_true, cond_false] at hm ⊢; simp only [hm, Option.bind_some, getTV_here]
 · simp only [h, if_false, decide_false, Bool.not_false, cond_true] at hm ⊢; simp only [hm, Option.bind_some, getTV_here]
theorem zK8 {n : Nat} (h2 : 2 ≤ n) {v : Nm n} {b : Nat} (hv : OkN v b) (s : Pm n) : OkN (less1 v s) (2 * b + 1) := by
 have a1 := hv.len; have a2 := hv.lo; have a3 := hv.hi; have hms := kf h2 (v.1 - 1) (t1 v.1 (Pm.half n * s⁻¹) :: v.2); have hml := zO9 h2 (v.1 - 1) (t1 v.1 (Pm.half n * s⁻¹) :: v.2); simp only [List.length_cons] at hms hml; exact ⟨hms.1, by unfold less1; omega, by unfold less1; omega, by unfold less1; omega, fun h => by omega⟩
theorem zPX {n : Nat} (h2 : 2 ≤ n) {v : Nm n} {b : Nat} (hv : OkN v b) (s : Pm n) : OkN (conj1 v s) (4 * b + 4) := by
 have hl := zK8 h2 hv s; have a1 := hl.len; have a2 := hl.lo; have a3 := hl.hi; have hms := kf h2 (less1 v s).1 ((less1 v s).2 ++ [s]); have hml := zO9 h2 (less1 v s).1 ((less1 v s).2 ++ [s]); simp only [List.length_append, List.length_cons, List.length_nil] at hms hml; exact ⟨hms.1, by unfold conj1; omega, by unfold conj1; omega, by unfold conj1; omega, fun h => by omega⟩
theorem zOb (n : Nat) (h2 : 2 ≤ n) (hn : n ≤ 8) (v : Nm n) (hv : OkN v 100000) (s : Pm n) : R zCq [zA (enc v), tA8 (sA s)] = some [zA (enc (conj1 v s))] := by
 apply zHi; have hl := zK8 h2 hv s; have a1 := hl.len; have a2 := hl.lo; have a3 := hl.hi; have hw := zLL n h2 hn v hv s; have hp := zQa n h2 hn (less1 v s) s hl.P (by omega) (by omega) (by omega); simp only [enc] at hw hp ⊢; simp only [zC0, hw, Option.bind_some, getTV_here, hp]
 rfl
theorem zJw (n : Nat) (h2 : 2 ≤ n) (hn : n ≤ 8) (v : Nm n) (hv : OkN v 100000) (s : Pm n) : R zCQ [zA (enc v), tA8 (sA s)] = some [zA (enc (conj1 v s))] := by
 apply zIR; have hl := zK8 h2 hv s; have a1 := hl.len; have a2 := hl.lo; have a3 := hl.hi; have hw := zRw n h2 hn v hv s; have hp := zM1 n h2 hn (less1 v s) s (by omega) (by omega) (by omega); simp only [enc] at hw hp ⊢; simp only [zCX, hw, Option.bind_some, getTV_here, hp]
 rfl
end Go.Ev.YtmdkgikjnaijeaaGreat
namespace Go.Ev.YtmdkgikjnaijeaaGreat
open Go.Ev Go.Gar
def srch {α : Type} (st : α → α) (good : α → Bool) : Nat → α → Option α
 | 0, _ => none
 | d + 1, c => if good (st c) then some (st c) else srch st good d (st c)
theorem zMB {α : Type} {st : α → α} {good : α → Bool} {P : α → Prop} (hst : ∀ x, P x → P (st x)) : ∀ (d : Nat) (c u : α), P c → srch st good d c = some u → P u ∧ good u = true := by
 intro d
 induction d with
 | zero => intro c u _ h; simp [srch] at h
 | succ d ih =>
  intro c u hc h
  by_cases g : good (st c) = true
  · rw [srch, if_pos g] at h
    cases h
    exact ⟨hst c hc, g⟩
  · rw [srch, if_neg g] at h; exact ih _ _ (hst c hc) h
def gA {n : Nat} (v w : Nm n) : Bool := decide (v.1 < w.1)
def gB' {n : Nat} (v w : Nm n) : Bool := decide (w.1 + (w.2.length : Int) < v.1 + (v.2.length : Int))
def mN (n : Nat) : Nat := n * (n - 1) / 2
theorem zUF {n : Nat} (hn1 : 1 ≤ n) (hn : n ≤ 8) : wi64 (Int.tdiv (wi64 ((n : Int) * (wi64 ((n : Int) - 1)))) 2) = ((mN n : Nat) : Int) := by
 have h : n = 1 ∨ n = 2 ∨ n = 3 ∨ n = 4 ∨ n = 5 ∨ n = 6 ∨ n = 7 ∨ n = 8 := by omega
 rcases h with rfl | rfl | rfl | rfl | rfl | rfl | rfl | rfl <;> decide
theorem zUE {n : Nat} (hn1 : 1 ≤ n) (hn : n ≤ 8) : mN n < 100 := by
 have h : n = 1 ∨ n = 2 ∨ n = 3 ∨ n = 4 ∨ n = 5 ∨ n = 6 ∨ n = 7 ∨ n = 8 := by omega
 rcases h with rfl | rfl | rfl | rfl | rfl | rfl | rfl | rfl <;> decide
noncomputable def fA {n : Nat} (v : Nm n) : Option (Nm n) := srch cyc (gA v) (mN n) v
noncomputable def fB {n : Nat} (v : Nm n) : Option (Nm n) := srch decyc (gB' v) (mN n) v
noncomputable def sumF {n : Nat} : Nat → Nm n → Nm n
 | 0, v => v
 | f + 1, v => match fA v with
  | some u => sumF f u
  | none => match fB v with
   | some u => sumF f u
   | none => v
noncomputable def sumN {n : Nat} (v : Nm n) : Nm n := sumF (v.2.length + 1) v
theorem zLF {n : Nat} (hn1 : 1 ≤ n) {v v0 u : Nm n} (h : Rel v v0) (hu : fA v = some u) : Rel u v0 ∧ u.2.length < v.2.length := by
 have hv : Rel v v := ⟨h.P, Int.le_refl _, Int.le_refl _, h.one⟩; have := zMB (P := fun x => Rel x v) (fun x hx => zLH hn1 hx) _ _ _ hv hu; refine ⟨this.1.trans h, ?_⟩; have h2 := this.2; simp only [gA, decide_eq_true_eq] at h2; have b2 := this.1.hi; omega
theorem zLE {n : Nat} (hn1 : 1 ≤ n) {v v0 u : Nm n} (h : Rel v v0) (hu : fB v = some u) : Rel u v0 ∧ u.2.length < v.2.length := by
 have hv : Rel v v := ⟨h.P, Int.le_refl _, Int.le_refl _, h.one⟩; have := zMB (P := fun x => Rel x v) (fun x hx => zEY hn1 hx) _ _ _ hv hu; refine ⟨this.1.trans h, ?_⟩; have h2 := this.2; simp only [gB', decide_eq_true_eq] at h2; have b1 := this.1.lo; omega
theorem zSQ {n : Nat} (hn1 : 1 ≤ n) (v0 : Nm n) : ∀ (f : Nat) (v : Nm n), Rel v v0 → Rel (sumF f v) v0 := by
 intro f
 induction f with
 | zero => intro v h; exact h
 | succ f ih =>
  intro v h; rw [sumF]
  split
  · rename_i u hu; exact ih u (zLF hn1 h hu).1
  · split
    · rename_i u hu; exact ih u (zLE hn1 h hu).1
    · exact h
theorem Rel.ok5 {n : Nat} {w v : Nm n} {b : Nat} (h : Rel w v) (hv : OkN v b) (hb : b ≤ 50000) : OkN w 100000 := (h.ok hv).mono (by omega)
theorem zLP (n : Nat) (hn1 : 1 ≤ n) (hn : n ≤ 8) (v0 : Nm n) (hv0 : OkN v0 50000) (v : Nm n) (x3 x4 : Int) (x5 : List (List Int)) (x9 : Int) : ∀ (d : Nat) (c : Nm n), d < 1000 → Rel c v0 →
  ∃ w : Nm n, R zA5 [tI (n : Int), tI v.1, tLA8 (sL v.2), tI x3, tI x4, tLA8 x5, tI (n : Int), tI c.1, tLA8 (sL c.2), tI x9, tB false, tI (d : Int)]
   = some [tI 0, tI (n : Int), tI v.1, tLA8 (sL v.2), tI x3, tI x4, tLA8 x5, tI (n : Int), tI w.1, tLA8 (sL w.2), tI x9, tB (srch cyc (gA v) d c).isSome] ∧ (∀ u, srch cyc (gA v) d c = some u → w = u) := by
 intro d
 induction d with
 | zero =>
  intro c _ hc; refine ⟨c, ?_, fun u h => by simp [srch] at h⟩; apply zAx; simp only [jI, srch]
  rfl
 | succ d ih =>
  intro c hd hc; have h1 : ((0 : Int) < ((d + 1 : Nat) : Int)) := by omega
  have hcy := zHM n hn1 hn c (hc.ok5 hv0 (by omega)); have hd' : wi64 (((d + 1 : Nat) : Int) - 1) = (d : Int) := by rw [zF] <;> omega
  simp only [enc] at hcy
  by_cases g : gA v (cyc c) = true
  · refine ⟨cyc c, ?_, fun u h => by rw [srch, if_pos g] at h; exact Option.some.inj h⟩; apply zAx; simp only [jI, decide_eq_true h1, cond_true, Bool.not_false, hcy, Option.bind_some, getTV_here, hd', srch, if_pos g]; have g' : v.1 < (cyc c).1 := by simpa [gA] using g
    simp only [decide_eq_true g']; apply zAx; simp only [jI, Bool.not_true, cond_false]; by_cases hz : (0 : Int) < (d : Int) <;> simp [hz]
  · obtain ⟨w, e1, e2⟩ := ih (cyc c) (by omega) (zLH hn1 hc); refine ⟨w, ?_, fun u h => by rw [srch, if_neg g] at h; exact e2 u h⟩; apply zAx; have g' : ¬ v.1 < (cyc c).1 := by simpa [gA] using g
    simp only [jI, decide_eq_true h1, cond_true, Bool.not_false, hcy, Option.bind_some, getTV_here, hd', srch, if_neg g, decide_eq_false g', e1]
theorem zJu (a b c : Int) (x2 x5 x8 : List (List Int)) (x0 x1 x3 x4 x6 x7 x9 x11 : Int) : R kh [tI x0, tI x1, tLA8 x2, tI x3, tI x4, tLA8 x5, tI x6, tI x7, tLA8 x8, tI x9, tB true, tI x11] = some [tI 0, tI x0, tI x1, tLA8 x2, tI x3, tI x4, tLA8 x5, tI x6, tI x7, tLA8 x8, tI x9, tB true] := by
 apply jM; by_cases h : 0 < x11 <;> simp [kP, h]
theorem zJv (n : Nat) (hn1 : 1 ≤ n) (hn : n ≤ 8) (v0 : Nm n) (hv0 : OkN v0 50000) (v : Nm n) (hv : Rel v v0) (x3 x4 : Int) (x5 : List (List Int)) (x9 : Int) : ∀ (d : Nat) (c : Nm n), d < 1000 → Rel c v0 →
  ∃ w : Nm n, R kh [tI (n : Int), tI v.1, tLA8 (sL v.2), tI x3, tI x4, tLA8 x5, tI (n : Int), tI c.1, tLA8 (sL c.2), tI x9, tB false, tI (d : Int)]
   = some [tI 0, tI (n : Int), tI v.1, tLA8 (sL v.2), tI x3, tI x4, tLA8 x5, tI (n : Int), tI w.1, tLA8 (sL w.2), tI x9, tB (srch decyc (gB' v) d c).isSome] ∧ (∀ u, srch decyc (gB' v) d c = some u → w = u) := by
 intro d; have ov := hv.ok5 hv0 (by omega); have v1 := ov.lo; have v2 := ov.hi; have v3 := ov.len
 induction d with
 | zero =>
  intro c _ hc; refine ⟨c, ?_, fun u h => by simp [srch] at h⟩; apply jM; simp only [kP, srch]
  rfl
 | succ d ih =>
  intro c hd hc; have h1 : ((0 : Int) < ((d + 1 : Nat) : Int)) := by omega
  have hcy := zMz n hn1 hn c (hc.ok5 hv0 (by omega)); have hd' : wi64 (((d + 1 : Nat) : Int) - 1) = (d : Int) := by rw [zF] <;> omega
  have oc := (zEY hn1 hc).ok5 hv0 (by omega); have c1 := oc.lo; have c2 := oc.hi; have c3 := oc.len; have w1 : wi64 ((decyc c).1 + ((decyc c).2.length : Int)) = (decyc c).1 + ((decyc c).2.length : Int) := by rw [zF] <;> omega
  have w2 : wi64 (v.1 + (v.2.length : Int)) = v.1 + (v.2.length : Int) := by rw [zF] <;> omega
  simp only [enc] at hcy
  by_cases g : gB' v (decyc c) = true
  · refine ⟨decyc c, ?_, fun u h => by rw [srch, if_pos g] at h; exact Option.some.inj h⟩; apply jM; have g' : (decyc c).1 + ((decyc c).2.length : Int) < v.1 + (v.2.length : Int) := by simpa [gB'] using g
    simp only [kP, decide_eq_true h1, cond_true, Bool.not_false, hcy, Option.bind_some, getTV_here, hd', srch, if_pos g, zT, w1, w2, decide_eq_true g']; apply jM; simp only [kP, Bool.not_true, cond_false]; by_cases hz : (0 : Int) < (d : Int) <;> simp [hz]
  · obtain ⟨w, e1, e2⟩ := ih (decyc c) (by omega) (zEY hn1 hc); refine ⟨w, ?_, fun u h => by rw [srch, if_neg g] at h; exact e2 u h⟩; apply jM; have g' : ¬ (decyc c).1 + ((decyc c).2.length : Int) < v.1 + (v.2.length : Int) := by simpa [gB'] using g
    simp only [kP, decide_eq_true h1, cond_true, Bool.not_false, hcy, Option.bind_some, getTV_here, hd', srch, if_neg g, zT, w1, w2, decide_eq_false g', e1]
theorem zLQ (n : Nat) (hn1 : 1 ≤ n) (hn : n ≤ 8) (v0 : Nm n) (hv0 : OkN v0 50000) (x3 x4 : Int) (x5 : List (List Int)) : ∀ (f : Nat) (v : Nm n), v.2.length < f → Rel v v0 →
  ∃ y3 y4 : Int, ∃ y5 : List (List Int), R jj [tI (n : Int), tI v.1, tLA8 (sL v.2), tI x3, tI x4, tLA8 x5, tI (n : Int)]
   = some [tI 0, tI (n : Int), tI (sumF f v).1, tLA8 (sL (sumF f v).2)] := by
 intro f
 induction f with
 | zero => intro v h; omega
 | succ f ih =>
  intro v hf hv; refine ⟨0, 0, [], ?_⟩; have hm := zUF hn1 hn; have hml := zUE hn1 hn; obtain ⟨w, e1, e2⟩ := zLP n hn1 hn v0 hv0 v x3 x4 x5 (n : Int) (mN n) v (by omega) hv; apply zJe; simp only [zDI, hm, e1, Option.bind_some, getTV_here, getTV_next]; rw [sumF]
  cases hA : fA v with
  | some u =>
   have hA' : srch cyc (gA v) (mN n) v = some u := hA; obtain rfl := e2 u hA'; have hr := zLF hn1 hv hA; obtain ⟨_, _, _, e3⟩ := ih w (by omega) hr.1; simp only [hA', Option.isSome_some, Bool.not_true, cond_false, hm, zJu 0 0 0, Option.bind_some, getTV_here, getTV_next, e3]
  | none =>
   have hA' : srch cyc (gA v) (mN n) v = none := hA; obtain ⟨z, e4, e5⟩ := zJv n hn1 hn v0 hv0 v hv x3 x4 x5 (n : Int) (mN n) v (by omega) hv; simp only [hA', Option.isSome_none, Bool.not_false, cond_true, hm, e4, Option.bind_some, getTV_here, getTV_next]
   cases hB : fB v with
   | some u =>
    have hB' : srch decyc (gB' v) (mN n) v = some u := hB; obtain rfl := e5 u hB'; have hr := zLE hn1 hv hB; obtain ⟨_, _, _, e3⟩ := ih z (by omega) hr.1; simp only [hB', Option.isSome_some, Bool.not_true, cond_false, e3]
   | none =>
    have hB' : srch decyc (gB' v) (mN n) v = none := hB; simp only [hB', Option.isSome_none, Bool.not_false, cond_true]
theorem zJD (n : Nat) (hn1 : 1 ≤ n) (hn : n ≤ 8) (v : Nm n) (hv : OkN v 50000) : R zER [zA (enc v)] = some [zA (enc (sumN v))] := by
 obtain ⟨_, _, _, e⟩ := zLQ n hn1 hn v hv 0 0 [] (v.2.length + 1) v (by omega) (Rel.refl hv); apply zLx; simp only [enc] at e ⊢; simp only [zEh, e, Option.bind_some, getTV_here, getTV_next]
 rfl
theorem zQg (n : Nat) (hn1 : 1 ≤ n) (hn : n ≤ 8) (v0 : Nm n) (hv0 : OkN v0 50000) (v : Nm n) (x3 x4 : Int) (x5 : List (List Int)) (m : Nat) (hm : m < 1000) : ∀ (d : Nat) (i : Nat) (c : Nm n), i + d = m → Rel c v0 →
  R zDp [tI (n : Int), tI v.1, tLA8 (sL v.2), tI x3, tI x4, tLA8 x5, tI (n : Int), tI c.1, tLA8 (sL c.2), tI (m : Int), tI (i : Int)]
   = some (match srch cyc (gA v) d c with
    | some u => [tI 1, tI (n : Int), tI u.1, tLA8 (sL u.2), tB true]
    | none => [tI 0, tI (n : Int), tI v.1, tLA8 (sL v.2), tI x3, tI x4, tLA8 x5]) := by
 intro d
 induction d with
 | zero =>
  intro i c hi hc; apply zIS; have h1 : ¬ ((i : Int) < (m : Int)) := by omega
  simp only [zCa, decide_eq_false h1, cond_false, srch]
 | succ d ih =>
  intro i c hi hc; have h1 : ((i : Int) < (m : Int)) := by omega
  have hcy := zLb n hn1 hn c (hc.ok5 hv0 (by omega)); have hi' : wi64 ((i : Int) + 1) = ((i + 1 : Nat) : Int) := by rw [zF] <;> omega
  have hk : R zFm [zA ((n : Int), (cyc c).1, sL (cyc c).2), zA ((n : Int), v.1, sL v.2)] = some [tB (gA v (cyc c))] := by
   apply zNW; simp only [zF4, gA]
  simp only [enc] at hcy; apply zIS
  by_cases g : gA v (cyc c) = true
  · simp only [zCa, decide_eq_true h1, cond_true, hcy, Option.bind_some, getTV_here, hk, g, srch, if_true]
  · have g' : gA v (cyc c) = false := by simpa using g
    simp only [zCa, decide_eq_true h1, cond_true, hcy, Option.bind_some, getTV_here, hk, g', srch, cond_false, hi', ih (i + 1) (cyc c) (by omega) (zLH hn1 hc), if_false, Bool.false_eq_true]
theorem zS9 (n : Nat) (hn1 : 1 ≤ n) (hn : n ≤ 8) (v0 : Nm n) (hv0 : OkN v0 50000) (v : Nm n) (hv : Rel v v0) : R zIt [zA ((n : Int), v.1, sL v.2)] = some (match fA v with
        | some u => [zA ((n : Int), u.1, sL u.2), tB true]
        | none => [zA ((n : Int), v.1, sL v.2), tB false]) := by
 have e := zQg n hn1 hn v0 hv0 v 0 0 [] (mN n) (by have := zUE hn1 hn; omega) (mN n) 0 v (by omega) hv; apply zQu; simp only [Int.natCast_zero] at e; simp only [zJU, zUF hn1 hn, e]; unfold fA
 cases srch cyc (gA v) (mN n) v with
 | some u => rfl
 | none => rfl
theorem zKb (n : Nat) (v : Nm n) (hv : OkN v 100000) : R zDm [zA ((n : Int), v.1, sL v.2)] = some [tI (v.1 + (v.2.length : Int))] := by
 have v1 := hv.lo; have v2 := hv.hi; have v3 := hv.len; apply zNY; have w2 : wi64 (v.1 + (v.2.length : Int)) = v.1 + (v.2.length : Int) := by rw [zF] <;> omega
 simp only [zF6, zT, w2]
theorem zLd (n : Nat) (hn1 : 1 ≤ n) (hn : n ≤ 8) (v0 : Nm n) (hv0 : OkN v0 50000) (v : Nm n) (hv : Rel v v0) (x3 x4 : Int) (x5 : List (List Int)) (m : Nat) (hm : m < 1000) : ∀ (d : Nat) (i : Nat) (c : Nm n), i + d = m → Rel c v0 →
  R zBC [tI (n : Int), tI v.1, tLA8 (sL v.2), tI x3, tI x4, tLA8 x5, tI (n : Int), tI c.1, tLA8 (sL c.2), tI (m : Int), tI (i : Int)]
   = some (match srch decyc (gB' v) d c with
    | some u => [tI 1, tI (n : Int), tI u.1, tLA8 (sL u.2), tB true]
    | none => [tI 0, tI (n : Int), tI v.1, tLA8 (sL v.2), tI x3, tI x4, tLA8 x5]) := by
 intro d
 induction d with
 | zero =>
  intro i c hi hc; apply zFF; have h1 : ¬ ((i : Int) < (m : Int)) := by omega
  simp only [js, decide_eq_false h1, cond_false, srch]
 | succ d ih =>
  intro i c hi hc; have h1 : ((i : Int) < (m : Int)) := by omega
  have hcy := zQf n hn1 hn c (hc.ok5 hv0 (by omega)); have hi' : wi64 ((i : Int) + 1) = ((i + 1 : Nat) : Int) := by rw [zF] <;> omega
  have hk : R zFl [zA ((n : Int), (decyc c).1, sL (decyc c).2), zA ((n : Int), v.1, sL v.2)] = some [tB (gB' v (decyc c))] := by
   apply zNV; simp only [zF3, gB', zKb n _ ((zEY hn1 hc).ok5 hv0 (by omega)), zKb n _ (hv.ok5 hv0 (by omega)), Option.bind_some, getTV_here]
  simp only [enc] at hcy; apply zFF
  by_cases g : gB' v (decyc c) = true
  · simp only [js, decide_eq_true h1, cond_true, hcy, Option.bind_some, getTV_here, hk, g, srch, if_true]
  · have g' : gB' v (decyc c) = false := by simpa using g
    simp only [js, decide_eq_true h1, cond_true, hcy, Option.bind_some, getTV_here, hk, g', srch, cond_false, hi', ih (i + 1) (decyc c) (by omega) (zEY hn1 hc), if_false, Bool.false_eq_true]
theorem zOd (n : Nat) (hn1 : 1 ≤ n) (hn : n ≤ 8) (v0 : Nm n) (hv0 : OkN v0 50000) (v : Nm n) (hv : Rel v v0) : R zEV [zA ((n : Int), v.1, sL v.2)] = some (match fB v with
        | some u => [zA ((n : Int), u.1, sL u.2), tB true]
        | none => [zA ((n : Int), v.1, sL v.2), tB false]) := by
 have e := zLd n hn1 hn v0 hv0 v hv 0 0 [] (mN n) (by have := zUE hn1 hn; omega) (mN n) 0 v (by omega) hv; apply zL3; simp only [Int.natCast_zero] at e; simp only [zEm, zUF hn1 hn, e]; unfold fB
 cases srch decyc (gB' v) (mN n) v with
 | some u => rfl
 | none => rfl
theorem zQZ (n : Nat) (hn1 : 1 ≤ n) (hn : n ≤ 8) (v0 : Nm n) (hv0 : OkN v0 50000) (x3 x4 : Int) (x5 : List (List Int)) : ∀ (f : Nat) (v : Nm n), v.2.length < f → Rel v v0 →
  R zCR [tI (n : Int), tI v.1, tLA8 (sL v.2), tI x3, tI x4, tLA8 x5] = some [tI 0, tI (n : Int), tI (sumF f v).1, tLA8 (sL (sumF f v).2)] := by
 intro f
 induction f with
 | zero => intro v h; omega
 | succ f ih =>
  intro v hf hv; have ov := hv.ok5 hv0 (by omega); have v3 := ov.len; have b1 := zS9 n hn1 hn v0 hv0 v hv; have b2 := zOd n hn1 hn v0 hv0 v hv; have hc := zBa v (by omega); simp only [enc] at hc; apply zNU; rw [sumF]
  cases hA : fA v with
  | some u =>
   have hr := zLF hn1 hv hA; rw [hA] at b1; simp only [zCY, b1, Option.bind_some, getTV_here, getTV_next, Bool.not_true, cond_false, ih u (by omega) hr.1]
  | none =>
   rw [hA] at b1
   cases hB : fB v with
   | some u =>
    have hr := zLE hn1 hv hB; rw [hB] at b2; simp only [zCY, b1, b2, Option.bind_some, getTV_here, getTV_next, Bool.not_true, Bool.not_false, cond_true, cond_false, ih u (by omega) hr.1]
   | none =>
    rw [hB] at b2; simp only [zCY, b1, b2, Option.bind_some, getTV_here, getTV_next, Bool.not_false, cond_true, hc]
theorem zPd (n : Nat) (hn1 : 1 ≤ n) (hn : n ≤ 8) (v : Nm n) (hv : OkN v 50000) : R zIs [zA (enc v)] = some [zA (enc (sumN v))] := by
 have e := zQZ n hn1 hn v hv 0 0 [] (v.2.length + 1) v (by omega) (Rel.refl hv); apply zQs; simp only [enc] at e ⊢; simp only [zJT, e, Option.bind_some, getTV_here, getTV_next]
 rfl
theorem zSP {n : Nat} (hn1 : 1 ≤ n) {v : Nm n} {b : Nat} (hv : OkN v b) : Rel (sumN v) v := zSQ hn1 v _ v (Rel.refl hv)
theorem zG8 {n : Nat} (hn1 : 1 ≤ n) {v : Nm n} {b : Nat} (hv : OkN v b) : OkN (sumN v) (4 * b + 4) := ((zSP hn1 hv).ok hv).mono (by omega)
end Go.Ev.YtmdkgikjnaijeaaGreat
namespace Go.Ev.YtmdkgikjnaijeaaGreat
open Go.Ev Go.Gar
theorem zTg (n b : Nat) : OkN ((0, []) : Nm n) b := ⟨Lat.Proper.nil, by simp, by simp only; omega, by simp only; omega, fun _ => rfl⟩
end Go.Ev.YtmdkgikjnaijeaaGreat
namespace Go.Ev.YtmdkgikjnaijeaaGreat
open Go.Ev Go.Gar
end Go.Ev.YtmdkgikjnaijeaaGreat
namespace Go.Ev.YtmdkgikjnaijeaaGreat
open Go.Ev Go.Gar
theorem zVJ (a b : List Int) : (a != b) = !decide (a = b) := by rw [Bool.eq_iff_iff]; simp
theorem zOR (x0 x1 x3 x4 : Int) (a b : List (List Int)) (h0 : a.length < 1000000000) (h1 : b.length = a.length) : ∀ i, i ≤ a.length → R zCj [tI x0, tI x1, tLA8 a, tI x3, tI x4, tLA8 b, tI (i : Int)] = some (if a.drop i = b.drop i then [tI 0] else [tI 1, tB false]) := by
 refine zm _ ?_ (fun i hi ih => ?_)
 · apply zHc; rw [List.drop_length, ← h1, List.drop_length]; simp [zCu, h1]
 · apply zHc; rw [List.drop_eq_getElem_cons hi, List.drop_eq_getElem_cons (by omega : i < b.length)]; simp (disch := omega) only [zCu, decide_eq_true, cond_true, Bool.and_true, Int.toNat_natCast, zF]; rw [show (i : Int) + 1 = ((i + 1 : Nat) : Int) by omega, ih]; simp only [List.getD_eq_getElem?_getD, List.getElem?_eq_getElem hi, List.getElem?_eq_getElem (by omega : i < b.length), Option.getD_some, List.cons.injEq]; by_cases e : a[i] = b[i] <;> simp [e, zVJ]
theorem zR3 (a b : List (List Int)) (h0 : a.length < 1000000000) (h1 : b.length = a.length) : ∀ i, i ≤ a.length → R zj [tLA8 a, tLA8 b, tI (a.length : Int), tI (i : Int)] = some (if a.drop i = b.drop i then [tI 0] else [tI 1, tB false]) := by
 refine zm _ ?_ (fun i hi ih => ?_)
 · apply ke; rw [List.drop_length, ← h1, List.drop_length]; simp [zk, h1]
 · apply ke; rw [List.drop_eq_getElem_cons hi, List.drop_eq_getElem_cons (by omega : i < b.length)]; simp (disch := omega) only [zk, decide_eq_true, cond_true, Bool.and_true, Int.toNat_natCast, zF]; rw [show (i : Int) + 1 = ((i + 1 : Nat) : Int) by omega, ih]; simp only [List.getD_eq_getElem?_getD, List.getElem?_eq_getElem hi, List.getElem?_eq_getElem (by omega : i < b.length), Option.getD_some, List.cons.injEq]; by_cases e : a[i] = b[i] <;> simp [e, zVJ]
theorem zUj (a b : List (List Int)) (h0 : a.length < 1000000000) : R kI [tLA8 a, tLA8 b] = some [tB (decide (a = b))] := by
 apply zBd
 by_cases e : b.length = a.length
 · have := zR3 a b h0 e 0 (Nat.zero_le _); simp only [List.drop_zero, Int.natCast_zero] at this; simp only [zr, e, bne_self_eq_false, cond_false, this]; by_cases e2 : a = b <;> simp [e2]
 · have : a ≠ b := fun h => e (by rw [h])
   have e3 : ¬ ((a.length : Int) = b.length) := by omega
   simp [zr, this, e3, kQ]
theorem zJG (a b : Int × Int × List (List Int)) (h0 : a.2.2.length < 1000000000) : R zDT [zA a, zA b] = some [tB (decide (a = b))] := by
 apply zPk; obtain ⟨a1, a2, a3⟩ := a; obtain ⟨b1, b2, b3⟩ := b
 by_cases q1 : a1 = b1
 · by_cases q2 : a2 = b2
   · by_cases e : b3.length = a3.length
     · have := zOR a1 a2 b1 b2 a3 b3 h0 e 0 (Nat.zero_le _); simp only [List.drop_zero, Int.natCast_zero] at this; subst q1; subst q2; simp only [zCD, e, bne_self_eq_false, cond_false, this]; by_cases e2 : a3 = b3 <;> simp [e2]
     · have : a3 ≠ b3 := fun h => e (by rw [h])
       have e3 : ¬ ((a3.length : Int) = b3.length) := by omega
       simp [zCD, this, e3, kQ]
   · simp [zCD, q2, kQ]
 · simp [zCD, q1, kQ]
theorem zEa (a b : Int × Int × List (List Int)) (h0 : a.2.2.length < 1000000000) : R zAb [zA a, zA b] = some [tB (decide (a = b))] := by
 apply zKl; obtain ⟨a1, a2, a3⟩ := a; obtain ⟨b1, b2, b3⟩ := b
 by_cases q1 : a1 = b1
 · by_cases q2 : a2 = b2
   · simp [zAi, q1, q2, zUj a3 b3 h0]
   · simp [zAi, q2, zDz]
 · simp [zAi, q1, zDz]
end Go.Ev.YtmdkgikjnaijeaaGreat
namespace Go.Ev.YtmdkgikjnaijeaaGreat
open Go.Ev Go.Gar
theorem par (p : Int) : p.tmod 2 = 0 ↔ p % 2 = 0 :=
 ⟨fun h => Int.emod_eq_zero_of_dvd (Int.dvd_of_tmod_eq_zero h), fun h => Int.tmod_eq_zero_of_dvd (Int.dvd_of_emod_eq_zero h)⟩
theorem zSj {n : Nat} (l : List (Pm n)) : (l.map trn).map trn = l := by
 rw [List.map_map]
 conv => rhs; rw [← List.map_id l]
 apply List.map_congr_left; intro x _; exact zQ0 x
theorem zL9 {n : Nat} (a b : Int) (l : List (Pm n)) : tk (a + b) l = tk a (tk b l) := by
 unfold tk; have ha := par a; have hb := par b; have hab := par (a + b)
 by_cases h1 : a % 2 = 0
 · by_cases h2 : b % 2 = 0
   · rw [if_pos (hab.2 (by omega)), if_pos (ha.2 h1), if_pos (hb.2 h2)]
   · rw [if_neg (fun h => h2 (by have := hab.1 h; omega)), if_pos (ha.2 h1), if_neg (fun h => h2 (hb.1 h))]
 · by_cases h2 : b % 2 = 0
   · rw [if_neg (fun h => h1 (by have := hab.1 h; omega)), if_neg (fun h => h1 (ha.1 h)), if_pos (hb.2 h2)]
   · rw [if_pos (hab.2 (by omega)), if_neg (fun h => h1 (ha.1 h)), if_neg (fun h => h2 (hb.1 h)), zSj]
theorem zUs {n : Nat} (k : Int) (l m : List (Pm n)) : tk k (l ++ m) = tk k l ++ tk k m := by
 unfold tk
 split
 · rfl
 · rw [List.map_append]
theorem zQ2 {n : Nat} (k : Int) (m : Pm n) : tk k [m] = [t1 k m] := by
 unfold tk t1; split <;> rfl
theorem zNe {n : Nat} (l : List (Pm n)) : tk 0 l = l := rfl
theorem K_eq {n : Nat} (x : Pm n) : (Pm.lat n).K x = x⁻¹ * Pm.half n := rfl
theorem zVC {n : Nat} (x : Pm n) : Pm.half n * (Pm.half n * x) = x := by rw [← Grp.assoc, Pm.half_half, Grp.one_mul]
theorem zVU {n : Nat} (x : Pm n) : ((Pm.lat n).K x)⁻¹ * Pm.half n = trn x := by
 rw [K_eq, zL, kS, Pm.half_inv, Grp.assoc]
 rfl
theorem x_K {n : Nat} (x : Pm n) : x * (Pm.lat n).K x = Pm.half n := zb x _
theorem zVl {n : Nat} (x : Pm n) (Y : List (Pm n)) : (Pm.lat n).nf (x :: Pm.half n :: Y) = (Pm.lat n).nf (Pm.half n :: trn x :: Y) := by
 have h := Lat.nf_move (Γ := Pm.lat n) (p := []) (q := Y) (x := x) (y := Pm.half n) (c := (Pm.lat n).K x) trivial trivial trivial ((Pm.lat n).refl trivial) ((Pm.lat n).le_D trivial) (allS _); rw [x_K, zVU] at h; exact h
theorem nf_D {n : Nat} : ∀ (X Y : List (Pm n)), (Pm.lat n).nf (X ++ Pm.half n :: Y) = (Pm.lat n).nf (Pm.half n :: (X.map trn ++ Y))
 | [], Y => rfl
 | x :: X, Y => by
  rw [List.cons_append, Lat.nf_cons, nf_D X Y, ← Lat.nf_cons, zVl]
  rfl
theorem zU5 {n : Nat} : ∀ (i : Nat) (X Y : List (Pm n)), (Pm.lat n).nf (X ++ ((Pm.lat n).Ds i ++ Y)) = (Pm.lat n).nf ((Pm.lat n).Ds i ++ (tk (i : Int) X ++ Y))
 | 0, X, Y => rfl
 | i + 1, X, Y => by
  have e : (Pm.lat n).Ds (i + 1) = Pm.half n :: (Pm.lat n).Ds i := rfl; rw [e, List.cons_append, nf_D, Lat.nf_cons, zU5 i, ← Lat.nf_cons, List.cons_append]; rw [show ((i + 1 : Nat) : Int) = (i : Int) + 1 by omega, zL9]
  rfl
theorem zVO {n : Nat} (i j : Nat) (Y : List (Pm n)) : (Pm.lat n).Ds i ++ ((Pm.lat n).Ds j ++ Y) = (Pm.lat n).Ds (i + j) ++ Y := by
 rw [← List.append_assoc]; simp only [Lat.Ds, List.replicate_append_replicate]
theorem zRV {n : Nat} (h2 : 2 ≤ n) (q : Int) (X Y : List (Pm n)) : mk (q + (((Pm.lat n).norm Y).1 : Nat)) (tk (((Pm.lat n).norm Y).1 : Nat) X ++ ((Pm.lat n).norm Y).2) = mk q (X ++ Y) := by
 obtain ⟨j, e, hP, _⟩ := Lat.norm_spec (kw h2) (allS Y); generalize (Pm.lat n).norm Y = z at e hP ⊢; obtain ⟨i, A⟩ := z; simp only at e hP ⊢; obtain ⟨j', e', hP', _⟩ := Lat.norm_spec (kw h2) (allS (tk (i : Int) X ++ A)); have h : (Pm.lat n).nf (X ++ Y) = (Pm.lat n).Ds (i + ((Pm.lat n).norm (tk (i : Int) X ++ A)).1) ++ ((Pm.lat n).norm (tk (i : Int) X ++ A)).2 ++ Lat.ones (j' + j) := by
  rw [← Lat.nf_app_r (allS Y), e, List.append_assoc, zU5, Lat.nf_Ds i (allS _), ← List.append_assoc (tk (i : Int) X)]; have ho := Lat.nf_ones (Γ := Pm.lat n) (X := tk (i : Int) X ++ A) (Y := []) j (allS _) (allS _); rw [List.append_nil, List.append_nil] at ho; rw [ho, e']; rw [← zVO]; simp only [Lat.ones, ← List.replicate_append_replicate, List.append_assoc]
 have hn := Lat.norm_of (kw h2) h hP'; simp only [mk, hn]; congr 1; omega
theorem nf_1 {n : Nat} {A : List (Pm n)} (hP : (Pm.lat n).Proper A) : (Pm.lat n).nf (1 :: A) = A ++ [1] := by
 rw [Lat.nf_cons, Lat.nf_fix hP.W, Lat.L_one hP.S]
theorem zQG {n : Nat} (h2 : 2 ≤ n) (v : Nm n) (hP : (Pm.lat n).Proper v.2) (m : Pm n) : mk (less1 v m).1 (t1 (less1 v m).1 m :: (less1 v m).2) = v := by
 have h := zRV h2 (v.1 - 1) (tk (v.1 - 1) [m]) (t1 v.1 (Pm.half n * m⁻¹) :: v.2); rw [← zL9, Int.add_comm ((((Pm.lat n).norm (t1 v.1 (Pm.half n * m⁻¹) :: v.2)).1 : Nat) : Int), zQ2, zQ2] at h; have e : mk (less1 v m).1 (t1 (less1 v m).1 m :: (less1 v m).2) = mk (v.1 - 1) ([t1 (v.1 - 1) m] ++ t1 v.1 (Pm.half n * m⁻¹) :: v.2) := h; rw [e]; have hK : t1 v.1 (Pm.half n * m⁻¹) = (Pm.lat n).K (t1 (v.1 - 1) m) := by
  have ha := par v.1; have hb := par (v.1 - 1); rw [K_eq]; unfold t1
  by_cases h1 : v.1 % 2 = 0
  · rw [if_pos (ha.2 h1), if_neg (fun h => by have := hb.1 h; omega)]; unfold trn; simp only [zL, Pm.half_inv, Grp.assoc, Pm.half_half, Grp.mul_one]
  · rw [if_neg (fun h => h1 (ha.1 h)), if_pos (hb.2 (by omega))]; unfold trn; simp only [Grp.assoc, zVC]
 rw [hK]; have hm := Lat.nf_move (Γ := Pm.lat n) (p := []) (q := v.2) (x := t1 (v.1 - 1) m) (y := (Pm.lat n).K (t1 (v.1 - 1) m)) (c := (Pm.lat n).K (t1 (v.1 - 1) m)) trivial trivial trivial ((Pm.lat n).refl trivial) ((Pm.lat n).refl trivial) (allS _); rw [x_K, Grp.inv_mul] at hm; have hd : (Pm.lat n).nf (Pm.half n :: 1 :: v.2) = (Pm.lat n).Ds 1 ++ v.2 ++ Lat.ones 1 := by
  have := Lat.nf_Ds (Γ := Pm.lat n) 1 (Y := 1 :: v.2) (allS _); rw [nf_1 hP] at this; simp only [List.append_assoc]; exact this
 have hn := Lat.norm_of (kw h2) (hm.trans hd) hP; have hn' : (Pm.lat n).norm ([t1 (v.1 - 1) m] ++ (Pm.lat n).K (t1 (v.1 - 1) m) :: v.2) = (1, v.2) := hn; simp only [mk, hn']; obtain ⟨p, A⟩ := v; simp only; congr 1; omega
noncomputable def hd {n : Nat} (v : Nm n) : Pm n := if 0 < v.1 then Pm.half n else v.2.headD 1
theorem zUM {n : Nat} (h2 : 2 ≤ n) (Y : List (Pm n)) : hd (mk 0 Y) = ((Pm.lat n).nf Y).headD 1 := by
 obtain ⟨j, e, hP, _⟩ := Lat.norm_spec (kw h2) (allS Y); unfold hd mk; generalize (Pm.lat n).norm Y = z at e hP ⊢; obtain ⟨i, A⟩ := z; simp only at e hP ⊢; rw [e]
 cases i with
 | zero =>
  rw [if_neg (by omega)]
  cases A with
  | nil => cases j <;> rfl
  | cons a A => rfl
 | succ i =>
  rw [if_pos (by omega)]
  rfl
theorem zUO {n : Nat} (h2 : 2 ≤ n) (v : Nm n) (hP : (Pm.lat n).Proper v.2) (m : Pm n) (h0 : 0 ≤ (less1 v m).1) : hd v = m * (Pm.lat n).meet ((Pm.lat n).K m) (hd (less1 v m)) := by
 have hb := zQG h2 v hP m; have hP' : (Pm.lat n).Proper (less1 v m).2 := (kf h2 _ _).1; generalize less1 v m = w at hb h0 hP' ⊢; obtain ⟨q, B⟩ := w; simp only at hb h0 hP'
 by_cases h : 0 < q
 · have hs := (kf h2 q (t1 q m :: B)).2.1; rw [hb] at hs; unfold hd; rw [if_pos (by omega), if_pos h, show Pm.half n = (Pm.lat n).D from rfl, Lat.meet_D_r (Γ := Pm.lat n) trivial]; exact (x_K m).symm
 · have h00 : q = 0 := by omega
   subst h00; have ht : t1 0 m = m := rfl; rw [ht] at hb; rw [← hb, zUM h2, Lat.nf_cons, Lat.nf_fix hP'.W]
   cases B with
   | nil =>
    show m = m * (Pm.lat n).meet ((Pm.lat n).K m) 1; rw [Lat.meet_one_r (Γ := Pm.lat n) trivial, Grp.mul_one]
   | cons b B => rfl
theorem zSl {n : Nat} (h2 : 2 ≤ n) (v : Nm n) (h0 : 0 ≤ v.1) (m : Pm n) (hm : m ≠ 1) (hle : (Pm.lat n).le m (hd v)) : 0 ≤ (less1 v m).1 := by
 obtain ⟨p, A⟩ := v; have hs := (kf h2 (p - 1) (t1 p (Pm.half n * m⁻¹) :: A)).2.1
 by_cases h : 0 < p
 · have : p - 1 ≤ (less1 (p, A) m).1 := hs; omega
 · have h00 : p = 0 := by simp only at h0; omega
   subst h00
   cases A with
   | nil => exact (hm (Lat.le_one (Γ := Pm.lat n) trivial hle)).elim
   | cons a A =>
    have hle' : (Pm.lat n).le m a := hle; have hK : (Pm.lat n).K (Pm.half n * m⁻¹) = m := by
     rw [K_eq, zL, kS, Pm.half_inv, Grp.assoc, Pm.half_half, Grp.mul_one]
    have hmv := Lat.nf_move (Γ := Pm.lat n) (p := []) (q := A) (x := Pm.half n * m⁻¹) (y := a) (c := m) trivial trivial trivial (by rw [hK]; exact (Pm.lat n).refl trivial) hle' (allS _); rw [zGd] at hmv; have hd := Lat.nf_Ds (Γ := Pm.lat n) 1 (Y := (m⁻¹ * a) :: A) (allS _); have e : (Pm.lat n).nf (Pm.half n * m⁻¹ :: a :: A) = Pm.half n :: (Pm.lat n).nf ((m⁻¹ * a) :: A) := hmv.trans hd; have hn : ((Pm.lat n).norm (Pm.half n * m⁻¹ :: a :: A)).1 = ((Pm.lat n).fr ((Pm.lat n).nf ((m⁻¹ * a) :: A))).1 + 1 := by
     unfold Lat.norm; rw [e]; simp only [Lat.fr]; rw [if_pos (show Pm.half n = (Pm.lat n).D from rfl)]
    show 0 ≤ (0 : Int) - 1 + (((Pm.lat n).norm (t1 0 (Pm.half n * m⁻¹) :: a :: A)).1 : Nat); have ht : t1 0 (Pm.half n * m⁻¹) = Pm.half n * m⁻¹ := rfl; rw [ht, hn]; omega
theorem zMJ {n : Nat} : ∀ (A : List (Pm n)) (s : Pm n), (Pm.lat n).Wd A → (∀ x ∈ A, x ≠ 1) →
  ∃ B r, (Pm.lat n).pass (A ++ [s]) = B ++ [r] ∧ B.length = A.length ∧ (∀ x ∈ B, x ≠ 1) ∧ (∀ a, A.head? = some a → ∃ x, B.head? = some x ∧ (Pm.lat n).le a x)
 | [], s, _, _ => ⟨[], s, rfl, rfl, fun x hx => by simp at hx, fun a h => by simp at h⟩
 | a :: A, s, hW, hn => by
  obtain ⟨B, r, e, hl, hB, hh⟩ := zMJ A s hW.2 (fun x hx => hn x (List.mem_cons_of_mem _ hx)); have ha : ∀ c, (Pm.lat n).le c ((Pm.lat n).K a) → (Pm.lat n).le a (a * c) ∧ a * c ≠ 1 := fun c hc => by
   have := (Lat.P1 (Γ := Pm.lat n) trivial trivial hc).2; refine ⟨this, fun h1 => ?_⟩; rw [h1] at this; exact hn a List.mem_cons_self (Lat.le_one (Γ := Pm.lat n) trivial this)
  have hp : (Pm.lat n).pass (a :: A ++ [s]) = (Pm.lat n).step1 a (B ++ [r]) := by
   rw [List.cons_append]; show (Pm.lat n).step1 a ((Pm.lat n).pass (A ++ [s])) = _; rw [e]
  cases B with
  | nil =>
   have hc := ha _ ((Pm.lat n).meet_l (x := (Pm.lat n).K a) (y := r) trivial trivial)
   refine ⟨[a * (Pm.lat n).meet ((Pm.lat n).K a) r], ((Pm.lat n).meet ((Pm.lat n).K a) r)⁻¹ * r, hp, by simp only [List.length_cons, List.length_nil] at hl ⊢; omega, fun x hx => ?_, fun a' h => ?_⟩
   · rw [List.mem_singleton] at hx; rw [hx]; exact hc.2
   · simp only [List.head?_cons, Option.some.injEq] at h; subst h; exact ⟨_, rfl, hc.1⟩
  | cons x B =>
   have hc := ha _ ((Pm.lat n).meet_l (x := (Pm.lat n).K a) (y := x) trivial trivial)
   refine ⟨(a * (Pm.lat n).meet ((Pm.lat n).K a) x) :: (((Pm.lat n).meet ((Pm.lat n).K a) x)⁻¹ * x) :: B, r, hp, by simp only [List.length_cons, List.length_nil] at hl ⊢; omega, fun y hy => ?_, fun a' h => ?_⟩
   · rcases List.mem_cons.1 hy with h | hy
     · rw [h]; exact hc.2
     · rcases List.mem_cons.1 hy with h | hy
       · rw [h]; intro h1; have hx : x = (Pm.lat n).meet ((Pm.lat n).K a) x := by
          have := congrArg (fun z => (Pm.lat n).meet ((Pm.lat n).K a) x * z) h1; simp only [zb, Grp.mul_one] at this; exact this
         cases A with
         | nil => simp at hl
         | cons a2 A =>
          obtain ⟨x', hx', hle⟩ := hh a2 rfl; simp only [List.head?_cons, Option.some.injEq] at hx'; subst hx'; have h3 : (Pm.lat n).le a2 ((Pm.lat n).K a) := by
           rw [hx] at hle; exact (Pm.lat n).trans trivial trivial trivial hle ((Pm.lat n).meet_l trivial trivial)
          have h4 := Lat.meet_le (Γ := Pm.lat n) (x := (Pm.lat n).K a) (y := a2) (z := a2) trivial trivial trivial h3 ((Pm.lat n).refl trivial) (hW.1 a2 rfl); exact hn a2 (by simp) h4
       · exact hB y (List.mem_cons_of_mem _ hy)
   · simp only [List.head?_cons, Option.some.injEq] at h; subst h; exact ⟨_, rfl, hc.1⟩
theorem zO6 {n : Nat} (h2 : 2 ≤ n) (X Y : List (Pm n)) : (Pm.lat n).norm (X ++ [1] ++ Y) = (Pm.lat n).norm (X ++ Y) := by
 obtain ⟨j, e, hP, _⟩ := Lat.norm_spec (kw h2) (allS (X ++ Y)); have ho := Lat.nf_ones (Γ := Pm.lat n) (X := X) (Y := Y) 1 (allS _) (allS _); have h : (Pm.lat n).nf (X ++ [1] ++ Y) = (Pm.lat n).Ds ((Pm.lat n).norm (X ++ Y)).1 ++ ((Pm.lat n).norm (X ++ Y)).2 ++ Lat.ones (j + 1) := by
  have ho' : (Pm.lat n).nf (X ++ [1] ++ Y) = (Pm.lat n).nf (X ++ Y) ++ Lat.ones 1 := ho; rw [ho', e]; simp only [Lat.ones, ← List.replicate_append_replicate, List.append_assoc]
 exact Lat.norm_of (kw h2) h hP
theorem zOt {n : Nat} (h2 : 2 ≤ n) : ∀ (X A : List (Pm n)), (Pm.lat n).Wd A → (∀ x ∈ A, x ≠ 1) → A.length ≤ ((Pm.lat n).norm (A ++ X)).1 + ((Pm.lat n).norm (A ++ X)).2.length
 | [], A, hW, hn => by
  obtain ⟨j, e, hP, _⟩ := Lat.norm_spec (kw h2) (allS A); rw [Lat.nf_fix hW] at e; rw [List.append_nil]
  cases j with
  | zero =>
   have := congrArg List.length e; simp only [List.length_append, List.length_replicate, Lat.ones, Lat.Ds] at this; omega
  | succ j =>
   exact (hn 1 (by rw [e]; simp [Lat.ones]) rfl).elim
 | s :: X, A, hW, hn => by
  obtain ⟨B, r, e, hl, hB, _⟩ := zMJ A s hW hn; have hpn := Lat.pass_nf (Γ := Pm.lat n) (s := s) (allS A) trivial hW; have hWB : (Pm.lat n).Wd (B ++ [r]) := by rw [← e]; exact Lat.pass_put (allS A) trivial hW
  have hnn : (Pm.lat n).norm (A ++ s :: X) = (Pm.lat n).norm (B ++ [r] ++ X) := by
   rw [← e, hpn]; unfold Lat.norm; rw [Lat.nf_app_l (allS _) (allS _), List.append_assoc]
   rfl
  rw [hnn]
  by_cases hr : r = 1
  · subst hr; rw [zO6 h2, ← hl]; exact zOt h2 X B (zLq hWB) hB
  · have := zOt h2 X (B ++ [r]) hWB (fun x hx => by
     rcases List.mem_append.1 hx with h | h
     · exact hB x h
     · rw [List.mem_singleton.1 h]; exact hr)
    rw [List.length_append] at this; omega
theorem zSC {n : Nat} : ∀ (M : List (Pm n)) (s : Pm n), (Pm.lat n).Wd M → (∀ m, M.getLast? = some m → (Pm.lat n).meet ((Pm.lat n).K m) s = 1) → (Pm.lat n).Wd (M ++ [s])
 | [], s, _, _ => ⟨fun b h => by simp at h, trivial⟩
 | [a], s, _, h => ⟨fun b hb => by
   have hb' : some s = some b := hb
   cases hb'
   exact h a rfl, fun b h => by simp at h, trivial⟩
 | a :: b :: M, s, hW, h => ⟨fun c hc => hW.1 c (by simpa using hc), zSC (b :: M) s hW.2 (fun m hm => h m (by simpa using hm))⟩
theorem mk_D {n : Nat} (h2 : 2 ≤ n) (p : Int) : mk p [Pm.half n] = (p + 1, []) := by
 have hn : (Pm.lat n).norm [Pm.half n] = (1, []) := Lat.norm_of (kw h2) (i := 1) (j := 0) (by rfl) Lat.Proper.nil; simp only [mk, hn]
 rfl
end Go.Ev.YtmdkgikjnaijeaaGreat
namespace Go.Ev.YtmdkgikjnaijeaaGreat
open Go.Ev Go.Gar
abbrev eN (n : Nat) : Nm n := (0, [])
theorem zJ3 {n : Nat} (k : Int) : tk k ([] : List (Pm n)) = [] := by unfold tk; split <;> rfl
theorem jU {n : Nat} (h2 : 2 ≤ n) (u v w : Nm n) : prod (prod u v) w = prod u (prod v w) := by
 obtain ⟨p, X⟩ := u; obtain ⟨q, Y⟩ := v; obtain ⟨r, Z⟩ := w; have h1 := zUD h2 (p + q + r) r (tk q X ++ Y) Z; have e2 := zRV h2 (p + q + r) (tk (q + r) X) (tk r Y ++ Z); rw [← zL9] at e2; rw [zUs, ← zL9, List.append_assoc] at h1; have l : prod (prod (p, X) (q, Y)) (r, Z) = mk (p + q + r + (((Pm.lat n).norm (tk q X ++ Y)).1 : Nat)) (tk r ((Pm.lat n).norm (tk q X ++ Y)).2 ++ Z) := by
  unfold prod; simp only [mk]; rw [show p + q + (((Pm.lat n).norm (tk q X ++ Y)).1 : Int) + r = p + q + r + (((Pm.lat n).norm (tk q X ++ Y)).1 : Int) by omega]
 have r' : prod (p, X) (prod (q, Y) (r, Z)) = mk (p + q + r + (((Pm.lat n).norm (tk r Y ++ Z)).1 : Nat)) (tk ((((Pm.lat n).norm (tk r Y ++ Z)).1 : Nat) + (q + r)) X ++ ((Pm.lat n).norm (tk r Y ++ Z)).2) := by
  unfold prod; simp only [mk]; rw [show p + (q + r + (((Pm.lat n).norm (tk r Y ++ Z)).1 : Int)) = p + q + r + (((Pm.lat n).norm (tk r Y ++ Z)).1 : Int) by omega, show q + r + (((Pm.lat n).norm (tk r Y ++ Z)).1 : Int) = (((Pm.lat n).norm (tk r Y ++ Z)).1 : Int) + (q + r) by omega]
 rw [l, r', h1, e2, Int.add_comm r q]
theorem zI1 {n : Nat} (h2 : 2 ≤ n) {v : Nm n} (hP : (Pm.lat n).Proper v.2) : prod (eN n) v = v := by
 unfold prod; rw [zJ3, List.nil_append, Int.zero_add, kO h2 _ hP]
theorem zU1 {n : Nat} (h2 : 2 ≤ n) {v : Nm n} (hP : (Pm.lat n).Proper v.2) : prod v (eN n) = v := by
 unfold prod; rw [zNe, List.append_nil, Int.add_zero, kO h2 _ hP]
theorem zRM {n : Nat} (h2 : 2 ≤ n) (v w : Nm n) : (Pm.lat n).Proper (prod v w).2 := (kf h2 _ _).1
noncomputable def isN {n : Nat} (s : Pm n) : Nm n := mk (-1) [Pm.half n * s⁻¹]
theorem zU8 {n : Nat} (h2 : 2 ≤ n) (s : Pm n) : (Pm.lat n).Proper (isN s).2 := (kf h2 (-1) [Pm.half n * s⁻¹]).1
noncomputable def sN {n : Nat} (s : Pm n) : Nm n := mk 0 [s]
theorem zKy {n : Nat} (h2 : 2 ≤ n) (v : Nm n) (q : Int) (Y : List (Pm n)) : prod v (mk q Y) = mk (v.1 + q) (tk q v.2 ++ Y) := by
 have h := zRV h2 (v.1 + q) (tk q v.2) Y; rw [← zL9] at h; rw [← h]; unfold prod; simp only [mk]; rw [show v.1 + (q + (((Pm.lat n).norm Y).1 : Int)) = v.1 + q + (((Pm.lat n).norm Y).1 : Int) by omega, Int.add_comm q]
theorem zSh {n : Nat} (h2 : 2 ≤ n) (p q : Int) (X Y : List (Pm n)) : prod (mk p X) (mk q Y) = mk (p + q) (tk q X ++ Y) := by
 rw [zKy h2]; have h := zUD h2 (p + q) q X Y; rw [← h]; simp only [mk]; rw [show p + (((Pm.lat n).norm X).1 : Int) + q = p + q + (((Pm.lat n).norm X).1 : Int) by omega]
theorem zU6 {n : Nat} (h2 : 2 ≤ n) (x : Pm n) : mk (-1) [x, (Pm.lat n).K x] = eN n := by
 have hm := Lat.nf_move (Γ := Pm.lat n) (p := []) (q := []) (x := x) (y := (Pm.lat n).K x) (c := (Pm.lat n).K x) trivial trivial trivial ((Pm.lat n).refl trivial) ((Pm.lat n).refl trivial) (allS _); rw [x_K, Grp.inv_mul] at hm; have hd : (Pm.lat n).nf [Pm.half n, 1] = (Pm.lat n).Ds 1 ++ [] ++ Lat.ones 1 := by
  have := Lat.nf_Ds (Γ := Pm.lat n) 1 (Y := [1]) (allS _); rw [nf_1 Lat.Proper.nil] at this; exact this
 have hn := Lat.norm_of (kw h2) (hm.trans hd) Lat.Proper.nil; have hn' : (Pm.lat n).norm [x, (Pm.lat n).K x] = (1, []) := hn; simp only [mk, hn']
 rfl
theorem zSH {n : Nat} (s : Pm n) : (Pm.lat n).K (Pm.half n * s⁻¹) = s := by
 rw [K_eq, zL, kS, Pm.half_inv, Grp.assoc, Pm.half_half, Grp.mul_one]
theorem is_s {n : Nat} (h2 : 2 ≤ n) (s : Pm n) : prod (isN s) (sN s) = eN n := by
 have h := zU6 h2 (Pm.half n * s⁻¹); rw [zSH] at h; rw [← h]; exact zSh h2 (-1) 0 _ _
theorem s_is {n : Nat} (h2 : 2 ≤ n) (s : Pm n) : prod (sN s) (isN s) = eN n := by
 have h := zU6 h2 (trn s); have e : (Pm.lat n).K (trn s) = Pm.half n * s⁻¹ := by
  rw [K_eq]; unfold trn; simp only [zL, Pm.half_inv, Grp.assoc, Pm.half_half, Grp.mul_one]
 rw [e] at h; rw [← h]; exact zSh h2 0 (-1) _ _
theorem zOu {n : Nat} (h2 : 2 ≤ n) (w : Nm n) (s : Pm n) : stepI w s = prod w (isN s) := (zKy h2 w (-1) _).symm
theorem zRf {n : Nat} (h2 : 2 ≤ n) : ∀ (l : List (Pm n)) (w : Nm n), (Pm.lat n).Proper w.2 → (Pm.lat n).Proper (l.foldl stepI w).2
 | [], w, h => h
 | s :: l, w, h => zRf h2 l _ (by rw [zOu h2]; exact zRM h2 _ _)
noncomputable def FA {n : Nat} (A : List (Pm n)) : Nm n := A.reverse.foldl stepI (eN n)
theorem FA_P {n : Nat} (h2 : 2 ≤ n) (A : List (Pm n)) : (Pm.lat n).Proper (FA A).2 := zRf h2 _ _ Lat.Proper.nil
theorem zUm {n : Nat} (h2 : 2 ≤ n) (s : Pm n) (A : List (Pm n)) : FA (s :: A) = prod (FA A) (isN s) := by
 unfold FA; rw [List.reverse_cons, List.foldl_append, List.foldl_cons, List.foldl_nil, zOu h2]
theorem zSE {n : Nat} (h2 : 2 ≤ n) (s : Pm n) (A : List (Pm n)) : mk 0 (s :: A) = prod (sN s) (mk 0 A) := (zSh h2 0 0 [s] A).symm
theorem zUn {n : Nat} (h2 : 2 ≤ n) : ∀ A : List (Pm n), prod (FA A) (mk 0 A) = eN n ∧ prod (mk 0 A) (FA A) = eN n
 | [] => by
  have h : mk 0 ([] : List (Pm n)) = eN n := zKB 0; have h' : FA ([] : List (Pm n)) = eN n := rfl; rw [h, h']; exact ⟨zI1 h2 Lat.Proper.nil, zI1 h2 Lat.Proper.nil⟩
 | s :: A => by
  obtain ⟨i1, i2⟩ := zUn h2 A; rw [zUm h2, zSE h2]
  constructor
  · rw [jU h2, ← jU h2 (isN s), is_s h2, zI1 h2 (kf h2 _ _).1, i1]
  · rw [jU h2, ← jU h2 (mk 0 A), i2, zI1 h2 (zU8 h2 s), s_is h2]
theorem zN0 {n : Nat} (h2 : 2 ≤ n) (v : Nm n) : invN v = prod (FA v.2) (-v.1, []) := by
 unfold prod; rw [zQ3, List.append_nil, kO h2 _ (zEG _ (FA_P h2 _))]
 rfl
theorem v_eq {n : Nat} (h2 : 2 ≤ n) {v : Nm n} (hP : (Pm.lat n).Proper v.2) : v = prod (v.1, []) (mk 0 v.2) := by
 rw [kO h2 0 hP]; unfold prod; rw [zJ3, List.nil_append, kO h2 _ hP, Int.add_zero]
theorem D_D {n : Nat} (h2 : 2 ≤ n) (p q : Int) (h : p + q = 0) : prod ((p, []) : Nm n) (q, []) = eN n := by
 unfold prod; rw [zJ3, List.append_nil, h]; exact zKB 0
theorem zVn {n : Nat} (h2 : 2 ≤ n) {v : Nm n} (hP : (Pm.lat n).Proper v.2) : prod (invN v) v = eN n := by
 rw [zN0 h2]; have hv := v_eq h2 hP; have : prod (prod (FA v.2) (-v.1, [])) v = prod (prod (FA v.2) (-v.1, [])) (prod (v.1, []) (mk 0 v.2)) := by rw [← hv]
 rw [this, jU h2, ← jU h2 (-v.1, []), D_D h2 _ _ (by omega), zI1 h2 (kf h2 _ _).1, (zUn h2 _).1]
theorem zVm {n : Nat} (h2 : 2 ≤ n) {v : Nm n} (hP : (Pm.lat n).Proper v.2) : prod v (invN v) = eN n := by
 rw [zN0 h2]; have hv := v_eq h2 hP; have : prod v (prod (FA v.2) (-v.1, [])) = prod (prod (v.1, []) (mk 0 v.2)) (prod (FA v.2) (-v.1, [])) := by rw [← hv]
 rw [this, jU h2, ← jU h2 (mk 0 v.2), (zUn h2 _).2, zI1 h2 Lat.Proper.nil, D_D h2 _ _ (by omega)]
theorem zU9 {n : Nat} (h2 : 2 ≤ n) (v : Nm n) : (Pm.lat n).Proper (invN v).2 := by rw [zN0 h2]; exact zRM h2 _ _
end Go.Ev.YtmdkgikjnaijeaaGreat
