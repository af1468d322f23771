/- Put behind dual forms: both packages make the same. -/
import Derived.Test.YteclcmiopobnaaaMp12
set_option linter.unusedVariables false
set_option linter.unusedSimpArgs false
namespace Go.Ev.Yteclcmiopobnaaa.P
open Go.Ev.Yteclcmiopobnaaa
open Go.Ev Go.Gar
noncomputable def mk {n : Nat} (h1 : 1 ≤ n) (p : Int) (l : List (Pm n)) : Nm n := (p + (((latP n h1).norm l).1 : Nat), ((latP n h1).norm l).2)
theorem mk_spec {n : Nat} (h2 : 2 ≤ n) (h1 : 1 ≤ n) (p : Int) {l : List (Pm n)} (hS : (latP n h1).AllS l) : (latP n h1).Proper (mk h1 p l).2 ∧ p ≤ (mk h1 p l).1 ∧ (mk h1 p l).1 + (mk h1 p l).2.length ≤ p + l.length ∧ (mk h1 p l).2.length ≤ l.length := by
  obtain ⟨j, _, hP, hl⟩ := Lat.norm_spec (whP_ne h2) hS
  refine ⟨hP, ?_, ?_, ?_⟩
  · simp only [mk]; omega
  · simp only [mk]; omega
  · simp only [mk]; omega
theorem mk_one {n : Nat} (h2 : 2 ≤ n) (h1 : 1 ≤ n) (p : Int) {A : List (Pm n)} (hP : (latP n h1).Proper A) : mk h1 p (A ++ [1]) = (p, A) := by
  have e := Lat.nf_ones (Γ := latP n h1) (X := A) (Y := []) 1 hP.S Lat.AllS.nil
  simp only [List.append_nil] at e
  have e2 : (latP n h1).norm (A ++ [1]) = (0, A) := Lat.norm_of (whP_ne h2) (i := 0) (j := 1) (by
    have : (Lat.ones 1 : List (Pm n)) = [1] := rfl
    rw [this] at e
    rw [e, Lat.nf_fix hP.W]
    rfl) hP
  simp only [mk, e2]
  simp
theorem snoc_S {n : Nat} {h1 : 1 ≤ n} {A : List (Pm n)} {s : Pm n} (hA : (latP n h1).AllS A) (hs : isP s) : (latP n h1).AllS (A ++ [s]) :=
  hA.app (Lat.AllS.cons hs Lat.AllS.nil)
theorem c_putP (n : Nat) (h2 : 2 ≤ n) (h1 : 1 ≤ n) (hn : n ≤ 8) (v : Nm n) (s : Pm n) (hs : isP s) (hP : (latP n h1).Proper v.2) (hl : v.2.length < 900000) (hp : -1000000000 ≤ v.1) (hp' : v.1 ≤ 1000000000) :
    R i__i_Dual__put [tPIPILA8 (enc v), tA8 (sA s)] = some [tPIPILA8 (enc (mk h1 v.1 (v.2 ++ [s])))] := by
  apply v__i_Dual__put
  by_cases h : s = 1
  · subst h
    simp only [b__i_Dual__put, enc, c_finePart n hn, Option.bind_some, getTV_here, beq_self_eq_true, cond_true, mk_one h2 h1 v.1 hP]
  · have hb : (sA s == sA (1 : Pm n)) = false := by rw [beq_sA hn]; simpa using h
    have h5 := c_put_5 n h1 hn v.2 s v.1 (by omega) hP.W (snoc_S hP.S hs) v.2.length (Nat.le_refl _)
    have e0 : (v.2 ++ [s]).take v.2.length ++ (latP n h1).pass ((v.2 ++ [s]).drop v.2.length) = v.2 ++ [s] := by simp [Lat.pass, Lat.step1]
    rw [e0, Lat.pass_nf hP.S hs hP.W] at h5
    have e1 : wi64 (((sL (v.2 ++ [s])).length : Nat) - 1) = (v.2.length : Int) := by
      rw [sL_len, List.length_append, List.length_cons, List.length_nil, wrap_i64] <;> omega
    have hnl := (latP n h1).nf_len (l := v.2 ++ [s])
    have hf := fr_drop (latP n h1) ((latP n h1).nf (v.2 ++ [s]))
    have hlA : (v.2 ++ [s]).length = v.2.length + 1 := by simp
    have hfl : ((latP n h1).fr ((latP n h1).nf (v.2 ++ [s]))).2.length ≤ v.2.length + 1 := by rw [← hf.1, List.length_drop]; omega
    have h11 := c_put_11 n h1 hn ((latP n h1).nf (v.2 ++ [s])) v.1 hp (by omega) (by omega)
    have h14 := c_put_14 n hn (v.1 + (((latP n h1).fr ((latP n h1).nf (v.2 ++ [s]))).1 : Nat)) _ ((latP n h1).fr ((latP n h1).nf (v.2 ++ [s]))).2 rfl (by omega)
    simp only [b__i_Dual__put, enc, c_finePart n hn, Option.bind_some, getTV_here, getTV_next, hb, cond_false, apOk1 (xs := sL v.2) (x := sA s) (by rw [sL_len]; omega), cond_true, sL_snoc, e1, h5, h11, h14]
    rfl
/-! ### the reference -/
open Classical in
open Classical in
theorem pickP {n : Nat} (h2 : 2 ≤ n) (h1 : 1 ≤ n) {i j : Nat} {A : List (Pm n)} (hP : (latP n h1).Proper A) : (((latP n h1).Ds i ++ A ++ Lat.ones j).countP (fun x => decide (x ≠ 1 ∧ x = whP n))) = i ∧ (((latP n h1).Ds i ++ A ++ Lat.ones j).filter (fun x => decide (x ≠ 1 ∧ x ≠ whP n))) = A := by
  have hD : whP n ≠ 1 := whP_ne h2
  have c1 : ((latP n h1).Ds i).countP (fun x => decide (x ≠ 1 ∧ x = whP n)) = i := by
    show (List.replicate i (whP n)).countP _ = i
    rw [List.countP_replicate, if_pos (decide_eq_true ⟨hD, rfl⟩)]
  have c2 : A.countP (fun x => decide (x ≠ 1 ∧ x = whP n)) = 0 := by
    rw [List.countP_eq_zero]
    intro x hx h
    exact (hP.no x hx).1 (of_decide_eq_true h).2
  have c3 : (Lat.ones j : List (Pm n)).countP (fun x => decide (x ≠ 1 ∧ x = whP n)) = 0 := by
    rw [List.countP_eq_zero]
    intro x hx h
    exact (of_decide_eq_true h).1 (List.eq_of_mem_replicate hx)
  have f1 : ((latP n h1).Ds i).filter (fun x => decide (x ≠ 1 ∧ x ≠ whP n)) = [] := by
    rw [List.filter_eq_nil_iff]
    intro x hx h
    exact (of_decide_eq_true h).2 (List.eq_of_mem_replicate hx)
  have f2 : A.filter (fun x => decide (x ≠ 1 ∧ x ≠ whP n)) = A := by
    rw [List.filter_eq_self]
    intro x hx
    exact decide_eq_true ⟨(hP.no x hx).2, (hP.no x hx).1⟩
  have f3 : (Lat.ones j : List (Pm n)).filter (fun x => decide (x ≠ 1 ∧ x ≠ whP n)) = [] := by
    rw [List.filter_eq_nil_iff]
    intro x hx h
    exact (of_decide_eq_true h).1 (List.eq_of_mem_replicate hx)
  rw [List.countP_append, List.countP_append, List.filter_append, List.filter_append, c1, c2, c3, f1, f2, f3]
  simp
end Go.Ev.Yteclcmiopobnaaa.P
