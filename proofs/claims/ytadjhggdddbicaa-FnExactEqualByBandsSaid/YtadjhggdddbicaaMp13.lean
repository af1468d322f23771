/- Put behind dual forms: both packages make the same. -/
import Derived.Test.YtadjhggdddbicaaMp12
set_option linter.unusedVariables false
set_option linter.unusedSimpArgs false
namespace Go.Ev.Ytadjhggdddbicaa
open Go.Ev Go.Gar
noncomputable def mk {n : Nat} (h1 : 1 ≤ n) (p : Int) (l : List (Pm n)) : Nm n := (p + (((latP n h1).norm l).1 : Nat), ((latP n h1).norm l).2)
theorem mk_spec {n : Nat} (h2 : 2 ≤ n) (h1 : 1 ≤ n) (p : Int) {l : List (Pm n)} (hS : (latP n h1).AllS l) : (latP n h1).Proper (mk h1 p l).2 ∧ p ≤ (mk h1 p l).1 ∧ (mk h1 p l).1 + (mk h1 p l).2.length ≤ p + l.length ∧ (mk h1 p l).2.length ≤ l.length := by
  obtain ⟨j, _, hP, hl⟩ := Lat.norm_spec (whP_ne h2) hS
  refine ⟨hP, ?_, ?_, ?_⟩
  · simp only [mk]; omega
  · simp only [mk]; omega
  · simp only [mk]; omega
theorem mk_one {n : Nat} (h2 : 2 ≤ n) (h1 : 1 ≤ n) (p : Int) {A : List (Pm n)} (hP : (latP n h1).Proper A) : mk h1 p (A ++ [1]) = (p, A) := by
  have e := Lat.nf_ones (Γ := latP n h1) (X := A) (Y := []) 1 hP.S Lat.AllS.nil
  simp only [List.append_nil] at e
  have e2 : (latP n h1).norm (A ++ [1]) = (0, A) := Lat.norm_of (whP_ne h2) (i := 0) (j := 1) (by
    have : (Lat.ones 1 : List (Pm n)) = [1] := rfl
    rw [this] at e
    rw [e, Lat.nf_fix hP.W]
    rfl) hP
  simp only [mk, e2]
  simp
theorem snoc_S {n : Nat} {h1 : 1 ≤ n} {A : List (Pm n)} {s : Pm n} (hA : (latP n h1).AllS A) (hs : isP s) : (latP n h1).AllS (A ++ [s]) :=
  hA.app (Lat.AllS.cons hs Lat.AllS.nil)
theorem c_putP (n : Nat) (h2 : 2 ≤ n) (h1 : 1 ≤ n) (hn : n ≤ 8) (v : Nm n) (s : Pm n) (hs : isP s) (hP : (latP n h1).Proper v.2) (hl : v.2.length < 900000) (hp : -1000000000 ≤ v.1) (hp' : v.1 ≤ 1000000000) :
    R i__i_Dual__put [tPIPILA8 (enc v), tA8 (sA s)] = some [tPIPILA8 (enc (mk h1 v.1 (v.2 ++ [s])))] := by
  apply v__i_Dual__put
  by_cases h : s = 1
  · subst h
    simp only [b__i_Dual__put, enc, c_finePart n hn, Option.bind_some, getTV_here, beq_self_eq_true, cond_true, mk_one h2 h1 v.1 hP]
  · have hb : (sA s == sA (1 : Pm n)) = false := by rw [beq_sA hn]; simpa using h
    have h5 := c_put_5 n h1 hn v.2 s v.1 (by omega) hP.W (snoc_S hP.S hs) v.2.length (Nat.le_refl _)
    have e0 : (v.2 ++ [s]).take v.2.length ++ (latP n h1).pass ((v.2 ++ [s]).drop v.2.length) = v.2 ++ [s] := by simp [Lat.pass, Lat.step1]
    rw [e0, Lat.pass_nf hP.S hs hP.W] at h5
    have e1 : wi64 (((sL (v.2 ++ [s])).length : Nat) - 1) = (v.2.length : Int) := by
      rw [sL_len, List.length_append, List.length_cons, List.length_nil, wrap_i64] <;> omega
    have hnl := (latP n h1).nf_len (l := v.2 ++ [s])
    have hf := fr_drop (latP n h1) ((latP n h1).nf (v.2 ++ [s]))
    have hlA : (v.2 ++ [s]).length = v.2.length + 1 := by simp
    have hfl : ((latP n h1).fr ((latP n h1).nf (v.2 ++ [s]))).2.length ≤ v.2.length + 1 := by rw [← hf.1, List.length_drop]; omega
    have h11 := c_put_11 n h1 hn ((latP n h1).nf (v.2 ++ [s])) v.1 hp (by omega) (by omega)
    have h14 := c_put_14 n hn (v.1 + (((latP n h1).fr ((latP n h1).nf (v.2 ++ [s]))).1 : Nat)) _ ((latP n h1).fr ((latP n h1).nf (v.2 ++ [s]))).2 rfl (by omega)
    simp only [b__i_Dual__put, enc, c_finePart n hn, Option.bind_some, getTV_here, getTV_next, hb, cond_false, apOk1 (xs := sL v.2) (x := sA s) (by rw [sL_len]; omega), cond_true, sL_snoc, e1, h5, h11, h14]
    rfl
/-! ### the reference -/
theorem c_l07Put_4 (n : Nat) (h1 : 1 ≤ n) (hn : n ≤ 8) (X : List (Pm n)) (hX : X.length < 1000000) (hS : (latP n h1).AllS X) (x0 x1 x3 x4 : Int) (x2 x5 : List (List Int)) : ∀ k, k < X.length →
    R is_l07Put_4 [tI x0, tI x1, tLA8 x2, tI x3, tI x4, tLA8 x5, tLA8 (sL (X.take k ++ (latP n h1).pass (X.drop k))), tI (n : Int), tI (k : Int)] = some [tI 0, tI x0, tI x1, tLA8 x2, tI x3, tI x4, tLA8 x5, tLA8 (sL ((latP n h1).pass X)), tI (n : Int)] := by
  intro k
  induction k with
  | zero =>
    intro _
    apply vs_l07Put_4
    simp [bs_l07Put_4]
  | succ k ih =>
    intro hk
    have hk' : k < X.length := by omega
    have hlen := (latP n h1).pass_len (l := X.drop (k + 1))
    have hd := pass_drop h1 hk'
    cases hp : (latP n h1).pass (X.drop (k + 1)) with
    | nil =>
      rw [hp] at hlen
      simp at hlen
      omega
    | cons b m =>
      rw [hp] at hd
      have hSk : isP X[k] := hS _ (List.getElem_mem hk')
      have hSb : isP b := by
        have h3 := Lat.pass_S (Γ := latP n h1) (l := X.drop (k + 1)) (fun x hx => hS x (List.mem_of_mem_drop hx))
        rw [hp] at h3
        exact h3 b List.mem_cons_self
      have hSK : isP (X[k]⁻¹ * whP n) := (latP n h1).S_K hSk
      obtain ⟨l1, l2, g1, g2⟩ := cur_get hk' b m
      have e1 : wi64 (((k + 1 : Nat) : Int) - 1) = (k : Int) := by rw [wrap_i64] <;> omega
      have len : (X.take (k + 1) ++ b :: m).length = X.length := by
        rw [hp] at hlen
        simp at hlen ⊢
        omega
      have gg1 := sL_get (n := n) l1
      have gg2 := sL_get (n := n) l2
      rw [g1] at gg1
      rw [g2] at gg2
      have hst : (latP n h1).pass (X.drop k) = (X[k] * meetP (X[k]⁻¹ * whP n) b) :: ((meetP (X[k]⁻¹ * whP n) b)⁻¹ * b) :: m := by
        rw [hd, Lat.step1, ← meetK h1]
      have ih' := ih (by omega)
      rw [hst] at ih'
      have e3 := cur_set hk' b (X[k] * meetP (X[k]⁻¹ * whP n) b) ((meetP (X[k]⁻¹ * whP n) b)⁻¹ * b) m
      have l3 : k + 1 < ((X.take (k + 1) ++ b :: m).set k (X[k] * meetP (X[k]⁻¹ * whP n) b)).length := by rw [List.length_set]; exact l2
      have gg3 := sL_get (n := n) l3
      have g3 : ((X.take (k + 1) ++ b :: m).set k (X[k] * meetP (X[k]⁻¹ * whP n) b))[k + 1] = b := by
        rw [List.getElem_set_ne (by omega), g2]
      rw [g3] at gg3
      apply vs_l07Put_4
      simp (disch := omega) only [bs_l07Put_4, decide_eq_true, cond_true, cond_false, Bool.and_true, Int.toNat_natCast, sL_len, List.length_set, len, gg1, gg2, e1, c_l07Complement n hn, c_l07MeetP n h1 hn hSK hSb, Option.bind_some, getTV_here, c_l07Then n hn, c_l07Back n hn, sL_set, gg3, e3]
      exact ih'
open Classical in
theorem c_l07Put_11 (n : Nat) (hn : n ≤ 8) (Y : List (Pm n)) (hY : Y.length < 1000000) (x0 x1 : Int) (x2 : List (List Int)) : ∀ (d i : Nat) (p : Int) (B : List (Pm n)), i + d = Y.length → -1000000000 ≤ p → p + d ≤ 2000000000 → B.length ≤ i →
    R is_l07Put_11 [tI x0, tI x1, tLA8 x2, tLA8 (sL Y), tI (n : Int), tI p, tLA8 (sL B), tI (n : Int), tI (i : Int)] = some [tI 0, tI x0, tI x1, tLA8 x2, tI (n : Int), tI (p + ((Y.drop i).countP (fun x => decide (x ≠ 1 ∧ x = whP n)) : Nat)), tLA8 (sL (B ++ (Y.drop i).filter (fun x => decide (x ≠ 1 ∧ x ≠ whP n))))] := by
  intro d
  induction d with
  | zero =>
    intro i p B hi _ _ _
    apply vs_l07Put_11
    rw [List.drop_of_length_le (by omega)]
    have h1 : ¬ ((i : Int) < (Y.length : Int)) := by omega
    simp only [bs_l07Put_11, sL_len, decide_eq_false h1, cond_false, List.countP_nil, List.filter_nil, List.append_nil, Int.natCast_zero, Int.add_zero]
  | succ d ih =>
    intro i p B hi hp hp' hB
    have h0 : i < Y.length := by omega
    have w : wi64 ((i : Int) + 1) = ((i + 1 : Nat) : Int) := by rw [wrap_i64] <;> omega
    have w2 : wi64 (p + 1) = p + 1 := by rw [wrap_i64] <;> omega
    have ap : apOk (sL B) [sA Y[i]] = true := apOk1 (by rw [sL_len]; omega)
    rw [List.drop_eq_getElem_cons h0]
    apply vs_l07Put_11
    simp (disch := omega) only [bs_l07Put_11, sL_len, decide_eq_true, cond_true, Bool.and_true, Int.toNat_natCast, sL_get h0, c_l07Fine n hn, c_l07Whole n hn, Option.bind_some, getTV_here, beq_sA hn, w, w2, ap, sL_snoc]
    by_cases e1 : Y[i] = 1
    · rw [decide_eq_true e1, cond_true, ih (i + 1) p B (by omega) hp (by omega) (by omega)]
      rw [List.countP_cons_of_neg (by simp [e1]), List.filter_cons_of_neg (by simp [e1])]
    · by_cases e2 : Y[i] = whP n
      · rw [decide_eq_false e1, cond_false, decide_eq_true e2, cond_true, ih (i + 1) (p + 1) B (by omega) (by omega) (by omega) (by omega)]
        rw [List.countP_cons_of_pos (p := fun x => decide (x ≠ 1 ∧ x = whP n)) (decide_eq_true ⟨e1, e2⟩), List.filter_cons_of_neg (by simp [e2])]
        rw [show p + 1 + ((List.countP (fun x => decide (x ≠ 1 ∧ x = whP n)) (List.drop (i + 1) Y) : Nat) : Int) = p + ((List.countP (fun x => decide (x ≠ 1 ∧ x = whP n)) (List.drop (i + 1) Y) + 1 : Nat) : Int) by omega]
      · rw [decide_eq_false e1, cond_false, decide_eq_false e2, cond_false, ih (i + 1) p (B ++ [Y[i]]) (by omega) hp (by omega) (by simp; omega)]
        rw [List.countP_cons_of_neg (by simp [e2]), List.filter_cons_of_pos (p := fun x => decide (x ≠ 1 ∧ x ≠ whP n)) (decide_eq_true ⟨e1, e2⟩), List.append_assoc]
        rfl
open Classical in
theorem pickP {n : Nat} (h2 : 2 ≤ n) (h1 : 1 ≤ n) {i j : Nat} {A : List (Pm n)} (hP : (latP n h1).Proper A) : (((latP n h1).Ds i ++ A ++ Lat.ones j).countP (fun x => decide (x ≠ 1 ∧ x = whP n))) = i ∧ (((latP n h1).Ds i ++ A ++ Lat.ones j).filter (fun x => decide (x ≠ 1 ∧ x ≠ whP n))) = A := by
  have hD : whP n ≠ 1 := whP_ne h2
  have c1 : ((latP n h1).Ds i).countP (fun x => decide (x ≠ 1 ∧ x = whP n)) = i := by
    show (List.replicate i (whP n)).countP _ = i
    rw [List.countP_replicate, if_pos (decide_eq_true ⟨hD, rfl⟩)]
  have c2 : A.countP (fun x => decide (x ≠ 1 ∧ x = whP n)) = 0 := by
    rw [List.countP_eq_zero]
    intro x hx h
    exact (hP.no x hx).1 (of_decide_eq_true h).2
  have c3 : (Lat.ones j : List (Pm n)).countP (fun x => decide (x ≠ 1 ∧ x = whP n)) = 0 := by
    rw [List.countP_eq_zero]
    intro x hx h
    exact (of_decide_eq_true h).1 (List.eq_of_mem_replicate hx)
  have f1 : ((latP n h1).Ds i).filter (fun x => decide (x ≠ 1 ∧ x ≠ whP n)) = [] := by
    rw [List.filter_eq_nil_iff]
    intro x hx h
    exact (of_decide_eq_true h).2 (List.eq_of_mem_replicate hx)
  have f2 : A.filter (fun x => decide (x ≠ 1 ∧ x ≠ whP n)) = A := by
    rw [List.filter_eq_self]
    intro x hx
    exact decide_eq_true ⟨(hP.no x hx).2, (hP.no x hx).1⟩
  have f3 : (Lat.ones j : List (Pm n)).filter (fun x => decide (x ≠ 1 ∧ x ≠ whP n)) = [] := by
    rw [List.filter_eq_nil_iff]
    intro x hx h
    exact (of_decide_eq_true h).1 (List.eq_of_mem_replicate hx)
  rw [List.countP_append, List.countP_append, List.filter_append, List.filter_append, c1, c2, c3, f1, f2, f3]
  simp
theorem c_l07Put (n : Nat) (h2 : 2 ≤ n) (h1 : 1 ≤ n) (hn : n ≤ 8) (v : Nm n) (s : Pm n) (hs : isP s) (hP : (latP n h1).Proper v.2) (hl : v.2.length < 900000) (hp : -1000000000 ≤ v.1) (hp' : v.1 ≤ 1000000000) :
    R is_l07Put [tPIPILA8 (enc v), tA8 (sA s)] = some [tPIPILA8 (enc (mk h1 v.1 (v.2 ++ [s])))] := by
  have hS := snoc_S (h1 := h1) hP.S hs
  have h4 := c_l07Put_4 n h1 hn (v.2 ++ [s]) (by simp; omega) hS (n : Int) v.1 0 0 (sL v.2) [] v.2.length (by simp)
  have e0 : (v.2 ++ [s]).take v.2.length ++ (latP n h1).pass ((v.2 ++ [s]).drop v.2.length) = v.2 ++ [s] := by simp [Lat.pass, Lat.step1]
  rw [e0, Lat.pass_nf hP.S hs hP.W] at h4
  have hnl := (latP n h1).nf_len (l := v.2 ++ [s])
  have hlA : (v.2 ++ [s]).length = v.2.length + 1 := by simp
  have h11 := c_l07Put_11 n hn ((latP n h1).nf (v.2 ++ [s])) (by omega) 0 0 [] ((latP n h1).nf (v.2 ++ [s])).length 0 v.1 [] (by omega) hp (by omega) (by simp)
  rw [List.drop_zero, List.nil_append] at h11
  obtain ⟨j, e, hP', _⟩ := Lat.norm_spec (whP_ne h2) hS
  obtain ⟨k1, k2⟩ := pickP h2 h1 (i := ((latP n h1).norm (v.2 ++ [s])).1) (j := j) hP'
  rw [← e] at k1 k2
  rw [k1, k2] at h11
  have e1 : wi64 (((sL (v.2 ++ [s])).length : Nat) - 1) = (v.2.length : Int) := by
    rw [sL_len, List.length_append, List.length_cons, List.length_nil, wrap_i64] <;> omega
  apply vs_l07Put
  simp only [sL_nil, Int.natCast_zero] at h11
  simp only [bs_l07Put, enc, apOk0 (ys := sL v.2) (by rw [sL_len]; omega), apOk1 (xs := sL v.2) (x := sA s) (by rw [sL_len]; omega), cond_true, sL_snoc, e1, h4, Option.bind_some, getTV_here, getTV_next, h11]
  rfl
end Go.Ev.Ytadjhggdddbicaa
