/- FractionOf: the law. -/
import Derived.Test.YtpfpjhfimmmkmaaMnI
set_option linter.unusedVariables false
set_option linter.unusedSimpArgs false
namespace Go.Ev.Ytpfpjhfimmmkmaa
open Go.Ev Go.Gar
theorem wd_get {n : Nat} : ∀ (A : List (Pm n)) (i : Nat) (h : i + 1 < A.length), (Pm.lat n).Wd A → (Pm.lat n).meet ((Pm.lat n).K (A[i]'(by omega))) A[i + 1] = 1
  | a :: b :: A, 0, h, hW => hW.1 b rfl
  | a :: A, i + 1, h, hW => wd_get A i (by simp only [List.length_cons] at h; omega) hW.2
theorem proper_drop_k {n : Nat} : ∀ (k : Nat) {A : List (Pm n)}, (Pm.lat n).Proper A → (Pm.lat n).Proper (A.drop k)
  | 0, A, h => h
  | k + 1, [], h => h
  | k + 1, a :: A, h => proper_drop_k k ⟨allS _, h.W.2, fun x hx => h.no x (List.mem_cons_of_mem _ hx)⟩
theorem proper_take {n : Nat} (k : Nat) {A : List (Pm n)} (h : (Pm.lat n).Proper A) : (Pm.lat n).Proper (A.take k) :=
  ⟨allS _, Wd_left (V := A.drop k) (by rw [List.take_append_drop]; exact h.W), fun x hx => h.no x (List.mem_of_mem_take hx)⟩
theorem t1_add {n : Nat} (a b : Int) (x : Pm n) : t1 (a + b) x = t1 a (t1 b x) := by
  have h := tk_add a b [x]
  rw [tk_one, tk_one, tk_one] at h
  simpa using h
theorem t1_meet {n : Nat} (k : Int) (x y : Pm n) : (Pm.lat n).meet (t1 k x) (t1 k y) = t1 k ((Pm.lat n).meet x y) := by
  unfold t1
  split
  · rfl
  · exact ((trn_auto n).meet x y trivial trivial).symm
theorem t1_K {n : Nat} (k : Int) (x : Pm n) : (Pm.lat n).K (t1 k x) = t1 k ((Pm.lat n).K x) := by
  unfold t1
  split
  · rfl
  · rw [K_eq, K_eq]
    unfold trn
    simp only [mul_inv_rev, Pm.half_inv, Grp.assoc, Pm.half_half, Grp.mul_one]
theorem t1_one {n : Nat} (k : Int) : t1 k (1 : Pm n) = 1 := by
  unfold t1
  split
  · rfl
  · exact (trn_auto n).one
theorem t1_t1 {n : Nat} (k : Int) (x : Pm n) : t1 k (t1 k x) = x := by
  unfold t1
  by_cases h : k.tmod 2 = 0
  · rw [if_pos h, if_pos h]
  · rw [if_neg h, if_neg h, trn_trn]
theorem t1_half {n : Nat} (k : Int) : t1 k (Pm.half n) = Pm.half n := by
  unfold t1
  split
  · rfl
  · exact (trn_auto n).D
theorem left_K {n : Nat} (w : Pm n) : t1 1 (Pm.half n * w⁻¹) = (Pm.lat n).K w := by
  show trn (Pm.half n * w⁻¹) = _
  rw [K_eq]
  unfold trn
  simp only [Grp.assoc, half_l]
theorem meet_comm {n : Nat} (x y : Pm n) : (Pm.lat n).meet x y = (Pm.lat n).meet y x := by
  apply (Pm.lat n).anti trivial trivial
  · exact (Pm.lat n).le_meet trivial trivial trivial ((Pm.lat n).meet_r trivial trivial) ((Pm.lat n).meet_l trivial trivial)
  · exact (Pm.lat n).le_meet trivial trivial trivial ((Pm.lat n).meet_r trivial trivial) ((Pm.lat n).meet_l trivial trivial)
theorem left_no {n : Nat} {x : Pm n} (k : Int) (h : x ≠ Pm.half n ∧ x ≠ 1) : t1 k (Pm.half n * x⁻¹) ≠ Pm.half n ∧ t1 k (Pm.half n * x⁻¹) ≠ 1 := by
  constructor
  · intro e
    have e1 := congrArg (t1 k) e
    rw [t1_t1, t1_half] at e1
    have e2 : Pm.half n * x⁻¹ = Pm.half n * 1 := by rw [Grp.mul_one]; exact e1
    have e3 := cancel_l e2
    have e4 := congrArg (fun z : Pm n => z⁻¹) e3
    simp only [inv_inv, inv_one] at e4
    exact h.2 e4
  · intro e
    have e1 := congrArg (t1 k) e
    rw [t1_t1, t1_one] at e1
    have e2 := congrArg (fun z => z * x) e1
    simp only [inv_mul_r, Grp.one_mul] at e2
    exact h.1 e2.symm
theorem less_front {n : Nat} (h2 : 2 ≤ n) (x : Pm n) {A : List (Pm n)} (hP : (Pm.lat n).Proper A) : less1 (0, x :: A) x = (0, A) := by
  have hm := Lat.nf_move (Γ := Pm.lat n) (p := []) (q := A) (x := Pm.half n * x⁻¹) (y := x) (c := x) trivial trivial trivial (by rw [K_left]; exact (Pm.lat n).refl trivial) ((Pm.lat n).refl trivial) (allS _)
  rw [inv_mul_r, Grp.inv_mul] at hm
  have hd : (Pm.lat n).nf (Pm.half n :: 1 :: A) = (Pm.lat n).Ds 1 ++ A ++ Lat.ones 1 := by
    have := Lat.nf_Ds (Γ := Pm.lat n) 1 (Y := 1 :: A) (allS _)
    rw [nf_1 hP] at this
    simp only [List.append_assoc]
    exact this
  have hn := Lat.norm_of (half_ne h2) (hm.trans hd) hP
  have hn' : (Pm.lat n).norm (Pm.half n * x⁻¹ :: x :: A) = (1, A) := hn
  unfold less1
  have ht : t1 0 (Pm.half n * x⁻¹) = Pm.half n * x⁻¹ := rfl
  simp only [ht, mk, hn']
  rfl
/-- The reference's gcd of half turns and a weighted list. -/
structure Fi {n : Nat} (q : Nat) (A : List (Pm n)) (j : Nat) (B : List (Pm n)) : Prop where
  P : (Pm.lat n).Proper B
  len : B.length = j
  E : mk ((q : Int) - j) (tk ((q : Int) - j) (A.take j) ++ B) = ((q : Int), [])
  H : ∀ (i : Nat) (hi : i < A.length), i + 1 = j → ∀ h, B.head? = some h → h = t1 ((q : Int) - i) (Pm.half n * A[i]⁻¹)
theorem Fi.step {n : Nat} (h2 : 2 ≤ n) {q : Nat} {A : List (Pm n)} (hA : (Pm.lat n).Proper A) {j : Nat} {B : List (Pm n)} (g : Fi q A j B) (hj : j < A.length) :
    less1 ((q : Int) - j, B) A[j] = ((q : Int) - (j + 1 : Nat), t1 ((q : Int) - j) (Pm.half n * A[j]⁻¹) :: B) ∧ Fi q A (j + 1) (t1 ((q : Int) - j) (Pm.half n * A[j]⁻¹) :: B) := by
  have hP : (Pm.lat n).Proper (t1 ((q : Int) - j) (Pm.half n * A[j]⁻¹) :: B) := by
    refine ⟨allS _, ⟨fun b hb => ?_, g.P.W⟩, fun x hx => ?_⟩
    · have hj0 : j ≠ 0 := by
        intro h
        have := g.len
        rw [h, List.length_eq_zero_iff] at this
        rw [this] at hb
        simp at hb
      obtain ⟨i, rfl⟩ : ∃ i, j = i + 1 := ⟨j - 1, by omega⟩
      have hh := g.H i (by omega) rfl b hb
      have e : (q : Int) - i = ((q : Int) - (i + 1 : Nat)) + 1 := by omega
      rw [hh, e, t1_add, left_K, t1_K, K_left, t1_meet, meet_comm, wd_get A i hj hA.W, t1_one]
    · rcases List.mem_cons.1 hx with h | h
      · rw [h]
        exact left_no _ (hA.no _ (List.getElem_mem hj))
      · exact g.P.no x h
  have e1 : less1 ((q : Int) - j, B) A[j] = ((q : Int) - (j + 1 : Nat), t1 ((q : Int) - j) (Pm.half n * A[j]⁻¹) :: B) := by
    have hm := mk_proper h2 ((q : Int) - j - 1) hP
    unfold less1
    simp only [hm]
    congr 1
    omega
  refine ⟨e1, hP, by simp [g.len], ?_, fun i hi hij h hh => ?_⟩
  · have := E_step h2 (a := ((q : Int) - j, B)) g.P g.E A[j]
    rw [e1, ← take_snoc hj] at this
    exact this
  · have : i = j := by omega
    subst this
    simp only [List.head?_cons, Option.some.injEq] at hh
    exact hh.symm
theorem Fi.zero {n : Nat} (q : Nat) (A : List (Pm n)) : Fi q A 0 [] := by
  refine ⟨Lat.Proper.nil, rfl, ?_, fun i _ h => by omega⟩
  rw [List.take_zero, tk_nil, List.append_nil, mk_nil]
  simp
theorem c_fraction_3 (n : Nat) (h2 : 2 ≤ n) (hn : n ≤ 8) (q : Nat) (hq0 : 0 < q) (hq : q ≤ 200) (A : List (Pm n)) (hA : (Pm.lat n).Proper A) (lA : A.length ≤ 200) (x6 x7 x9 x10 x12 x13 : Int) (x8 x11 x14 : List (List Int)) (t : Nat) (ht : t = min q A.length) : ∀ (d j : Nat) (B : List (Pm n)), j + d = t → Fi q A j B →
    ∃ B', Fi q A t B' ∧ R is_l03Common_3 [tI (n : Int), tI ((q : Int) - j), tLA8 (sL B), tI (n : Int), tI 0, tLA8 (sL (A.drop j)), tI x6, tI x7, tLA8 x8, tI x9, tI x10, tLA8 x11, tI x12, tI x13, tLA8 x14, tI (n : Int), tI 0, tLA8 (sL (A.take j)), tI (n : Int)]
      = some [tI 0, tI (n : Int), tI 0, tLA8 (sL (A.take t)), tI (n : Int), tI ((q : Int) - t), tLA8 (sL B'), tI (n : Int), tI 0, tLA8 (sL (A.drop t))] := by
  intro d
  induction d with
  | zero =>
    intro j B hj g
    have hjt : j = t := by omega
    subst hjt
    refine ⟨B, g, ?_⟩
    have f1 := c_l03First n hn ((q : Int) - j, B)
    have f2 := c_l03First n hn (0, A.drop j)
    have hm : Pm.meet (hd ((q : Int) - j, B)) (hd (0, A.drop j)) = 1 := by
      by_cases hl : A.length ≤ j
      · rw [List.drop_of_length_le hl]
        exact Lat.meet_one_r (Γ := Pm.lat n) trivial
      · have hjq : j = q := by omega
        obtain ⟨i, rfl⟩ : ∃ i, j = i + 1 := ⟨j - 1, by omega⟩
        have hB := g.len
        cases B with
        | nil => simp at hB
        | cons b B =>
          have hh := g.H i (by omega) rfl b rfl
          have e0 : (q : Int) - i = 1 := by omega
          rw [e0, left_K] at hh
          have e1 : hd ((q : Int) - (i + 1 : Nat), b :: B) = b := by
            unfold hd
            rw [if_neg (by simp only; omega)]
            rfl
          have e2 : hd ((0 : Int), A.drop (i + 1)) = A[i + 1]'(by omega) := by
            rw [List.drop_eq_getElem_cons (by omega)]
            rfl
          rw [e1, e2, hh]
          exact wd_get A i (by omega) hA.W
    simp only [enc] at f1 f2
    apply vs_l03Common_3
    simp only [bs_l03Common_3, f1, f2, Option.bind_some, getTV_here, c_l02Meet n hn, hm, c_l02Same n hn, beq_self_eq_true, cond_true]
  | succ d ih =>
    intro j B hj g
    have hjl : j < A.length := by omega
    have hjq : j < q := by omega
    obtain ⟨s1, s2⟩ := g.step h2 hA hjl
    obtain ⟨B', g', hR⟩ := ih (j + 1) _ (by omega) s2
    refine ⟨B', g', ?_⟩
    have f1 := c_l03First n hn ((q : Int) - j, B)
    have f2 := c_l03First n hn (0, A.drop j)
    have e1 : hd ((q : Int) - j, B) = Pm.half n := by
      unfold hd
      rw [if_pos (by simp only; omega)]
    have e2 : hd ((0 : Int), A.drop j) = A[j] := by
      rw [List.drop_eq_getElem_cons hjl]
      rfl
    rw [e1] at f1
    rw [e2] at f2
    have hm : Pm.meet (Pm.half n) A[j] = A[j] := Lat.meet_D_l (Γ := Pm.lat n) trivial
    have h1 : ¬ A[j] = 1 := (hA.no _ (List.getElem_mem hjl)).2
    have htm := c_l03Times_f n h2 hn ((0 : Int), A.take j) A[j] (by simp; omega) (by simp) (by simp)
    have hmk : mk (0 : Int) (A.take j ++ [A[j]]) = (0, A.take (j + 1)) := by rw [← take_snoc hjl]; exact mk_proper h2 0 (proper_take _ hA)
    have hgl := g.len
    have l1 := c_l03Less n h2 hn ((q : Int) - j, B) ⟨g.P, by simp only; omega, by simp only; omega, by simp only; omega, fun h => by omega⟩ A[j]
    have l2 := c_l03Less n h2 hn ((0 : Int), A.drop j) ⟨proper_drop_k j hA, by simp; omega, by simp only; omega, by simp only; omega, fun h => by omega⟩ A[j]
    have e3 : less1 ((0 : Int), A.drop j) A[j] = (0, A.drop (j + 1)) := by
      rw [List.drop_eq_getElem_cons hjl]
      exact less_front h2 _ (proper_drop_k (j + 1) hA)
    rw [s1] at l1
    rw [e3] at l2
    simp only [hmk] at htm
    simp only [enc] at f1 f2 htm l1 l2
    apply vs_l03Common_3
    simp only [bs_l03Common_3, f1, f2, Option.bind_some, getTV_here, c_l02Meet n hn, hm, c_l02Same n hn, beq_sA hn, decide_eq_false h1, cond_false, htm, l1, l2, hR]
theorem frac_inv {n : Nat} (h2 : 2 ≤ n) {q : Nat} {A : List (Pm n)} (hA : (Pm.lat n).Proper A) {t : Nat} {B : List (Pm n)} (g : Fi q A t B) : invN (-(q : Int), A.take t) = ((q : Int) - t, B) := by
  have e : prod (0, A.take t) ((q : Int) - t, B) = ((q : Int), []) := by
    have := g.E
    unfold prod
    rw [Int.zero_add]
    exact this
  have hF := FA_PA h2 (A.take t)
  rw [mk_proper h2 0 (proper_take t hA)] at hF
  rw [invN_eq h2, show (-(-(q : Int), A.take t).1, ([] : List (Pm n))) = ((q : Int), []) by simp, ← e, ← prod_assoc h2]
  show prod (prod (FA (A.take t)) (0, A.take t)) _ = _
  rw [hF.1, e_prod h2 g.P]
/-! ### the law -/
theorem c_FractionOf_bad {a : Int × Int × List (List Int)} (ha : Rows8 a.2.2) (h : isNm a = false) : R is_FractionOf [tPIPILA8 a] = some [tPIPILA8 NoV, tPIPILA8 NoV, tI 1] ∧ R ii_FractionOf [tPIPILA8 a] = some [tPIPILA8 NoV, tPIPILA8 NoV, tI 1] := by
  constructor
  · apply vs_FractionOf
    simp [bs_FractionOf, c_l03Is a ha, h]
  · apply vi_FractionOf
    simp [bi_FractionOf, c_IsNormal a ha, h]
theorem c_FractionOf_ok {n : Nat} (hn1 : 1 ≤ n) (hn : n ≤ 8) {v : Nm n} (hv : OkN v 200) :
    ∃ a b : Nm n, OkN a 200 ∧ OkN b 200 ∧ 0 ≤ a.1 ∧ 0 ≤ b.1 ∧ OkN (invN a) 200 ∧ prod (invN a) b = v ∧ (Pm.lat n).meet (hd a) (hd b) = 1 ∧ (a.1 = 0 ∨ b.1 = 0) ∧ R is_FractionOf [tPIPILA8 (enc v)] = some [tPIPILA8 (enc a), tPIPILA8 (enc b), tI 0] ∧ R ii_FractionOf [tPIPILA8 (enc v)] = some [tPIPILA8 (enc a), tPIPILA8 (enc b), tI 0] := by
  have hr : Rows8 (enc v).2.2 := sL_rows hn v.2
  have h := isNm_enc hn1 hn hv
  have a1 := hv.len
  have a2 := hv.lo
  have a3 := hv.hi
  obtain ⟨p, A⟩ := v
  simp only at a1 a2 a3
  have hA : (Pm.lat n).Proper A := hv.P
  have hr' : Rows8 ((n : Int), p, sL A).2.2 := hr
  have w1 : wi64 (0 - p) = -p := by rw [wrap_i64] <;> omega
  have ap : apOk [] (sL A) = true := apOk0 (by rw [sL_len]; omega)
  by_cases hp : 0 ≤ p
  · have hz : OkN ((0, []) : Nm n) 200 := ⟨Lat.Proper.nil, by simp, by simp, by simp, fun _ => rfl⟩
    have hei : invN ((0, []) : Nm n) = (0, []) := rfl
    refine ⟨(0, []), (p, A), hz, hv, Int.le_refl _, hp, by rw [hei]; exact hz, ?_, Lat.meet_one_l (Γ := Pm.lat n) trivial, .inl rfl, ?_, ?_⟩
    · rw [hei]
      by_cases h2 : 2 ≤ n
      · exact e_prod h2 hA
      · rw [hv.one (by omega)]
        unfold prod
        exact mk_nil _
    · have m1 : mx 0 (-p) = 0 := by unfold mx; split <;> omega
      have m2 : mx 0 p = p := by unfold mx; split <;> omega
      have f1 := c_l03First n hn (0, [])
      have f2 := c_l03First n hn (p, A)
      have h0 : hd ((0, []) : Nm n) = 1 := rfl
      rw [h0] at f1
      have hm : Pm.meet 1 (hd (p, A)) = 1 := Lat.meet_one_l (Γ := Pm.lat n) trivial
      simp only [enc, sL_nil] at f1 f2
      have g5 : R is_l03Common_3 [tI (n : Int), tI 0, tLA8 [], tI (n : Int), tI p, tLA8 (sL A), tI 0, tI 0, tLA8 [], tI 0, tI 0, tLA8 [], tI 0, tI 0, tLA8 [], tI (n : Int), tI 0, tLA8 [], tI (n : Int)] = some [tI 0, tI (n : Int), tI 0, tLA8 [], tI (n : Int), tI 0, tLA8 [], tI (n : Int), tI p, tLA8 (sL A)] := by
        apply vs_l03Common_3
        simp only [bs_l03Common_3, f1, f2, Option.bind_some, getTV_here, c_l02Meet n hn, hm, c_l02Same n hn, beq_self_eq_true, cond_true]
      have g6 : R is_l03Common [tPIPILA8 ((n : Int), 0, []), tPIPILA8 ((n : Int), p, sL A)] = some [tPIPILA8 ((n : Int), 0, []), tPIPILA8 ((n : Int), 0, []), tPIPILA8 ((n : Int), p, sL A)] := by
        apply vs_l03Common
        simp only [bs_l03Common, g5, Option.bind_some, getTV_here, getTV_next]
      apply vs_FractionOf
      simp only [enc, sL_nil] at h ⊢
      simp only [bs_FractionOf, c_l03Is _ hr', h, Option.bind_some, getTV_here, getTV_next, Bool.not_true, cond_false, ap, cond_true, w1, m1, m2, g6]
    · have hc := c_copyNormal ((p, A) : Nm n) (by simp only; omega)
      apply vi_FractionOf
      simp only [enc, sL_nil] at h hc ⊢
      simp only [bi_FractionOf, c_IsNormal _ hr', h, Option.bind_some, getTV_here, Bool.not_true, cond_false, decide_eq_true hp, cond_true, hc]
  · have h2 : 2 ≤ n := by
      by_cases h1 : n = 1
      · have := congrArg Prod.fst (hv.one h1)
        simp only at this
        omega
      · omega
    obtain ⟨q, rfl⟩ : ∃ q : Nat, p = -(q : Int) := ⟨p.natAbs, by omega⟩
    obtain ⟨B', g, hR⟩ := c_fraction_3 n h2 hn q (by omega) (by omega) A hA a1 0 0 0 0 0 0 [] [] [] (min q A.length) rfl (min q A.length) 0 [] (by omega) (Fi.zero q A)
    have hB := g.len
    have hu : OkN ((-(q : Int), A.take (min q A.length)) : Nm n) 200 := ⟨proper_take _ hA, by simp; omega, by simp only; omega, by simp only; omega, fun h => by omega⟩
    have hfi := frac_inv h2 hA g
    have hback : invN (((q : Int) - (min q A.length : Nat), B') : Nm n) = (-(q : Int), A.take (min q A.length)) := by
      have e1 := inv_r h2 hu.P
      rw [hfi] at e1
      have e2 := inv_r h2 (v := ((q : Int) - (min q A.length : Nat), B')) g.P
      have e3 := prod_assoc h2 (-(q : Int), A.take (min q A.length)) ((q : Int) - (min q A.length : Nat), B') (invN ((q : Int) - (min q A.length : Nat), B'))
      rw [e1, e2, e_prod h2 (invN_P h2 _), prod_e h2 hu.P] at e3
      exact e3
    have hmeet : (Pm.lat n).meet (hd (((q : Int) - (min q A.length : Nat), B') : Nm n)) (hd ((0, A.drop (min q A.length)) : Nm n)) = 1 := by
      by_cases hq : q < A.length
      · have e : min q A.length = q := by omega
        have hB0 : B'.length = q := by omega
        have h1 : hd (((q : Int) - (min q A.length : Nat), B') : Nm n) = B'.headD 1 := by
          unfold hd
          rw [if_neg (by simp only; omega)]
        have h2' : hd ((0, A.drop (min q A.length)) : Nm n) = A[q] := by
          unfold hd
          rw [if_neg (by simp only; omega), e]
          simp only [List.drop_eq_getElem_cons hq, List.headD_cons]
        cases hb : B' with
        | nil => rw [hb] at hB0; simp at hB0; omega
        | cons h B =>
          have := g.H (q - 1) (by omega) (by omega) h (by rw [hb]; rfl)
          rw [show ((q : Int) - ((q - 1 : Nat) : Int)) = 1 by omega, left_K] at this
          rw [← hb, h1, h2', hb, List.headD_cons, this]
          have hw := wd_get A (q - 1) (by omega) hA.W
          simp only [show q - 1 + 1 = q by omega] at hw
          exact hw
      · have h2' : hd ((0, A.drop (min q A.length)) : Nm n) = 1 := by
          unfold hd
          rw [if_neg (by simp only; omega), List.drop_eq_nil_of_le (by omega)]
          rfl
        rw [h2']
        exact Lat.meet_one_r (Γ := Pm.lat n) trivial
    have hprod : prod (invN (((q : Int) - (min q A.length : Nat), B') : Nm n)) ((0, A.drop (min q A.length)) : Nm n) = (-(q : Int), A) := by
      rw [hback]
      show mk (-(q : Int) + 0) (A.take (min q A.length) ++ A.drop (min q A.length)) = _
      rw [List.take_append_drop, Int.add_zero, mk_proper h2 _ hA]
    refine ⟨((q : Int) - (min q A.length : Nat), B'), (0, A.drop (min q A.length)), ⟨g.P, by simp only; omega, by simp only; omega, by simp only; omega, fun h => by omega⟩, ⟨proper_drop_k _ hA, by simp; omega, by simp, by simp, fun h => by omega⟩, by simp only; omega, by simp, by rw [hback]; exact hu, hprod, hmeet, .inr rfl, ?_, ?_⟩
    · have m1 : mx 0 (-(-(q : Int))) = q := by unfold mx; split <;> omega
      have m2 : mx 0 (-(q : Int)) = 0 := by unfold mx; split <;> omega
      simp only [Int.natCast_zero, Int.sub_zero, List.drop_zero, List.take_zero, sL_nil] at hR
      have g6 : R is_l03Common [tPIPILA8 ((n : Int), (q : Int), []), tPIPILA8 ((n : Int), 0, sL A)] = some [tPIPILA8 ((n : Int), 0, sL (A.take (min q A.length))), tPIPILA8 ((n : Int), (q : Int) - (min q A.length : Nat), sL B'), tPIPILA8 ((n : Int), 0, sL (A.drop (min q A.length)))] := by
        apply vs_l03Common
        simp only [bs_l03Common, hR, Option.bind_some, getTV_here, getTV_next]
      apply vs_FractionOf
      simp only [enc] at h ⊢
      simp only [bs_FractionOf, c_l03Is _ hr', h, Option.bind_some, getTV_here, getTV_next, Bool.not_true, cond_false, ap, cond_true, w1, m1, m2, g6]
    · have hmn : mn (-(-(q : Int))) (A.length : Int) = ((min q A.length : Nat) : Int) := by
        unfold mn
        split <;> omega
      have hi := c_inverse n hn1 hn (-(q : Int), A.take (min q A.length)) ⟨proper_take _ hA, by simp; omega, by simp only; omega, by simp only; omega, fun h => by omega⟩
      rw [frac_inv h2 hA g] at hi
      have hl : limV ((n : Int), (q : Int) - (min q A.length : Nat), sL B') = (((n : Int), (q : Int) - (min q A.length : Nat), sL B'), 0) := by
        unfold limV
        rw [if_pos ⟨by simp only; omega, by simp only; omega, by simp only [sL_len]; omega⟩]
      have hc := c_copyNormal ((0, A.drop (min q A.length)) : Nm n) (by simp; omega)
      have b1 : ((0 : Int) ≤ ((min q A.length : Nat) : Int)) := by omega
      have b2 : (((min q A.length : Nat) : Int) ≤ (A.length : Int)) := by omega
      have c0 : ((0 : Int) != 0) = false := rfl
      apply vi_FractionOf
      simp only [enc] at h hi hc ⊢
      simp only [bi_FractionOf, c_IsNormal _ hr', h, Option.bind_some, getTV_here, getTV_next, Bool.not_true, cond_false, decide_eq_false hp, w1, sL_len, hmn, decide_eq_true b1, decide_eq_true b2, Bool.and_true, cond_true, Int.toNat_natCast, sL_take, sL_drop, hi, c_limited, hl, c0, hc]
end Go.Ev.Ytpfpjhfimmmkmaa
