/- The greatest common beginning: the walk and the law. -/
import Derived.Test.YtpfpjhfimmmkmaaMnG
set_option linter.unusedVariables false
set_option linter.unusedSimpArgs false
namespace Go.Ev.Ytpfpjhfimmmkmaa
open Go.Ev Go.Gar
structure Gi {n : Nat} (N : Nat) (a0 b0 : Nm n) (M : List (Pm n)) (a b : Nm n) : Prop where
  hz : a0.1 = 0 ∧ a0.2.length ≤ N ∨ b0.1 = 0 ∧ b0.2.length ≤ N
  Pa : (Pm.lat n).Proper a.2
  Pb : (Pm.lat n).Proper b.2
  pa : 0 ≤ a.1
  pb : 0 ≤ b.1
  sa : a.1 + a.2.length ≤ 1000
  sb : b.1 + b.2.length ≤ 1000
  Ea : mk a.1 (tk a.1 M ++ a.2) = a0
  Eb : mk b.1 (tk b.1 M ++ b.2) = b0
  W : (Pm.lat n).Wd M
  no : ∀ x ∈ M, x ≠ Pm.half n ∧ x ≠ 1
  last : ∀ m, M.getLast? = some m → (Pm.lat n).meet ((Pm.lat n).K m) ((Pm.lat n).meet (hd a) (hd b)) = 1
theorem zero_side {n : Nat} (h2 : 2 ≤ n) {N : Nat} {M : List (Pm n)} {a a0 : Nm n} (h0 : 0 ≤ a.1) (E : mk a.1 (tk a.1 M ++ a.2) = a0) (hz : a0.1 = 0) : a.1 = 0 ∧ mk 0 (M ++ a.2) = a0 := by
  have hs := (mk_spec h2 a.1 (tk a.1 M ++ a.2)).2.1
  rw [E, hz] at hs
  have : a.1 = 0 := by omega
  refine ⟨this, ?_⟩
  rw [this] at E
  exact E
theorem len_side {n : Nat} (h2 : 2 ≤ n) {M : List (Pm n)} {a a0 : Nm n} (h0 : 0 ≤ a.1) (E : mk a.1 (tk a.1 M ++ a.2) = a0) (hz : a0.1 = 0) (W : (Pm.lat n).Wd M) (no : ∀ x ∈ M, x ≠ 1) : M.length ≤ a0.2.length := by
  have e := (zero_side h2 (N := 0) h0 E hz).2
  have := sup_ge h2 a.2 M W no
  rw [← e] at hz ⊢
  simp only [mk] at hz ⊢
  omega
theorem Gi.len {n : Nat} (h2 : 2 ≤ n) {N : Nat} {M : List (Pm n)} {a b a0 b0 : Nm n} (g : Gi N a0 b0 M a b) : M.length ≤ N := by
  rcases g.hz with ⟨h, hl⟩ | ⟨h, hl⟩
  · have := len_side h2 g.pa g.Ea h g.W (fun x hx => (g.no x hx).2)
    omega
  · have := len_side h2 g.pb g.Eb h g.W (fun x hx => (g.no x hx).2)
    omega
theorem E_step {n : Nat} (h2 : 2 ≤ n) {M : List (Pm n)} {a a0 : Nm n} (hP : (Pm.lat n).Proper a.2) (E : mk a.1 (tk a.1 M ++ a.2) = a0) (m : Pm n) : mk (less1 a m).1 (tk (less1 a m).1 (M ++ [m]) ++ (less1 a m).2) = a0 := by
  have hb := less1_back h2 a hP m
  generalize less1 a m = w at hb ⊢
  obtain ⟨q, B⟩ := w
  simp only at hb ⊢
  rw [← E, ← hb, tk_app, tk_one, List.append_assoc]
  have h := mk_pre h2 q (tk q M) (t1 q m :: B)
  rw [← tk_add, Int.add_comm ((((Pm.lat n).norm (t1 q m :: B)).1 : Nat) : Int)] at h
  exact h.symm
theorem not_D {n : Nat} (h2 : 2 ≤ n) {a : Nm n} (hP : (Pm.lat n).Proper a.2) (h0 : a.1 = 0) : hd a ≠ Pm.half n := by
  obtain ⟨p, A⟩ := a
  simp only at h0 hP
  subst h0
  cases A with
  | nil => exact fun h => half_ne h2 h.symm
  | cons x A => exact (hP.no x List.mem_cons_self).1
theorem D_le {n : Nat} {x : Pm n} (h : (Pm.lat n).le (Pm.half n) x) : x = Pm.half n := (Pm.lat n).anti trivial trivial ((Pm.lat n).le_D trivial) h
theorem Gi.step {n : Nat} (h2 : 2 ≤ n) {N : Nat} {M : List (Pm n)} {a b a0 b0 : Nm n} (g : Gi N a0 b0 M a b) (hm : (Pm.lat n).meet (hd a) (hd b) ≠ 1) :
    Gi N a0 b0 (M ++ [(Pm.lat n).meet (hd a) (hd b)]) (less1 a ((Pm.lat n).meet (hd a) (hd b))) (less1 b ((Pm.lat n).meet (hd a) (hd b))) := by
  have hl : (Pm.lat n).le ((Pm.lat n).meet (hd a) (hd b)) (hd a) := (Pm.lat n).meet_l trivial trivial
  have hr : (Pm.lat n).le ((Pm.lat n).meet (hd a) (hd b)) (hd b) := (Pm.lat n).meet_r trivial trivial
  have hW := Wd_snoc M _ g.W g.last
  have hmD : (Pm.lat n).meet (hd a) (hd b) ≠ Pm.half n := by
    intro h
    rcases g.hz with ⟨hz, _⟩ | ⟨hz, _⟩
    · rw [h] at hl
      exact not_D h2 g.Pa (zero_side h2 (N := N) g.pa g.Ea hz).1 (D_le hl)
    · rw [h] at hr
      exact not_D h2 g.Pb (zero_side h2 (N := N) g.pb g.Eb hz).1 (D_le hr)
  have pa := less_pos h2 a g.pa _ hm hl
  have pb := less_pos h2 b g.pb _ hm hr
  have ha := hd_less h2 a g.Pa _ pa
  have hb := hd_less h2 b g.Pb _ pb
  have sa := less_sup h2 a ((Pm.lat n).meet (hd a) (hd b))
  have sb := less_sup h2 b ((Pm.lat n).meet (hd a) (hd b))
  have ga := g.sa
  have gb := g.sb
  have Ea := E_step h2 g.Pa g.Ea ((Pm.lat n).meet (hd a) (hd b))
  have Eb := E_step h2 g.Pb g.Eb ((Pm.lat n).meet (hd a) (hd b))
  refine ⟨g.hz, (mk_spec h2 _ _).1, (mk_spec h2 _ _).1, pa, pb, by omega, by omega, Ea, Eb, hW, fun x hx => ?_, fun m h => ?_⟩
  · rcases List.mem_append.1 hx with h | h
    · exact g.no x h
    · rw [List.mem_singleton.1 h]
      exact ⟨hmD, hm⟩
  · rw [List.getLast?_append, List.getLast?_singleton, Option.some_or, Option.some.injEq] at h
    rw [h] at ha hb
    rw [h]
    have hmm : m = (Pm.lat n).meet (hd a) (hd b) := h.symm
    rw [ha, hb] at hmm
    have q1 : (Pm.lat n).le ((Pm.lat n).meet ((Pm.lat n).K m) (hd (less1 a m))) ((Pm.lat n).K m) := (Pm.lat n).meet_l trivial trivial
    have q2 : (Pm.lat n).le ((Pm.lat n).meet ((Pm.lat n).K m) (hd (less1 b m))) ((Pm.lat n).K m) := (Pm.lat n).meet_l trivial trivial
    rw [Lat.meet_mul (Γ := Pm.lat n) trivial trivial trivial q1 q2] at hmm
    have h1 : (Pm.lat n).meet ((Pm.lat n).meet ((Pm.lat n).K m) (hd (less1 a m))) ((Pm.lat n).meet ((Pm.lat n).K m) (hd (less1 b m))) = 1 := by
      apply cancel_l (a := m)
      rw [← hmm, Grp.mul_one]
    have r1 : (Pm.lat n).le ((Pm.lat n).meet ((Pm.lat n).K m) ((Pm.lat n).meet (hd (less1 a m)) (hd (less1 b m)))) ((Pm.lat n).K m) := (Pm.lat n).meet_l trivial trivial
    have r2 : (Pm.lat n).le ((Pm.lat n).meet ((Pm.lat n).K m) ((Pm.lat n).meet (hd (less1 a m)) (hd (less1 b m)))) ((Pm.lat n).meet (hd (less1 a m)) (hd (less1 b m))) := (Pm.lat n).meet_r trivial trivial
    refine Lat.meet_le (Γ := Pm.lat n) trivial trivial trivial ?_ ?_ h1
    · exact (Pm.lat n).le_meet trivial trivial trivial r1 ((Pm.lat n).trans trivial trivial trivial r2 ((Pm.lat n).meet_l trivial trivial))
    · exact (Pm.lat n).le_meet trivial trivial trivial r1 ((Pm.lat n).trans trivial trivial trivial r2 ((Pm.lat n).meet_r trivial trivial))
theorem Gi.P {n : Nat} {N : Nat} {M : List (Pm n)} {a b a0 b0 : Nm n} (g : Gi N a0 b0 M a b) : (Pm.lat n).Proper M := ⟨allS _, g.W, g.no⟩
theorem Gi.oka {n : Nat} (h2 : 2 ≤ n) {N : Nat} {M : List (Pm n)} {a b a0 b0 : Nm n} (g : Gi N a0 b0 M a b) : OkN a 100000 := by
  have h1 := g.pa
  have h2 := g.sa
  exact ⟨g.Pa, by omega, by omega, by omega, fun h => by omega⟩
theorem Gi.okb {n : Nat} (h2 : 2 ≤ n) {N : Nat} {M : List (Pm n)} {a b a0 b0 : Nm n} (g : Gi N a0 b0 M a b) : OkN b 100000 := by
  have h1 := g.pb
  have h2 := g.sb
  exact ⟨g.Pb, by omega, by omega, by omega, fun h => by omega⟩
/-! ### the walk -/
theorem c_l03First (n : Nat) (hn : n ≤ 8) (v : Nm n) : R is_l03First [tPIPILA8 (enc v)] = some [tA8 (sA (hd v))] := by
  apply vs_l03First
  obtain ⟨p, A⟩ := v
  simp only [enc, hd]
  by_cases h : 0 < p
  · simp only [bs_l03First, decide_eq_true h, cond_true, c_l02Half n hn, Option.bind_some, getTV_here, if_pos h]
  · cases A with
    | nil =>
      have h3 : ¬ ((0 : Int) < ((([] : List (List Int)).length : Nat) : Int)) := by simp
      simp only [bs_l03First, decide_eq_false h, cond_false, sL_nil, decide_eq_false h3, c_l02Same n hn, Option.bind_some, getTV_here, if_neg h]
      rfl
    | cons x A =>
      have h3 : ((0 : Int) < ((sL (x :: A)).length : Nat)) := by rw [sL_len]; simp only [List.length_cons]; omega
      simp only [bs_l03First, decide_eq_false h, cond_false, decide_eq_true h3, cond_true, if_neg h]
      rfl
theorem c_head (n : Nat) (hn : n ≤ 8) (v : Nm n) : R ii_head [tPIPILA8 (enc v)] = some [tA8 (sA (hd v))] := by
  apply vi_head
  obtain ⟨p, A⟩ := v
  simp only [enc, hd]
  by_cases h : 0 < p
  · simp only [bi_head, decide_eq_true h, cond_true, c_halfTurn n hn, Option.bind_some, getTV_here, if_pos h]
  · cases A with
    | nil =>
      have h3 : ¬ ((0 : Int) < ((([] : List (List Int)).length : Nat) : Int)) := by simp
      simp only [bi_head, decide_eq_false h, cond_false, sL_nil, decide_eq_false h3, c_nothing n hn, Option.bind_some, getTV_here, if_neg h]
      rfl
    | cons x A =>
      have h3 : ((0 : Int) < ((sL (x :: A)).length : Nat)) := by rw [sL_len]; simp only [List.length_cons]; omega
      simp only [bi_head, decide_eq_false h, cond_false, decide_eq_true h3, cond_true, if_neg h]
      rfl
theorem c_common (n : Nat) (h2 : 2 ≤ n) (hn : n ≤ 8) (N : Nat) (hN : N ≤ 200) (a0 b0 : Nm n) (k : Int) (hk : 0 ≤ k) (hk' : k ≤ 200) (x6 x7 x9 x10 x12 x13 : Int) (x8 x11 x14 : List (List Int)) : ∀ (f : Nat) (M : List (Pm n)) (a b : Nm n), Gi N a0 b0 M a b → M.length + f = N + 1 →
    ∃ (M' : List (Pm n)) (a' b' : Nm n), Gi N a0 b0 M' a' b' ∧ (Pm.lat n).meet (hd a') (hd b') = 1 ∧
      R is_l03Common_3 [tI (n : Int), tI a.1, tLA8 (sL a.2), tI (n : Int), tI b.1, tLA8 (sL b.2), tI x6, tI x7, tLA8 x8, tI x9, tI x10, tLA8 x11, tI x12, tI x13, tLA8 x14, tI (n : Int), tI k, tLA8 (sL M), tI (n : Int)]
        = some [tI 0, tI (n : Int), tI k, tLA8 (sL M'), tI (n : Int), tI a'.1, tLA8 (sL a'.2), tI (n : Int), tI b'.1, tLA8 (sL b'.2)] ∧
      R ii_CommonBeginning_11 [tI (n : Int), tI a.1, tLA8 (sL a.2), tI (n : Int), tI b.1, tLA8 (sL b.2), tI x6, tI x7, tLA8 x8, tI (n : Int), tI k, tLA8 (sL M), tI (n : Int)]
        = some [tI 0, tI (n : Int), tI k, tLA8 (sL M'), tI 0] := by
  intro f
  induction f with
  | zero =>
    intro M a b g hf
    have := g.len h2
    omega
  | succ f ih =>
    intro M a b g hf
    have hM := g.len h2
    have ha := c_l03First n hn a
    have hb := c_l03First n hn b
    have ha' := c_head n hn a
    have hb' := c_head n hn b
    simp only [enc] at ha hb ha' hb'
    by_cases hm : (Pm.lat n).meet (hd a) (hd b) = 1
    · have hm' : Pm.meet (hd a) (hd b) = 1 := hm
      have hl : limV ((n : Int), k, sL M) = (((n : Int), k, sL M), 0) := by
        unfold limV
        rw [if_pos ⟨by simp only; omega, by simp only; omega, by simp only [sL_len]; omega⟩]
      refine ⟨M, a, b, g, hm, ?_, ?_⟩
      · apply vs_l03Common_3
        simp only [bs_l03Common_3, ha, hb, Option.bind_some, getTV_here, c_l02Meet n hn, c_l02Same n hn, beq_sA hn, decide_eq_true hm', cond_true]
      · apply vi_CommonBeginning_11
        simp only [bi_CommonBeginning_11, ha', hb', Option.bind_some, getTV_here, getTV_next, c_meet n hn, c_nothing n hn, beq_sA hn, decide_eq_true hm', cond_true, c_limited, hl]
    · have hm' : ¬ Pm.meet (hd a) (hd b) = 1 := hm
      have g' := g.step h2 hm
      obtain ⟨M', a', b', g1, g2, g3, g4⟩ := ih _ _ _ g' (by simp; omega)
      have hmk : mk k (M ++ [Pm.meet (hd a) (hd b)]) = (k, M ++ [Pm.meet (hd a) (hd b)]) := mk_proper h2 k g'.P
      have ht := c_l03Times_f n h2 hn (k, M) (Pm.meet (hd a) (hd b)) (by simp only; omega) (by simp only; omega) (by simp only; omega)
      have hp := c_put n h2 hn (k, M) (Pm.meet (hd a) (hd b)) g.P (by simp only; omega) (by simp only; omega) (by simp only; omega)
      simp only [hmk] at ht hp
      have l1 := c_l03Less n h2 hn a (g.oka h2) (Pm.meet (hd a) (hd b))
      have l2 := c_l03Less n h2 hn b (g.okb h2) (Pm.meet (hd a) (hd b))
      have l3 := c_withoutHead n h2 hn a (g.oka h2) (Pm.meet (hd a) (hd b))
      have l4 := c_withoutHead n h2 hn b (g.okb h2) (Pm.meet (hd a) (hd b))
      simp only [enc] at ht hp l1 l2 l3 l4
      have g3' : R is_l03Common_3 [tI (n : Int), tI (less1 a (Pm.meet (hd a) (hd b))).1, tLA8 (sL (less1 a (Pm.meet (hd a) (hd b))).2), tI (n : Int), tI (less1 b (Pm.meet (hd a) (hd b))).1, tLA8 (sL (less1 b (Pm.meet (hd a) (hd b))).2), tI x6, tI x7, tLA8 x8, tI x9, tI x10, tLA8 x11, tI x12, tI x13, tLA8 x14, tI (n : Int), tI k, tLA8 (sL (M ++ [Pm.meet (hd a) (hd b)])), tI (n : Int)]
        = some [tI 0, tI (n : Int), tI k, tLA8 (sL M'), tI (n : Int), tI a'.1, tLA8 (sL a'.2), tI (n : Int), tI b'.1, tLA8 (sL b'.2)] := g3
      have g4' : R ii_CommonBeginning_11 [tI (n : Int), tI (less1 a (Pm.meet (hd a) (hd b))).1, tLA8 (sL (less1 a (Pm.meet (hd a) (hd b))).2), tI (n : Int), tI (less1 b (Pm.meet (hd a) (hd b))).1, tLA8 (sL (less1 b (Pm.meet (hd a) (hd b))).2), tI x6, tI x7, tLA8 x8, tI (n : Int), tI k, tLA8 (sL (M ++ [Pm.meet (hd a) (hd b)])), tI (n : Int)]
        = some [tI 0, tI (n : Int), tI k, tLA8 (sL M'), tI 0] := g4
      refine ⟨M', a', b', g1, g2, ?_, ?_⟩
      · apply vs_l03Common_3
        simp only [bs_l03Common_3, ha, hb, Option.bind_some, getTV_here, c_l02Meet n hn, c_l02Same n hn, beq_sA hn, decide_eq_false hm', cond_false, ht, l1, l2, g3']
      · apply vi_CommonBeginning_11
        simp only [bi_CommonBeginning_11, ha', hb', Option.bind_some, getTV_here, c_meet n hn, c_nothing n hn, beq_sA hn, decide_eq_false hm', cond_false, hp, l3, l4, g4']
theorem less_D {n : Nat} (h2 : 2 ≤ n) (p : Int) {A : List (Pm n)} (hP : (Pm.lat n).Proper A) : less1 (p, A) (Pm.half n) = (p - 1, A) := by
  have e : t1 p (Pm.half n * (Pm.half n)⁻¹) = (1 : Pm n) := by
    rw [Grp.mul_inv]
    unfold t1
    split
    · rfl
    · exact (trn_auto n).one
  have hn : (Pm.lat n).norm (1 :: A) = (0, A) := Lat.norm_of (half_ne h2) (i := 0) (j := 1) (by rw [nf_1 hP]; rfl) hP
  unfold less1
  simp only [e, mk, hn]
  congr 1
  omega
/-- As long as both have half turns, the reference takes one off. -/
theorem c_common_D (n : Nat) (h2 : 2 ≤ n) (hn : n ≤ 8) (A B : List (Pm n)) (hA : (Pm.lat n).Proper A) (hB : (Pm.lat n).Proper B) (lA : A.length ≤ 200) (lB : B.length ≤ 200) (x6 x7 x9 x10 x12 x13 : Int) (x8 x11 x14 : List (List Int)) (o : List TV) : ∀ (k : Nat) (j : Nat) (p q : Int), 0 ≤ p → 0 ≤ q → p + k ≤ 200 → q + k ≤ 200 → j + k ≤ 1000 →
    R is_l03Common_3 [tI (n : Int), tI p, tLA8 (sL A), tI (n : Int), tI q, tLA8 (sL B), tI x6, tI x7, tLA8 x8, tI x9, tI x10, tLA8 x11, tI x12, tI x13, tLA8 x14, tI (n : Int), tI ((j + k : Nat) : Int), tLA8 [], tI (n : Int)] = some o →
    R is_l03Common_3 [tI (n : Int), tI (p + k), tLA8 (sL A), tI (n : Int), tI (q + k), tLA8 (sL B), tI x6, tI x7, tLA8 x8, tI x9, tI x10, tLA8 x11, tI x12, tI x13, tLA8 x14, tI (n : Int), tI (j : Int), tLA8 [], tI (n : Int)] = some o := by
  intro k
  induction k with
  | zero =>
    intro j p q _ _ _ _ _ h
    simpa using h
  | succ k ih =>
    intro j p q hp hq hp' hq' hj h
    have h' := ih (j + 1) p q hp hq (by omega) (by omega) (by omega) (by rw [show j + 1 + k = j + (k + 1) by omega]; exact h)
    have f1 := c_l03First n hn (p + (k + 1 : Nat), A)
    have f2 := c_l03First n hn (q + (k + 1 : Nat), B)
    have e1 : hd ((p + (k + 1 : Nat), A) : Nm n) = Pm.half n := by unfold hd; rw [if_pos (by simp only; omega)]
    have e2 : hd ((q + (k + 1 : Nat), B) : Nm n) = Pm.half n := by unfold hd; rw [if_pos (by simp only; omega)]
    rw [e1] at f1
    rw [e2] at f2
    have hm : Pm.meet (Pm.half n) (Pm.half n) = Pm.half n := Lat.meet_D_l (Γ := Pm.lat n) trivial
    have h1 : ¬ Pm.half n = 1 := half_ne h2
    have ht := c_l03Times_f n h2 hn ((j : Int), []) (Pm.half n) (by simp) (by simp only; omega) (by simp only; omega)
    rw [List.nil_append, mk_D h2] at ht
    have l1 := c_l03Less n h2 hn (p + (k + 1 : Nat), A) ⟨hA, by simp only; omega, by simp only; omega, by simp only; omega, fun h => by omega⟩ (Pm.half n)
    have l2 := c_l03Less n h2 hn (q + (k + 1 : Nat), B) ⟨hB, by simp only; omega, by simp only; omega, by simp only; omega, fun h => by omega⟩ (Pm.half n)
    rw [less_D h2 _ hA] at l1
    rw [less_D h2 _ hB] at l2
    rw [show p + ((k + 1 : Nat) : Int) - 1 = p + (k : Int) by omega] at l1
    rw [show q + ((k + 1 : Nat) : Int) - 1 = q + (k : Int) by omega] at l2
    simp only [enc, sL_nil] at f1 f2 ht l1 l2
    rw [show ((j + 1 : Nat) : Int) = (j : Int) + 1 by omega] at h'
    apply vs_l03Common_3
    simp only [bs_l03Common_3, f1, f2, Option.bind_some, getTV_here, c_l02Meet n hn, hm, c_l02Same n hn, beq_sA hn, decide_eq_false h1, cond_false, ht, l1, l2, h']
/-- The common beginning of two positive braids, by both packages. -/
theorem c_common_all (n : Nat) (hn1 : 1 ≤ n) (hn : n ≤ 8) (a b : Nm n) (ha : OkN a 200) (hb : OkN b 200) (pa : 0 ≤ a.1) (pb : 0 ≤ b.1) (hbo : both (enc a) (enc b) = 0) :
    ∃ (k : Int) (M : List (Pm n)) (a' b' : Nm n), M.length ≤ 200 ∧ (Pm.lat n).meet (hd a') (hd b') = 1 ∧ (n = 1 ∧ a' = (0, []) ∧ k = 0 ∧ M = [] ∨ (2 ≤ n ∧ 0 ≤ k ∧ k ≤ a.1 ∧ k ≤ b.1 ∧ Gi 200 (a.1 - k, a.2) (b.1 - k, b.2) M a' b')) ∧
      R is_l03Common [tPIPILA8 (enc a), tPIPILA8 (enc b)] = some [tPIPILA8 (enc ((k, M) : Nm n)), tPIPILA8 (enc a'), tPIPILA8 (enc b')] ∧
      R ii_CommonBeginning [tPIPILA8 (enc a), tPIPILA8 (enc b)] = some [tPIPILA8 (enc ((k, M) : Nm n)), tI 0] := by
  have hpos : R ii_arePositive [tPIPILA8 (enc a), tPIPILA8 (enc b)] = some [tI 0] := by
    apply vi_arePositive
    have h1 : ¬ ((enc a).2.1 < 0) := by simp only [enc]; omega
    have h2 : ¬ ((enc b).2.1 < 0) := by simp only [enc]; omega
    simp [bi_arePositive, c_areSameCount (enc a) (enc b) (sL_rows hn a.2) (sL_rows hn b.2), hbo, h1, h2]
  by_cases h2 : 2 ≤ n
  · have a1 := ha.len
    have a3 := ha.hi
    have b1 := hb.len
    have b3 := hb.hi
    have tnil : ∀ k : Int, tk k ([] : List (Pm n)) = [] := fun k => by unfold tk; split <;> rfl
    have hk : ∃ k : Nat, (k : Int) = mn a.1 b.1 ∧ (k : Int) ≤ a.1 ∧ (k : Int) ≤ b.1 ∧ ((k : Int) = a.1 ∨ (k : Int) = b.1) := by
      unfold mn
      split
      · exact ⟨b.1.toNat, by omega, by omega, by omega, by omega⟩
      · exact ⟨a.1.toNat, by omega, by omega, by omega, by omega⟩
    obtain ⟨k, hmn, ka, kb, hor⟩ := hk
    have hz : ((a.1 - k, a.2) : Nm n).1 = 0 ∧ ((a.1 - k, a.2) : Nm n).2.length ≤ 200 ∨ ((b.1 - k, b.2) : Nm n).1 = 0 ∧ ((b.1 - k, b.2) : Nm n).2.length ≤ 200 := by
      rcases hor with h | h
      · left; exact ⟨by simp only; omega, a1⟩
      · right; exact ⟨by simp only; omega, b1⟩
    have g : Gi 200 (a.1 - k, a.2) (b.1 - k, b.2) [] ((a.1 - k, a.2) : Nm n) (b.1 - k, b.2) :=
      ⟨hz, ha.P, hb.P, by simp only; omega, by simp only; omega, by simp only; omega, by simp only; omega, by rw [tnil]; exact mk_proper h2 _ ha.P, by rw [tnil]; exact mk_proper h2 _ hb.P, trivial, fun x hx => by simp at hx, fun m h => by simp at h⟩
    obtain ⟨M, a', b', g1, g2, g3, g4⟩ := c_common n h2 hn 200 (Nat.le_refl _) _ _ (k : Int) (by omega) (by omega) 0 0 0 0 0 0 [] [] [] 201 [] _ _ g rfl
    have g5 := c_common_D n h2 hn a.2 b.2 ha.P hb.P a1 b1 0 0 0 0 0 0 [] [] [] _ k 0 (a.1 - k) (b.1 - k) (by omega) (by omega) (by omega) (by omega) (by omega) (by rw [Nat.zero_add]; exact g3)
    rw [show a.1 - k + k = a.1 by omega, show b.1 - k + k = b.1 by omega] at g5
    refine ⟨k, M, a', b', g1.len h2, g2, .inr ⟨h2, by omega, ka, kb, g1⟩, ?_, ?_⟩
    · apply vs_l03Common
      simp only [Int.natCast_zero] at g5
      simp only [bs_l03Common, enc, g5, Option.bind_some, getTV_here, getTV_next]
    · apply vi_CommonBeginning
      have ht := c_turnBy n hn1 hn (0, []) (k : Int) (fun h => by omega) (by simp) (by simp) (by simp) (by omega) (by omega)
      rw [tnil] at ht
      have w1 : wi64 (a.1 - (k : Int)) = a.1 - k := by rw [wrap_i64] <;> omega
      have w2 : wi64 (b.1 - (k : Int)) = b.1 - k := by rw [wrap_i64] <;> omega
      simp only [enc, sL_nil, Int.zero_add] at ht hpos g4 ⊢
      have c0 : ((0 : Int) != 0) = false := rfl
      by_cases h0 : (0 : Int) < (k : Int)
      · simp only [bi_CommonBeginning, hpos, Option.bind_some, getTV_here, c0, cond_false, ← hmn, decide_eq_true h0, cond_true, ht, w1, w2, g4, getTV_next]
      · have hk0 : k = 0 := by omega
        subst hk0
        simp only [Int.natCast_zero, Int.sub_zero] at g4 hmn h0
        simp only [bi_CommonBeginning, hpos, Option.bind_some, getTV_here, c0, cond_false, ← hmn, decide_eq_false h0, g4, getTV_next]
        rfl
  · have h1 : n = 1 := by omega
    have e1 := ha.one h1
    have e2 := hb.one h1
    subst e1
    subst e2
    have hm : Pm.meet (1 : Pm n) 1 = 1 := Lat.meet_one_l (Γ := Pm.lat n) trivial
    have h0 : hd ((0, []) : Nm n) = 1 := rfl
    have f1 := c_l03First n hn (0, [])
    have f2 := c_head n hn (0, [])
    rw [h0] at f1 f2
    have hl : limV ((n : Int), 0, []) = (((n : Int), 0, []), 0) := by
      unfold limV
      rw [if_pos ⟨by simp, by simp, by simp⟩]
    refine ⟨0, [], (0, []), (0, []), by simp, hm, .inl ⟨h1, rfl, rfl, rfl⟩, ?_, ?_⟩
    · have g5 : R is_l03Common_3 [tI (n : Int), tI 0, tLA8 [], tI (n : Int), tI 0, tLA8 [], tI 0, tI 0, tLA8 [], tI 0, tI 0, tLA8 [], tI 0, tI 0, tLA8 [], tI (n : Int), tI 0, tLA8 [], tI (n : Int)] = some [tI 0, tI (n : Int), tI 0, tLA8 [], tI (n : Int), tI 0, tLA8 [], tI (n : Int), tI 0, tLA8 []] := by
        apply vs_l03Common_3
        simp only [enc, sL_nil] at f1
        simp only [bs_l03Common_3, f1, Option.bind_some, getTV_here, c_l02Meet n hn, hm, c_l02Same n hn, beq_self_eq_true, cond_true]
      apply vs_l03Common
      simp only [bs_l03Common, enc, sL_nil, g5, Option.bind_some, getTV_here, getTV_next]
    · have g5 : R ii_CommonBeginning_11 [tI (n : Int), tI 0, tLA8 [], tI (n : Int), tI 0, tLA8 [], tI 0, tI 0, tLA8 [], tI (n : Int), tI 0, tLA8 [], tI (n : Int)] = some [tI 0, tI (n : Int), tI 0, tLA8 [], tI 0] := by
        apply vi_CommonBeginning_11
        simp only [enc, sL_nil] at f2
        simp only [bi_CommonBeginning_11, f2, Option.bind_some, getTV_here, getTV_next, c_meet n hn, hm, c_nothing n hn, beq_self_eq_true, cond_true, c_limited, hl]
      have hmn : mn 0 0 = 0 := rfl
      have c0 : ((0 : Int) != 0) = false := rfl
      have c1 : decide ((0 : Int) < 0) = false := rfl
      apply vi_CommonBeginning
      simp only [enc, sL_nil] at hpos ⊢
      simp only [bi_CommonBeginning, hpos, Option.bind_some, getTV_here, getTV_next, c0, cond_false, hmn, c1, g5]
/-- The code of two positive arguments. -/
noncomputable def posC (a b : Int × Int × List (List Int)) : Int := if both a b = 0 then (if a.2.1 < 0 ∨ b.2.1 < 0 then 5 else 0) else both a b
theorem c_l03Positive (a b : Int × Int × List (List Int)) (ha : Rows8 a.2.2) (hb : Rows8 b.2.2) : R is_l03Positive [tPIPILA8 a, tPIPILA8 b] = some [tI (posC a b)] := by
  apply vs_l03Positive
  simp only [bs_l03Positive, c_l03Both a b ha hb, Option.bind_some, getTV_here, posC, beq_dec]
  by_cases h : both a b = 0
  · by_cases h1 : a.2.1 < 0
    · simp [h, h1]
    · by_cases h2 : b.2.1 < 0 <;> simp [h, h1, h2]
  · simp [h]
theorem c_arePositive (a b : Int × Int × List (List Int)) (ha : Rows8 a.2.2) (hb : Rows8 b.2.2) : R ii_arePositive [tPIPILA8 a, tPIPILA8 b] = some [tI (posC a b)] := by
  apply vi_arePositive
  simp only [bi_arePositive, c_areSameCount a b ha hb, Option.bind_some, getTV_here, posC, bne_dec]
  by_cases h : both a b = 0
  · by_cases h1 : a.2.1 < 0
    · simp [h, h1]
    · by_cases h2 : b.2.1 < 0 <;> simp [h, h1, h2]
  · simp [h]
theorem posC_cases (a b : Int × Int × List (List Int)) : (posC a b ≠ 0) ∨ (posC a b = 0 ∧ both a b = 0 ∧ ∃ (n : Nat) (v w : Nm n), 1 ≤ n ∧ n ≤ 8 ∧ OkN v 200 ∧ OkN w 200 ∧ 0 ≤ v.1 ∧ 0 ≤ w.1 ∧ a = enc v ∧ b = enc w) := by
  rcases both_cases a b with h | ⟨h, n, v, w, q1, q2, q3, q4, rfl, rfl⟩
  · left; unfold posC; rw [if_neg h]; exact h
  · by_cases hs : (enc v).2.1 < 0 ∨ (enc w).2.1 < 0
    · left; unfold posC; rw [if_pos h, if_pos hs]; decide
    · right
      have h1 : (enc v).2.1 = v.1 := rfl
      have h2 : (enc w).2.1 = w.1 := rfl
      exact ⟨by unfold posC; rw [if_pos h, if_neg hs], h, n, v, w, q1, q2, q3, q4, by omega, by omega, rfl, rfl⟩
theorem c_CommonBeginning_bad {a b : Int × Int × List (List Int)} (ha : Rows8 a.2.2) (hb : Rows8 b.2.2) (h : posC a b ≠ 0) : R is_CommonBeginning [tPIPILA8 a, tPIPILA8 b] = some [tPIPILA8 NoV, tI (posC a b)] ∧ R ii_CommonBeginning [tPIPILA8 a, tPIPILA8 b] = some [tPIPILA8 NoV, tI (posC a b)] := by
  constructor
  · apply vs_CommonBeginning
    simp [bs_CommonBeginning, c_l03Positive a b ha hb, h, bne_dec]
  · apply vi_CommonBeginning
    simp [bi_CommonBeginning, c_arePositive a b ha hb, h, bne_dec]
end Go.Ev.Ytpfpjhfimmmkmaa
