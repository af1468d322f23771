/- Is it simple, is it normal? Both packages answer alike. -/
import Derived.Test.YtolpnaiincngjaaGreatMn6
import Derived.Test.YtolpnaiincngjaaGreatMa2
set_option linter.unusedVariables false
set_option linter.unusedSimpArgs false
namespace Go.Ev.YtolpnaiincngjaaGreat
open Go.Ev Go.Gar
open Classical in
/-- Is the array a simple braid of n strands? -/
noncomputable def isSm (n : Int) (a : List Int) : Bool := decide (1 ≤ n) && decide (n ≤ 8) && decide (∃ s : Pm n.toNat, a = sA s)
theorem c_l02Is_5 (n : Nat) (hn : n ≤ 8) (a : List Int) (ha : B8 a) : ∀ (k : Nat) (met : List Bool), k ≤ 8 → met.length = 8 →
    R is_l02Is_5 [tA8 a, tAB8 met, tI (n : Int), tI ((8 - k : Nat) : Int)] = some (if chk n a k met then [tI 0] else [tI 1, tB false]) := by
  intro k
  induction k with
  | zero =>
    intro met _ _
    apply vs_l02Is_5
    simp [bs_l02Is_5, chk]
  | succ k ih =>
    intro met hk hm
    have hb := (ha.at (show 7 - k < 8 by omega)).2
    have e : 8 - (k + 1) = 7 - k := by omega
    apply vs_l02Is_5
    rw [e]
    unfold chk
    have e1 : wi64 (((7 - k : Nat) : Int) + 1) = ((8 - k : Nat) : Int) := by rw [wrap_i64] <;> omega
    have e2 : wi64 (List.getD a (7 - k) 0) = List.getD a (7 - k) 0 := wrap_i64 (by omega) (by omega)
    simp (disch := omega) only [bs_l02Is_5, decide_eq_true, cond_true, Bool.and_true, Int.toNat_natCast, e1, e2]
    by_cases h : n ≤ 7 - k
    · have h' : ((n : Int) ≤ ((7 - k : Nat) : Int)) := by omega
      rw [decide_eq_true h', cond_true, if_pos h, ih met (by omega) hm]
      by_cases h2 : List.getD a (7 - k) 0 = 0
      · simp only [h2, bne_self_eq_false, cond_false, beq_self_eq_true, Bool.true_and]
      · have h3 : (List.getD a (7 - k) 0 == 0) = false := by rw [beq_dec, decide_eq_false h2]
        have h4 : (List.getD a (7 - k) 0 != 0) = true := by rw [bne_dec, decide_eq_false h2]; rfl
        rw [h3, h4]
        simp
    · have h' : ¬ ((n : Int) ≤ ((7 - k : Nat) : Int)) := by omega
      rw [decide_eq_false h', cond_false, if_neg h]
      by_cases h2 : (n : Int) ≤ List.getD a (7 - k) 0
      · have h3 : ¬ (List.getD a (7 - k) 0 < (n : Int)) := by omega
        rw [decide_eq_true h2, cond_true, decide_eq_false h3]
        simp
      · have h3 : (List.getD a (7 - k) 0 < (n : Int)) := by omega
        rw [decide_eq_false h2, cond_false, decide_eq_true h3, Bool.true_and]
        have e3 : List.getD a (7 - k) 0 < 8 := by omega
        rw [decide_eq_true e3, cond_true]
        cases h4 : List.getD met (List.getD a (7 - k) 0).toNat false with
        | true => simp
        | false =>
          rw [cond_false, cond_true, ih _ (by omega) (by simp [hm])]
          simp
theorem c_l02Is (n : Int) (a : List Int) (ha : B8 a) : R is_l02Is [tA8 a, tI n] = some [tB (isSm n a)] := by
  apply vs_l02Is
  simp only [bs_l02Is, c_l01In, Option.bind_some, getTV_here, isSm]
  by_cases h1 : 1 ≤ n ∧ n ≤ 8
  · obtain ⟨m, rfl⟩ : ∃ m : Nat, n = m := ⟨n.toNat, by omega⟩
    have h := c_l02Is_5 m (by omega) a ha 8 (List.replicate 8 false) (by omega) (by simp)
    have hc := chk_sA (n := m) (by omega) ha
    simp only [Nat.sub_self, Int.natCast_zero] at h
    simp only [h1, decide_true, Bool.and_self, Bool.not_true, cond_false, h, Option.bind_some, Int.toNat_natCast, Bool.true_and]
    by_cases h2 : chk m a 8 (List.replicate 8 false) = true
    · have h3 := hc.1 h2
      rw [if_pos h2]
      simp [h3]
    · have h3 : ¬ ∃ s : Pm m, a = sA s := fun h => h2 (hc.2 h)
      rw [if_neg h2]
      simp [h3]
  · have e : (decide (1 ≤ n) && decide (n ≤ 8)) = false := by simp; omega
    simp [e]
theorem c_IsSimple_5 (n : Nat) (hn : n ≤ 8) (a : List Int) (ha : B8 a) : ∀ (k : Nat) (met : List Bool), k ≤ 8 → met.length = 8 →
    R ii_IsSimple_5 [tAB8 met, tI (n : Int), tA8 a, tI ((8 - k : Nat) : Int)] = some (if chk n a k met then [tI 0] else [tI 1, tB false]) := by
  intro k
  induction k with
  | zero =>
    intro met _ _
    apply vi_IsSimple_5
    simp [bi_IsSimple_5, chk]
  | succ k ih =>
    intro met hk hm
    have hb := (ha.at (show 7 - k < 8 by omega)).2
    have e : 8 - (k + 1) = 7 - k := by omega
    apply vi_IsSimple_5
    rw [e]
    unfold chk
    have e1 : wi64 (((7 - k : Nat) : Int) + 1) = ((8 - k : Nat) : Int) := by rw [wrap_i64] <;> omega
    have e2 : wi64 (List.getD a (7 - k) 0) = List.getD a (7 - k) 0 := wrap_i64 (by omega) (by omega)
    simp (disch := omega) only [bi_IsSimple_5, decide_eq_true, cond_true, Bool.and_true, Int.toNat_natCast, e1, e2]
    by_cases h : n ≤ 7 - k
    · have h' : ((n : Int) ≤ ((7 - k : Nat) : Int)) := by omega
      rw [decide_eq_true h', cond_true, if_pos h, ih met (by omega) hm]
      by_cases h2 : List.getD a (7 - k) 0 = 0
      · simp only [h2, bne_self_eq_false, cond_false, beq_self_eq_true, Bool.true_and]
      · have h3 : (List.getD a (7 - k) 0 == 0) = false := by rw [beq_dec, decide_eq_false h2]
        have h4 : (List.getD a (7 - k) 0 != 0) = true := by rw [bne_dec, decide_eq_false h2]; rfl
        rw [h3, h4]
        simp
    · have h' : ¬ ((n : Int) ≤ ((7 - k : Nat) : Int)) := by omega
      rw [decide_eq_false h', cond_false, if_neg h]
      by_cases h2 : (n : Int) ≤ List.getD a (7 - k) 0
      · have h3 : ¬ (List.getD a (7 - k) 0 < (n : Int)) := by omega
        rw [decide_eq_true h2, cond_true, decide_eq_false h3]
        simp
      · have h3 : (List.getD a (7 - k) 0 < (n : Int)) := by omega
        rw [decide_eq_false h2, cond_false, decide_eq_true h3, Bool.true_and]
        have e3 : List.getD a (7 - k) 0 < 8 := by omega
        rw [decide_eq_true e3, cond_true]
        cases h4 : List.getD met (List.getD a (7 - k) 0).toNat false with
        | true => simp
        | false =>
          rw [cond_false, cond_true, ih _ (by omega) (by simp [hm])]
          simp
theorem c_IsSimple (n : Int) (a : List Int) (ha : B8 a) : R ii_IsSimple [tA8 a, tI n] = some [tB (isSm n a)] := by
  apply vi_IsSimple
  simp only [bi_IsSimple, c_isCount, Option.bind_some, getTV_here, isSm]
  by_cases h1 : 1 ≤ n ∧ n ≤ 8
  · obtain ⟨m, rfl⟩ : ∃ m : Nat, n = m := ⟨n.toNat, by omega⟩
    have h := c_IsSimple_5 m (by omega) a ha 8 (List.replicate 8 false) (by omega) (by simp)
    have hc := chk_sA (n := m) (by omega) ha
    simp only [Nat.sub_self, Int.natCast_zero] at h
    simp only [h1, decide_true, Bool.and_self, Bool.not_true, cond_false, h, Option.bind_some, Int.toNat_natCast, Bool.true_and]
    by_cases h2 : chk m a 8 (List.replicate 8 false) = true
    · have h3 := hc.1 h2
      rw [if_pos h2]
      simp [h3]
    · have h3 : ¬ ∃ s : Pm m, a = sA s := fun h => h2 (hc.2 h)
      rw [if_neg h2]
      simp [h3]
  · have e : (decide (1 ≤ n) && decide (n ≤ 8)) = false := by simp; omega
    simp [e]
/-- No letter begins b and does not end a, from p on. -/
def WdAt {n : Nat} (a b : Pm n) (p : Nat) : Prop := b.f (p + 1) < b.f p → ¬ a.g p < a.g (p + 1)
theorem wd_iff {n : Nat} (a b : Pm n) : Pm.meet (a⁻¹ * Pm.half n) b = 1 ↔ ∀ p, p + 1 < n → WdAt a b p := by
  constructor
  · intro h p hp h1 h2
    have g := Pm.meet_greedy (a⁻¹ * Pm.half n) b
    rw [h] at g
    refine g.stop p hp (by simp) ⟨?_, h1⟩
    simp only [Pm.one_g, Pm.mul_f, Pm.inv_f, Pm.half_f]
    exact Pm.hf_anti h2 (a.lt_g hp)
  · intro h
    refine (Pm.Greedy.eq ⟨Pm.one_le _, Pm.one_le _, fun p hp _ h1 => ?_⟩).symm
    simp only [Pm.one_g, Pm.mul_f, Pm.inv_f, Pm.half_f] at h1
    refine h p hp h1.2 ?_
    rcases Pm.hf_rev h1.1 with h2 | h2
    · exact h2
    · have := a.lt_g (show p < n by omega)
      omega
theorem c_l03Weighted_3 (n : Nat) (hn : n ≤ 8) (a b : Pm n) : ∀ (d p : Nat), p + d = n →
    (∀ q, q < p → q + 1 < n → WdAt a b q) →
    R is_l03Weighted_3 [tA8 (sA b), tA8 (sA a⁻¹), tI (n : Int), tI ((p + 1 : Nat) : Int)] = some (if Pm.meet (a⁻¹ * Pm.half n) b = 1 then [tI 0] else [tI 1, tB false]) := by
  intro d
  induction d with
  | zero =>
    intro p hp h
    apply vs_l03Weighted_3
    have h1 : ¬ (((p + 1 : Nat) : Int) < (n : Int)) := by omega
    rw [if_pos ((wd_iff a b).2 fun q hq => h q (by omega) hq)]
    simp only [bs_l03Weighted_3, decide_eq_false h1, cond_false]
  | succ d ih =>
    intro p hp h
    apply vs_l03Weighted_3
    by_cases h0 : p + 1 < n
    · have e1 := wi64_p (p := p) (by omega)
      have g0 := sA_get (s := a⁻¹) (x := p) (by omega) hn
      have g1 := sA_get (s := a⁻¹) (x := p + 1) h0 hn
      simp only [Pm.inv_f] at g0 g1
      simp (disch := omega) only [bs_l03Weighted_3, e1, decide_eq_true, cond_true, Bool.and_true, Int.toNat_natCast, sA_get, g0, g1, wi64_n1]
      by_cases h1 : b.f (p + 1) < b.f p
      · have d1 : ((b.f (p + 1) : Int) < (b.f p : Int)) := by omega
        rw [decide_eq_true d1, cond_true]
        by_cases h2 : a.g p < a.g (p + 1)
        · have d2 : ((a.g p : Int) < (a.g (p + 1) : Int)) := by omega
          rw [decide_eq_true d2, cond_true, if_neg (fun hm => (wd_iff a b).1 hm p h0 h1 h2)]
        · have d2 : ¬ ((a.g p : Int) < (a.g (p + 1) : Int)) := by omega
          rw [decide_eq_false d2, cond_false]
          exact ih (p + 1) (by omega) (fun q hq hq2 => by
            by_cases h3 : q = p
            · subst h3; exact fun _ => h2
            · exact h q (by omega) hq2)
      · have d1 : ¬ ((b.f (p + 1) : Int) < (b.f p : Int)) := by omega
        rw [decide_eq_false d1, cond_false]
        exact ih (p + 1) (by omega) (fun q hq hq2 => by
          by_cases h3 : q = p
          · subst h3; exact fun h => (h1 h).elim
          · exact h q (by omega) hq2)
    · have h1 : ¬ (((p + 1 : Nat) : Int) < (n : Int)) := by omega
      rw [if_pos ((wd_iff a b).2 fun q hq => h q (by omega) hq)]
      simp only [bs_l03Weighted_3, decide_eq_false h1, cond_false]
theorem c_l03Weighted (n : Nat) (hn : n ≤ 8) (a b : Pm n) : R is_l03Weighted [tA8 (sA a), tA8 (sA b), tI (n : Int)] = some [tB (decide (Pm.meet (a⁻¹ * Pm.half n) b = 1))] := by
  apply vs_l03Weighted
  have h := c_l03Weighted_3 n hn a b n 0 (by omega) (fun q h => by omega)
  simp only [bs_l03Weighted, c_l02Back n hn, Option.bind_some, getTV_here]
  rw [show (1 : Int) = ((0 + 1 : Nat) : Int) from rfl, h]
  by_cases h1 : Pm.meet (a⁻¹ * Pm.half n) b = 1 <;> simp [h1]
theorem c_begins (n p : Nat) (hp : p + 1 < n) (hn : n ≤ 8) (s : Pm n) : R ii_begins [tA8 (sA s), tI ((p + 1 : Nat) : Int)] = some [tB (decide (s.f (p + 1) < s.f p))] := by
  apply vi_begins
  have e1 := wi64_p (p := p) (by omega)
  simp (disch := omega) only [bi_begins, e1, decide_eq_true, cond_true, Bool.and_true, Int.toNat_natCast, sA_get]
  by_cases h : s.f (p + 1) < s.f p
  · have d1 : ((s.f (p + 1) : Int) < (s.f p : Int)) := by omega
    rw [decide_eq_true h, decide_eq_true d1]
  · have d1 : ¬ ((s.f (p + 1) : Int) < (s.f p : Int)) := by omega
    rw [decide_eq_false h, decide_eq_false d1]
/-- The letters that begin s, from p + 1 on. -/
def begL {n : Nat} (s : Pm n) : Nat → List Int
  | 0 => []
  | d + 1 => if s.f (n - d) < s.f (n - (d + 1)) ∧ n - d < n then ((n - d : Nat) : Int) :: begL s d else begL s d
theorem c_beginning_3 (n : Nat) (hn : n ≤ 8) (s : Pm n) : ∀ (d : Nat), d ≤ n → ∀ out : List Int, out.length + d ≤ 100 →
    R ii_beginning_3 [tA8 (sA s), tLI out, tI (n : Int), tI ((n - d + 1 : Nat) : Int)] = some [tI 0, tLI (out ++ begL s d)] := by
  intro d
  induction d with
  | zero =>
    intro _ out _
    apply vi_beginning_3
    have h1 : ¬ (((n - 0 + 1 : Nat) : Int) < (n : Int)) := by omega
    simp only [bi_beginning_3, decide_eq_false h1, cond_false, begL, List.append_nil]
  | succ d ih =>
    intro hd out ho
    apply vi_beginning_3
    have e0 : n - (d + 1) + 1 = n - d := by omega
    by_cases h0 : n - (d + 1) + 1 < n
    · have hb := c_begins n (n - (d + 1)) h0 hn s
      simp (disch := omega) only [bi_beginning_3, decide_eq_true, cond_true, hb, Option.bind_some, getTV_here, apOk1, wrap_i64]
      rw [e0, show ((n - d : Nat) : Int) + 1 = ((n - d + 1 : Nat) : Int) by omega]
      unfold begL
      by_cases h : s.f (n - d) < s.f (n - (d + 1))
      · rw [decide_eq_true h, cond_true, if_pos ⟨h, by omega⟩, ih (by omega) _ (by simp; omega)]
        simp only [List.append_assoc, List.cons_append, List.nil_append]
      · rw [decide_eq_false h, cond_false, if_neg (fun h2 => h h2.1), ih (by omega) _ (by omega)]
    · have h1 : ¬ (((n - (d + 1) + 1 : Nat) : Int) < (n : Int)) := by omega
      have hd0 : d = 0 := by omega
      subst hd0
      simp only [bi_beginning_3, decide_eq_false h1, cond_false]
      unfold begL
      rw [if_neg (fun h2 => absurd h2.2 (by simp))]
      simp [begL]
theorem c_beginning (n : Nat) (hn : n ≤ 8) (s : Pm n) : R ii_beginning [tA8 (sA s), tI (n : Int)] = some [tLI (begL s n)] := by
  apply vi_beginning
  have h := c_beginning_3 n hn s n (Nat.le_refl _) [] (by simp; omega)
  simp only [Nat.sub_self, List.nil_append] at h
  rw [show ((0 + 1 : Nat) : Int) = 1 from rfl] at h
  simp only [bi_beginning, h, Option.bind_some, getTV_here, getTV_next]
theorem begL_mem {n : Nat} (s : Pm n) : ∀ (d : Nat), d ≤ n → ∀ x : Int, x ∈ begL s d ↔ ∃ p, n - d ≤ p ∧ p + 1 < n ∧ s.f (p + 1) < s.f p ∧ x = ((p + 1 : Nat) : Int)
  | 0, _, x => by
    simp only [begL, List.not_mem_nil, false_iff]
    rintro ⟨p, h1, h2, _⟩
    omega
  | d + 1, hd, x => by
    have ih := begL_mem s d (by omega) x
    unfold begL
    by_cases h : s.f (n - d) < s.f (n - (d + 1)) ∧ n - d < n
    · rw [if_pos h, List.mem_cons, ih]
      clear ih
      constructor
      · rintro (rfl | ⟨p, h1, h2, h3⟩)
        · refine ⟨n - (d + 1), Nat.le_refl _, by omega, ?_, by omega⟩
          rw [show n - (d + 1) + 1 = n - d by omega]
          exact h.1
        · exact ⟨p, by omega, h2, h3⟩
      · rintro ⟨p, h1, h2, h3, rfl⟩
        by_cases h4 : p = n - (d + 1)
        · left; omega
        · right; exact ⟨p, by omega, h2, h3, rfl⟩
    · rw [if_neg h, ih]
      clear ih
      constructor
      · rintro ⟨p, h1, h2, h3⟩
        exact ⟨p, by omega, h2, h3⟩
      · rintro ⟨p, h1, h2, h3, h4⟩
        by_cases h5 : p = n - (d + 1)
        · exfalso
          subst h5
          rw [show n - (d + 1) + 1 = n - d by omega] at h2 h3
          exact h ⟨h3, h2⟩
        · exact ⟨p, by omega, h2, h3, h4⟩
theorem begL_len {n : Nat} (s : Pm n) : ∀ (d : Nat), (begL s d).length ≤ d
  | 0 => by simp [begL]
  | d + 1 => by
    have := begL_len s d
    unfold begL
    split
    · simp; omega
    · omega
theorem c_endsAll_3 (n : Nat) (hn : n ≤ 8) (a : Pm n) (l : List Int) (hl : l.length ≤ 100) (hm : ∀ x ∈ l, ∃ p, p + 1 < n ∧ x = ((p + 1 : Nat) : Int)) : ∀ i, i ≤ l.length →
    ∃ o, R ii_endsAll_3 [tA8 (sA a⁻¹), tLI l, tI (l.length : Int), tI (i : Int)] = some o ∧ ((o = [tI 0] ∧ ∀ p, ((p + 1 : Nat) : Int) ∈ l.drop i → ¬ a.g p < a.g (p + 1)) ∨ (o = [tI 1, tB false] ∧ ∃ p, p + 1 < n ∧ ((p + 1 : Nat) : Int) ∈ l.drop i ∧ a.g p < a.g (p + 1))) := by
  refine up_loop _ ?_ (fun i hi ih => ?_)
  · refine ⟨[tI 0], ?_, .inl ⟨rfl, fun p hp => by simp at hp⟩⟩
    apply vi_endsAll_3
    simp [bi_endsAll_3]
  · obtain ⟨p, hp, he⟩ := hm _ (List.getElem_mem hi)
    have hb := c_begins n p hp hn a⁻¹
    rw [← he] at hb
    simp only [Pm.inv_f] at hb
    by_cases h : a.g (p + 1) < a.g p
    · obtain ⟨o, h1, h2⟩ := ih
      refine ⟨o, ?_, ?_⟩
      · apply vi_endsAll_3
        simp (disch := omega) only [bi_endsAll_3, decide_eq_true, cond_true, Bool.and_true, Int.toNat_natCast, getD_at hi, hb, Option.bind_some, getTV_here, Bool.not_true, cond_false, wrap_i64]
        rw [show (i : Int) + 1 = ((i + 1 : Nat) : Int) by omega]
        exact h1
      · rw [List.drop_eq_getElem_cons hi]
        rcases h2 with ⟨h3, h4⟩ | ⟨h3, q, h4, h5, h6⟩
        · refine .inl ⟨h3, fun q hq => ?_⟩
          rcases List.mem_cons.1 hq with h5 | h5
          · have : q = p := by omega
            subst this
            omega
          · exact h4 q h5
        · exact .inr ⟨h3, q, h4, List.mem_cons_of_mem _ h5, h6⟩
    · have hne : a.g p ≠ a.g (p + 1) := fun h2 => by have := a.inj_g h2; omega
      refine ⟨[tI 1, tB false], ?_, .inr ⟨rfl, p, hp, ?_, by omega⟩⟩
      · apply vi_endsAll_3
        simp (disch := omega) only [bi_endsAll_3, decide_eq_true, decide_eq_false h, cond_true, Bool.and_true, Int.toNat_natCast, getD_at hi, hb, Option.bind_some, getTV_here, Bool.not_false]
      · rw [List.drop_eq_getElem_cons hi, he]
        exact List.mem_cons_self
theorem c_endsAll (n : Nat) (hn : n ≤ 8) (a b : Pm n) : R ii_endsAll [tA8 (sA a), tA8 (sA b), tI (n : Int)] = some [tB (decide (Pm.meet (a⁻¹ * Pm.half n) b = 1))] := by
  have hl := begL_len b n
  obtain ⟨o, h1, h2⟩ := c_endsAll_3 n hn a (begL b n) (by omega) (fun x hx => by
    obtain ⟨p, _, h3, _, h4⟩ := (begL_mem b n (Nat.le_refl _) x).1 hx
    exact ⟨p, h3, h4⟩) 0 (Nat.zero_le _)
  simp only [Int.natCast_zero, List.drop_zero] at h1 h2
  apply vi_endsAll
  simp only [bi_endsAll, c_backOf n hn, c_beginning n hn, Option.bind_some, getTV_here, h1]
  rcases h2 with ⟨rfl, h3⟩ | ⟨rfl, p, h3, h4, h5⟩
  · have : Pm.meet (a⁻¹ * Pm.half n) b = 1 := (wd_iff a b).2 fun p hp hb => h3 p ((begL_mem b n (Nat.le_refl _) _).2 ⟨p, by omega, hp, hb, rfl⟩)
    simp [this]
  · have : ¬ Pm.meet (a⁻¹ * Pm.half n) b = 1 := fun hm => by
      obtain ⟨q, _, q2, q3, q4⟩ := (begL_mem b n (Nat.le_refl _) _).1 h4
      have : q = p := by omega
      subst this
      exact (wd_iff a b).1 hm q h3 q3 h5
    simp [this]
end Go.Ev.YtolpnaiincngjaaGreat
