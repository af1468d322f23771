/- The longest common beginning of two simple braids, found by both packages. -/
import Derived.Test.YtolpnaiincngjaaGreatMn1
set_option linter.unusedVariables false
set_option linter.unusedSimpArgs false
namespace Go.Ev.YtolpnaiincngjaaGreat
open Go.Ev Go.Gar
theorem wi64_p {p : Nat} (h : p < 1000) : wi64 (((p + 1 : Nat) : Int) - 1) = (p : Int) := by rw [wrap_i64] <;> omega
theorem c_l02Meet_3 (n : Nat) (hn : n ≤ 8) (a b : Pm n) (z : List Int) : ∀ (k d : Nat) (c : Pm n) (p : Nat), n * n ≤ c.cnt + k → p + d = n → c.le a → c.le b →
    (∀ q, q < p → q + 1 < n → c.g q < c.g (q + 1) → ¬ (a.f (c.g (q + 1)) < a.f (c.g q) ∧ b.f (c.g (q + 1)) < b.f (c.g q))) →
    R is_l02Meet_3 [tA8 (sA (c⁻¹ * a)), tA8 (sA (c⁻¹ * b)), tA8 z, tA8 (sA c), tI (n : Int), tI ((p + 1 : Nat) : Int)] = some [tI 0, tA8 z, tA8 (sA (Pm.meet a b))] := by
  intro k
  induction k with
  | zero =>
    intro d
    induction d with
    | zero =>
      intro c p hk hp ha hb hs
      have e := Pm.Greedy.eq ⟨ha, hb, fun q h1 h2 => hs q (by omega) h1 h2⟩
      apply vs_l02Meet_3
      have h1 : ¬ (((p + 1 : Nat) : Int) < (n : Int)) := by omega
      simp only [bs_l02Meet_3, decide_eq_false h1, cond_false, e]
    | succ d ih =>
      intro c p hk hp ha hb hs
      have stop : ∀ q, q + 1 < n → c.g q < c.g (q + 1) → ¬ (a.f (c.g (q + 1)) < a.f (c.g q) ∧ b.f (c.g (q + 1)) < b.f (c.g q)) := by
        intro q hq h1 h2
        have := Pm.cnt_put1 (h := hq) h1
        have := Pm.cnt_le (Pm.put1 c q hq)
        omega
      have e := Pm.Greedy.eq ⟨ha, hb, stop⟩
      by_cases h0 : p + 1 < n
      · have ih' := ih c (p + 1) hk (by omega) ha hb (fun q _ h1 h2 => stop q h1 h2)
        apply vs_l02Meet_3
        have e1 := wi64_p (p := p) (by omega)
        have ga := sA_get (s := c⁻¹ * a) (x := p) (by omega) hn
        have ga1 := sA_get (s := c⁻¹ * a) (x := p + 1) h0 hn
        have gb := sA_get (s := c⁻¹ * b) (x := p) (by omega) hn
        have gb1 := sA_get (s := c⁻¹ * b) (x := p + 1) h0 hn
        simp only [Pm.mul_f, Pm.inv_f] at ga ga1 gb gb1
        simp (disch := omega) only [bs_l02Meet_3, e1, decide_eq_true, cond_true, Bool.and_true, Int.toNat_natCast, ga, ga1, gb, gb1, wi64_n1, ih']
        by_cases h1 : a.f (c.g (p + 1)) < a.f (c.g p)
        · by_cases h2 : b.f (c.g (p + 1)) < b.f (c.g p)
          · exfalso
            rcases Nat.lt_trichotomy (c.g p) (c.g (p + 1)) with h3 | h3 | h3
            · exact stop p h0 h3 ⟨h1, h2⟩
            · have := c.inj_g h3; omega
            · have := ha _ _ h3 (by rw [c.fg, c.fg]; omega); omega
          · simp [h2]
        · simp [h1]
      · apply vs_l02Meet_3
        have h1 : ¬ (((p + 1 : Nat) : Int) < (n : Int)) := by omega
        simp only [bs_l02Meet_3, decide_eq_false h1, cond_false, e]
  | succ k ihk =>
    intro d
    induction d with
    | zero =>
      intro c p hk hp ha hb hs
      have e := Pm.Greedy.eq ⟨ha, hb, fun q h1 h2 => hs q (by omega) h1 h2⟩
      apply vs_l02Meet_3
      have h1 : ¬ (((p + 1 : Nat) : Int) < (n : Int)) := by omega
      simp only [bs_l02Meet_3, decide_eq_false h1, cond_false, e]
    | succ d ih =>
      intro c p hk hp ha hb hs
      by_cases h0 : p + 1 < n
      · apply vs_l02Meet_3
        have e1 := wi64_p (p := p) (by omega)
        have ga := sA_get (s := c⁻¹ * a) (x := p) (by omega) hn
        have ga1 := sA_get (s := c⁻¹ * a) (x := p + 1) h0 hn
        have gb := sA_get (s := c⁻¹ * b) (x := p) (by omega) hn
        have gb1 := sA_get (s := c⁻¹ * b) (x := p + 1) h0 hn
        simp only [Pm.mul_f, Pm.inv_f] at ga ga1 gb gb1
        simp (disch := omega) only [bs_l02Meet_3, e1, decide_eq_true, cond_true, Bool.and_true, Int.toNat_natCast, ga, ga1, gb, gb1, wi64_n1]
        by_cases hc : a.f (c.g (p + 1)) < a.f (c.g p) ∧ b.f (c.g (p + 1)) < b.f (c.g p)
        · have h3 : c.g p < c.g (p + 1) := by
            rcases Nat.lt_trichotomy (c.g p) (c.g (p + 1)) with h3 | h3 | h3
            · exact h3
            · have := c.inj_g h3; omega
            · have := ha _ _ h3 (by rw [c.fg, c.fg]; omega); omega
          have := Pm.cnt_put1 (h := h0) h3
          have e2 : ∀ x : Pm n, Pm.swap n p h0 * (c⁻¹ * x) = (Pm.put1 c p h0)⁻¹ * x := by
            intro x
            apply Pm.ext
            intro y
            rfl
          have ih' := ihk n (Pm.put1 c p h0) 0 (by omega) (by omega) (Pm.put1_le h3 ha hc.1) (Pm.put1_le h3 hb hc.2) (fun q h => by omega)
          have e3 : sA (Pm.put1 c p h0) = sA (c * Pm.swap n p h0) := rfl
          rw [e3] at ih'
          have d1 : ((a.f (c.g (p + 1)) : Int) < (a.f (c.g p) : Int)) := by omega
          have d2 : ((b.f (c.g (p + 1)) : Int) < (b.f (c.g p) : Int)) := by omega
          simp only [decide_eq_true d1, decide_eq_true d2, cond_true, c_l02Exchange n p h0 hn, c_l02Then n hn, Option.bind_some, getTV_here, e2]
          exact ih'
        · have ih' := ih c (p + 1) hk (by omega) ha hb (fun q h1 h2 h3 => by
            rcases Nat.lt_or_ge q p with h4 | h4
            · exact hs q h4 h2 h3
            · have : q = p := by omega
              subst this
              exact hc)
          by_cases h1 : a.f (c.g (p + 1)) < a.f (c.g p)
          · have d1 : ((a.f (c.g (p + 1)) : Int) < (a.f (c.g p) : Int)) := by omega
            have d2 : ¬ ((b.f (c.g (p + 1)) : Int) < (b.f (c.g p) : Int)) := by omega
            rw [decide_eq_true d1, decide_eq_false d2, cond_true, cond_false]
            exact ih'
          · have d1 : ¬ ((a.f (c.g (p + 1)) : Int) < (a.f (c.g p) : Int)) := by omega
            rw [decide_eq_false d1, cond_false]
            exact ih'
      · have e := Pm.Greedy.eq ⟨ha, hb, fun q h1 h2 => hs q (by omega) h1 h2⟩
        apply vs_l02Meet_3
        have h1 : ¬ (((p + 1 : Nat) : Int) < (n : Int)) := by omega
        simp only [bs_l02Meet_3, decide_eq_false h1, cond_false, e]
theorem c_l02Meet (n : Nat) (hn : n ≤ 8) (a b : Pm n) : R is_l02Meet [tA8 (sA a), tA8 (sA b), tI (n : Int)] = some [tA8 (sA (Pm.meet a b))] := by
  apply vs_l02Meet
  have h := c_l02Meet_3 n hn a b (List.replicate 8 0) (n * n) n 1 0 (by omega) (by omega) (Pm.one_le a) (Pm.one_le b) (fun q h => by omega)
  have e1 : (1 : Pm n)⁻¹ * a = a := by rw [inv_one, Grp.one_mul]
  have e2 : (1 : Pm n)⁻¹ * b = b := by rw [inv_one, Grp.one_mul]
  rw [e1, e2] at h
  simp only [bs_l02Meet, c_l02Same n hn, Option.bind_some, getTV_here, getTV_next]
  rw [show (1 : Int) = ((0 + 1 : Nat) : Int) from rfl, h]
  simp only [Option.bind_some, getTV_here, getTV_next]
/-- The bits of d are those of the pairs of P. -/
def Bits (d : Nat) (P : Nat → Nat → Prop) : Prop := d < 2 ^ 64 ∧ ∀ x y, x < 8 → y < 8 → (d.testBit (8 * x + y) = true ↔ P x y)
theorem Bits.congr {d : Nat} {P Q : Nat → Nat → Prop} (h : Bits d P) (e : ∀ x y, x < 8 → y < 8 → (P x y ↔ Q x y)) : Bits d Q :=
  ⟨h.1, fun x y hx hy => (h.2 x y hx hy).trans (e x y hx hy)⟩
theorem Bits.set {d : Nat} {P : Nat → Nat → Prop} {a b : Nat} (h : Bits d P) (ha : a < 8) (hb : b < 8) : Bits (d ||| 2 ^ (8 * a + b)) (fun x y => P x y ∨ (x = a ∧ y = b)) := by
  have h1 : 2 ^ (8 * a + b) < 2 ^ 64 := Nat.pow_lt_pow_right (by omega) (by omega)
  refine ⟨Nat.or_lt_two_pow h.1 h1, fun x y hx hy => ?_⟩
  rw [Nat.testBit_or, Bool.or_eq_true, h.2 x y hx hy, Nat.testBit_two_pow]
  simp only [decide_eq_true_eq]
  constructor
  · rintro (h2 | h2)
    · exact .inl h2
    · right; omega
  · rintro (h2 | ⟨rfl, rfl⟩)
    · exact .inl h2
    · exact .inr rfl
theorem Bits.and {d e : Nat} {P Q : Nat → Nat → Prop} (h : Bits d P) (h' : Bits e Q) : Bits (d &&& e) (fun x y => P x y ∧ Q x y) := by
  refine ⟨Nat.and_lt_two_pow d h'.1, fun x y hx hy => ?_⟩
  rw [Nat.testBit_and, Bool.and_eq_true, h.2 x y hx hy, h'.2 x y hx hy]
theorem c_descents_6 (n : Nat) (hn : n ≤ 8) (s : Pm n) (Y : Nat) (hY : Y < n) : ∀ i, i ≤ Y → ∀ d, Bits d (fun x y => x < y ∧ s.f y < s.f x ∧ (y < Y ∨ (y = Y ∧ x < i))) →
    ∃ d', Bits d' (fun x y => x < y ∧ s.f y < s.f x ∧ y < Y + 1) ∧
      R ii_descents_6 [tA8 (sA s), tU64 (d : Int), tI (Y : Int), tI (n : Int), tI (Y : Int), tI (Y : Int), tI (i : Int)] = some [tI 0, tA8 (sA s), tU64 (d' : Int), tI (n : Int), tI (Y : Int)] := by
  refine up_loop _ (fun d hd => ?_) (fun i hi ih d hd => ?_)
  · refine ⟨d, hd.congr (fun x y hx hy => ?_), ?_⟩
    · constructor
      · rintro ⟨h1, h2, h3⟩; exact ⟨h1, h2, by omega⟩
      · rintro ⟨h1, h2, h3⟩; exact ⟨h1, h2, by omega⟩
    · apply vi_descents_6
      simp [bi_descents_6]
  · have e1 : wi64 (wi64 (8 * (i : Int)) + (Y : Int)) = ((8 * i + Y : Nat) : Int) := by
      rw [wrap_i64 (x := 8 * (i : Int)) (by omega) (by omega), wrap_i64] <;> omega
    by_cases h : s.f Y < s.f i
    · obtain ⟨d', h1, h2⟩ := ih (d ||| 2 ^ (8 * i + Y)) ((hd.set (a := i) (b := Y) (by omega) (by omega)).congr (fun x y hx hy => by
        constructor
        · rintro (⟨h1, h2, h3⟩ | ⟨rfl, rfl⟩)
          · exact ⟨h1, h2, by omega⟩
          · exact ⟨hi, h, by omega⟩
        · rintro ⟨h1, h2, h3⟩
          by_cases h4 : x = i ∧ y = Y
          · exact .inr h4
          · exact .inl ⟨h1, h2, by omega⟩))
      refine ⟨d', h1, ?_⟩
      apply vi_descents_6
      have d1 : ((s.f Y : Int) < (s.f i : Int)) := by omega
      have e2 : bitsOr .u64 (d : Int) (shl .u64 1 ((8 * i + Y : Nat) : Int)) = ((d ||| 2 ^ (8 * i + Y) : Nat) : Int) := by
        rw [shl_one (by omega), bitsOr_nat hd.1 (Nat.pow_lt_pow_right (by omega) (by omega))]
      simp (disch := omega) only [bi_descents_6, decide_eq_true, cond_true, Bool.and_true, Int.toNat_natCast, wi64_n1, sA_get, e1, e2, h2]
    · obtain ⟨d', h1, h2⟩ := ih d (hd.congr (fun x y hx hy => by
        constructor
        · rintro ⟨h1, h2, h3⟩; exact ⟨h1, h2, by omega⟩
        · rintro ⟨h1, h2, h3⟩
          refine ⟨h1, h2, ?_⟩
          by_cases h4 : x = i ∧ y = Y
          · rw [h4.1, h4.2] at h2; exact (h h2).elim
          · omega))
      refine ⟨d', h1, ?_⟩
      apply vi_descents_6
      have d1 : ¬ ((s.f Y : Int) < (s.f i : Int)) := by omega
      simp (disch := omega) only [bi_descents_6, decide_eq_true, decide_eq_false d1, cond_true, cond_false, Bool.and_true, Int.toNat_natCast, wi64_n1, sA_get, h2]
theorem c_descents_3 (n : Nat) (hn : n ≤ 8) (s : Pm n) : ∀ i, i ≤ n → ∀ d, Bits d (fun x y => x < y ∧ s.f y < s.f x ∧ y < i) →
    ∃ d', Bits d' (fun x y => x < y ∧ s.f y < s.f x) ∧ R ii_descents_3 [tA8 (sA s), tU64 (d : Int), tI (n : Int), tI (i : Int)] = some [tI 0, tU64 (d' : Int)] := by
  refine up_loop _ (fun d hd => ?_) (fun i hi ih d hd => ?_)
  · refine ⟨d, hd.congr (fun x y hx hy => ?_), ?_⟩
    · constructor
      · rintro ⟨h1, h2, h3⟩; exact ⟨h1, h2⟩
      · rintro ⟨h1, h2⟩; exact ⟨h1, h2, Pm.below h1 h2⟩
    · apply vi_descents_3
      simp [bi_descents_3]
  · obtain ⟨d1, h1, h2⟩ := c_descents_6 n hn s i hi 0 (Nat.zero_le _) d (hd.congr (fun x y hx hy => by
      constructor
      · rintro ⟨h1, h2, h3⟩; exact ⟨h1, h2, .inl h3⟩
      · rintro ⟨h1, h2, h3⟩; exact ⟨h1, h2, by omega⟩))
    obtain ⟨d2, h3, h4⟩ := ih d1 h1
    refine ⟨d2, h3, ?_⟩
    apply vi_descents_3
    simp only [Int.natCast_zero] at h2
    simp (disch := omega) only [bi_descents_3, decide_eq_true, cond_true, h2, Option.bind_some, getTV_here, getTV_next, wi64_n1, h4]
theorem c_descents (n : Nat) (hn : n ≤ 8) (s : Pm n) : ∃ d, Bits d (fun x y => x < y ∧ s.f y < s.f x) ∧ R ii_descents [tA8 (sA s), tI (n : Int)] = some [tU64 (d : Int)] := by
  obtain ⟨d, h1, h2⟩ := c_descents_3 n hn s 0 (Nat.zero_le _) 0 ⟨by omega, fun x y hx hy => by simp⟩
  refine ⟨d, h1, ?_⟩
  apply vi_descents
  simp only [Int.natCast_zero] at h2
  simp only [bi_descents, h2, Option.bind_some, getTV_here, getTV_next]
theorem sA_put1 {n : Nat} (hn : n ≤ 8) (c : Pm n) (p : Nat) (h : p + 1 < n) : List.set (List.set (sA c⁻¹) p (c.g (p + 1) : Int)) (p + 1) (c.g p : Int) = sA (Pm.put1 c p h)⁻¹ := by
  rw [show sA c⁻¹ = A8 n c.g from rfl, A8_set (by omega) hn, A8_set h hn]
  apply A8_congr
  intro x hx
  show _ = c.g (Pm.sf p x)
  unfold Pm.sf
  by_cases h1 : x = p + 1
  · subst h1; simp
  · by_cases h2 : x = p
    · subst h2; simp
    · simp [h1, h2]
/-- No letter goes on at q. -/
def StopAt {n : Nat} (a b c : Pm n) (q : Nat) : Prop := c.g q < c.g (q + 1) → ¬ (a.f (c.g (q + 1)) < a.f (c.g q) ∧ b.f (c.g (q + 1)) < b.f (c.g q))
theorem c_meet_7 (n : Nat) (hn : n ≤ 8) (a b : Pm n) (m : Nat) (hm : Bits m (fun x y => (x < y ∧ a.f y < a.f x) ∧ (x < y ∧ b.f y < b.f x))) (z : List Int) :
    ∀ (d p : Nat), p + d = n → ∀ (c : Pm n) (fl : Bool), c.le a → c.le b → ∃ c' fl', c'.le a ∧ c'.le b ∧ c.cnt ≤ c'.cnt ∧ (fl' = false → fl = false ∧ c' = c ∧ ∀ q, p ≤ q → q + 1 < n → StopAt a b c q) ∧ (fl' = true → fl = true ∨ c.cnt < c'.cnt) ∧
      R ii_meet_7 [tA8 z, tA8 (sA c⁻¹), tI (n : Int), tU64 (m : Int), tB fl, tI ((p + 1 : Nat) : Int)] = some [tI 0, tA8 z, tA8 (sA c'⁻¹), tI (n : Int), tU64 (m : Int), tB fl'] := by
  intro d
  induction d with
  | zero =>
    intro p hp c fl ha hb
    refine ⟨c, fl, ha, hb, Nat.le_refl _, fun h => ⟨h, rfl, fun q h1 h2 => by omega⟩, fun h => .inl h, ?_⟩
    apply vi_meet_7
    have h1 : ¬ (((p + 1 : Nat) : Int) < (n : Int)) := by omega
    simp only [bi_meet_7, decide_eq_false h1, cond_false]
  | succ d ih =>
    intro p hp c fl ha hb
    by_cases h0 : p + 1 < n
    · have e1 := wi64_p (p := p) (by omega)
      have l0 := c.lt_g (show p < n by omega)
      have l1 := c.lt_g h0
      have g0 := sA_get (s := c⁻¹) (x := p) (by omega) hn
      have g1 := sA_get (s := c⁻¹) (x := p + 1) h0 hn
      simp only [Pm.inv_f] at g0 g1
      by_cases h1 : c.g p < c.g (p + 1)
      · have e2 : wu8 (wu8 (8 * (c.g p : Int)) + (c.g (p + 1) : Int)) = ((8 * c.g p + c.g (p + 1) : Nat) : Int) := by
          rw [wrap_u8 (x := 8 * (c.g p : Int)) (by omega) (by omega), wrap_u8] <;> omega
        have e3 := bit_at (d := m) (k := 8 * c.g p + c.g (p + 1)) hm.1 (by omega)
        have e4 := hm.2 (c.g p) (c.g (p + 1)) (by omega) (by omega)
        have d1 : ((c.g p : Int) < (c.g (p + 1) : Int)) := by omega
        by_cases h2 : a.f (c.g (p + 1)) < a.f (c.g p) ∧ b.f (c.g (p + 1)) < b.f (c.g p)
        · have hcn := Pm.cnt_put1 (h := h0) h1
          obtain ⟨c', fl', q1, q2, q3, q4, q5, q6⟩ := ih (p + 1) (by omega) (Pm.put1 c p h0) true (Pm.put1_le h1 ha h2.1) (Pm.put1_le h1 hb h2.2)
          refine ⟨c', fl', q1, q2, by omega, fun h => absurd (q4 h).1 (by simp), fun _ => .inr (by omega), ?_⟩
          apply vi_meet_7
          have e5 : m.testBit (8 * c.g p + c.g (p + 1)) = true := e4.2 ⟨⟨h1, h2.1⟩, h1, h2.2⟩
          simp (disch := omega) only [bi_meet_7, e1, decide_eq_true, cond_true, Bool.and_true, Int.toNat_natCast, g0, g1, e2, e3, e5, wi64_n1, sA_put1 hn c p h0]
          exact q6
        · obtain ⟨c', fl', q1, q2, q3, q4, q5, q6⟩ := ih (p + 1) (by omega) c fl ha hb
          refine ⟨c', fl', q1, q2, q3, fun h => ⟨(q4 h).1, (q4 h).2.1, fun q h3 h4 => ?_⟩, q5, ?_⟩
          · rcases Nat.lt_or_ge p q with h5 | h5
            · exact (q4 h).2.2 q (by omega) h4
            · have : q = p := by omega
              subst this
              exact fun _ => h2
          · apply vi_meet_7
            have e5 : m.testBit (8 * c.g p + c.g (p + 1)) = false := by
              rw [Bool.eq_false_iff]
              intro h
              exact h2 ⟨(e4.1 h).1.2, (e4.1 h).2.2⟩
            simp (disch := omega) only [bi_meet_7, e1, decide_eq_true, cond_true, cond_false, Bool.and_true, Int.toNat_natCast, g0, g1, e2, e3, e5, wi64_n1]
            exact q6
      · obtain ⟨c', fl', q1, q2, q3, q4, q5, q6⟩ := ih (p + 1) (by omega) c fl ha hb
        refine ⟨c', fl', q1, q2, q3, fun h => ⟨(q4 h).1, (q4 h).2.1, fun q h3 h4 => ?_⟩, q5, ?_⟩
        · rcases Nat.lt_or_ge p q with h5 | h5
          · exact (q4 h).2.2 q (by omega) h4
          · have : q = p := by omega
            subst this
            exact fun h => (h1 h).elim
        · apply vi_meet_7
          have d1 : ¬ ((c.g p : Int) < (c.g (p + 1) : Int)) := by omega
          simp (disch := omega) only [bi_meet_7, e1, decide_eq_true, decide_eq_false d1, cond_true, cond_false, Bool.and_true, Int.toNat_natCast, g0, g1, wi64_n1]
          exact q6
    · refine ⟨c, fl, ha, hb, Nat.le_refl _, fun h => ⟨h, rfl, fun q h1 h2 => by omega⟩, fun h => .inl h, ?_⟩
      apply vi_meet_7
      have h1 : ¬ (((p + 1 : Nat) : Int) < (n : Int)) := by omega
      simp only [bi_meet_7, decide_eq_false h1, cond_false]
theorem c_meet_4 (n : Nat) (hn : n ≤ 8) (a b : Pm n) (m : Nat) (hm : Bits m (fun x y => (x < y ∧ a.f y < a.f x) ∧ (x < y ∧ b.f y < b.f x))) (z : List Int) :
    ∀ (k : Nat) (c : Pm n), n * n < c.cnt + k → c.le a → c.le b → R ii_meet_4 [tA8 z, tA8 (sA c⁻¹), tI (n : Int), tU64 (m : Int), tB true] = some [tI 0, tA8 z, tA8 (sA (Pm.meet a b)⁻¹), tI (n : Int)] := by
  intro k
  induction k with
  | zero =>
    intro c hk
    have := Pm.cnt_le c
    omega
  | succ k ih =>
    intro c hk ha hb
    obtain ⟨c', fl', q1, q2, q3, q4, q5, q6⟩ := c_meet_7 n hn a b m hm z n 0 (by omega) c false ha hb
    apply vi_meet_4
    simp only [Nat.zero_add] at q6
    rw [show ((1 : Nat) : Int) = 1 from rfl] at q6
    simp only [bi_meet_4, cond_true, q6, Option.bind_some, getTV_here, getTV_next]
    cases fl' with
    | true =>
      have := q5 rfl
      simp only [Bool.false_eq_true, false_or] at this
      exact ih c' (by omega) q1 q2
    | false =>
      obtain ⟨_, r2, r3⟩ := q4 rfl
      subst r2
      have e := Pm.Greedy.eq ⟨q1, q2, fun q h1 h2 => r3 q (Nat.zero_le _) h1 h2⟩
      apply vi_meet_4
      simp only [bi_meet_4, cond_false, e]
theorem c_meet (n : Nat) (hn : n ≤ 8) (a b : Pm n) : R ii_meet [tA8 (sA a), tA8 (sA b), tI (n : Int)] = some [tA8 (sA (Pm.meet a b))] := by
  obtain ⟨d, h1, h2⟩ := c_descents n hn a
  obtain ⟨e, h3, h4⟩ := c_descents n hn b
  have h5 := c_meet_4 n hn a b (d &&& e) (h1.and h3) (List.replicate 8 0) (n * n + 1) 1 (by omega) (Pm.one_le a) (Pm.one_le b)
  rw [inv_one] at h5
  apply vi_meet
  simp only [bi_meet, h2, h4, c_nothing n hn, Option.bind_some, getTV_here, getTV_next, bitsAnd_nat h1.1 h3.1, h5, c_backOf n hn, inv_inv]
end Go.Ev.YtolpnaiincngjaaGreat
