/- Lengths: inversions counted, sums of signs. -/
import Derived.Test.YtpfpjhfimmmkmaaMwN
set_option linter.unusedVariables false
set_option linter.unusedSimpArgs false
namespace Go.Ev.Ytpfpjhfimmmkmaa
open Go.Ev Go.Gar
def prs : List (Nat × Nat) := (List.range 8).flatMap fun i => (List.range 8).map fun j => (i, j)
def len {n : Nat} (c : Pm n) : Nat := prs.countP fun q => decide (q.1 < q.2) && decide (c.f q.2 < c.f q.1)
theorem mem_prs (i j : Nat) : (i, j) ∈ prs ↔ i < 8 ∧ j < 8 := by
  simp only [prs, List.mem_flatMap, List.mem_range, List.mem_map, Prod.mk.injEq]
  constructor
  · rintro ⟨a, ha, b, hb, rfl, rfl⟩
    exact ⟨ha, hb⟩
  · rintro ⟨ha, hb⟩
    exact ⟨i, ha, j, hb, rfl, rfl⟩
theorem prs_nodup : prs.Nodup := by decide
theorem countP_one {α : Type} {p q : α → Bool} {x : α} : ∀ {l : List α}, l.Nodup → x ∈ l → p x = false → q x = true → (∀ y ∈ l, y ≠ x → q y = p y) → l.countP q = l.countP p + 1
  | [], _, hx, _, _, _ => by simp at hx
  | a :: l, hn, hx, hp, hq, h => by
    have hn' := List.nodup_cons.1 hn
    by_cases e : a = x
    · subst e
      have : l.countP q = l.countP p := List.countP_congr (fun y hy => by rw [h y (List.mem_cons_of_mem _ hy) (fun e => hn'.1 (e ▸ hy))])
      rw [List.countP_cons, List.countP_cons, hp, hq, this]
      simp
    · have hx' : x ∈ l := by
        rcases List.mem_cons.1 hx with q | q
        · exact absurd q.symm e
        · exact q
      have ih := countP_one hn'.2 hx' hp hq (fun y hy => h y (List.mem_cons_of_mem _ hy))
      rw [List.countP_cons, List.countP_cons, ih, h a List.mem_cons_self e]
      omega
theorem len_put1 {n : Nat} (hn : n ≤ 8) {c : Pm n} {p : Nat} {h : p + 1 < n} (hc : c.g p < c.g (p + 1)) : len (Pm.put1 c p h) = len c + 1 := by
  have h1 := c.lt_g (show p < n by omega)
  have h2 := c.lt_g h
  refine countP_one (x := (c.g p, c.g (p + 1))) prs_nodup ((mem_prs _ _).2 ⟨by omega, by omega⟩) ?_ ?_ ?_
  · simp only [c.fg]
    simp
  · simp only [Bool.and_eq_true, decide_eq_true_eq]
    exact ⟨hc, (Pm.put1_inv hc hc).2 (.inr ⟨rfl, rfl⟩)⟩
  · rintro ⟨i, j⟩ _ hne
    by_cases hij : i < j
    · have := Pm.put1_inv (h := h) hc hij
      simp only [hij, decide_true, Bool.true_and, decide_eq_decide]
      constructor
      · intro q
        rcases this.1 q with q | ⟨rfl, rfl⟩
        · exact q
        · exact absurd rfl hne
      · intro q
        exact this.2 (.inl q)
    · simp [hij]
theorem len_one {n : Nat} : len (1 : Pm n) = 0 := by
  apply List.countP_eq_zero.2
  rintro ⟨i, j⟩ _
  simp
  omega
theorem desc_r {n : Nat} {c : Pm n} (h : c ≠ 1) : ∃ p, p + 1 < n ∧ c.g (p + 1) < c.g p := by
  cases hb : begL c⁻¹ n with
  | nil =>
    have := begL_nil hb
    exact absurd (by rw [← inv_inv c, this, inv_one]) h
  | cons x m =>
    obtain ⟨p, hp, hs, _⟩ := begL_first hb
    exact ⟨p, hp, hs⟩
theorem len_mul {n : Nat} (hn : n ≤ 8) (x : Pm n) : ∀ (k : Nat) (c : Pm n), Pm.cnt c ≤ k → Pm.le c (x⁻¹ * Pm.half n) → len (x * c) = len x + len c := by
  intro k
  induction k with
  | zero =>
    intro c hc _
    by_cases h : c = 1
    · rw [h, Grp.mul_one, len_one, Nat.add_zero]
    · exfalso
      obtain ⟨p, hp, hs⟩ := desc_r h
      have e : c = Pm.put1 (c * Pm.swap n p hp) p hp := by
        show c = (c * Pm.swap n p hp) * Pm.swap n p hp
        rw [Grp.assoc, swap_swap, Grp.mul_one]
      have hc' : (c * Pm.swap n p hp).g p < (c * Pm.swap n p hp).g (p + 1) := by
        show c.g (Pm.sf p p) < c.g (Pm.sf p (p + 1))
        simp [Pm.sf]
        exact hs
      have := Pm.cnt_put1 (h := hp) hc'
      rw [← e] at this
      omega
  | succ k ih =>
    intro c hc hle
    by_cases h : c = 1
    · rw [h, Grp.mul_one, len_one, Nat.add_zero]
    · obtain ⟨p, hp, hs⟩ := desc_r h
      have e : c = Pm.put1 (c * Pm.swap n p hp) p hp := by
        show c = (c * Pm.swap n p hp) * Pm.swap n p hp
        rw [Grp.assoc, swap_swap, Grp.mul_one]
      have hc' : (c * Pm.swap n p hp).g p < (c * Pm.swap n p hp).g (p + 1) := by
        show c.g (Pm.sf p p) < c.g (Pm.sf p (p + 1))
        simp [Pm.sf]
        exact hs
      generalize c * Pm.swap n p hp = d at e hc'
      have h1 := Pm.cnt_put1 (h := hp) hc'
      rw [← e] at h1
      have h2 : Pm.le d c := fun i j hij hlt => by
        rw [e]
        exact (Pm.put1_inv hc' hij).2 (.inl hlt)
      have h3 := ih d (by omega) (fun i j hij hlt => hle i j hij (h2 i j hij hlt))
      have h4 := hle (d.g p) (d.g (p + 1)) hc' (by
        have := (Pm.put1_inv (h := hp) hc' hc').2 (.inr ⟨rfl, rfl⟩)
        rw [← e] at this
        exact this)
      have h5 : Pm.hf n (x.g (d.g (p + 1))) < Pm.hf n (x.g (d.g p)) := h4
      have h6 : (x * d).g p < (x * d).g (p + 1) := by
        show x.g (d.g p) < x.g (d.g (p + 1))
        rcases Pm.hf_rev h5 with q | q
        · exact q
        · have := x.lt_g (d.lt_g (show p < n by omega))
          omega
      have h7 := len_put1 hn (h := hp) h6
      have h8 := len_put1 hn (h := hp) hc'
      have e2 : x * c = Pm.put1 (x * d) p hp := by
        rw [e]
        show x * (d * Pm.swap n p hp) = (x * d) * Pm.swap n p hp
        rw [Grp.assoc]
      rw [e2, h7, h3]
      rw [← e] at h8
      omega
theorem len_mulK {n : Nat} (hn : n ≤ 8) {x c : Pm n} (h : (Pm.lat n).le c ((Pm.lat n).K x)) : len (x * c) = len x + len c := len_mul hn x _ c (Nat.le_refl _) h
theorem len_div {n : Nat} (hn : n ≤ 8) {c y : Pm n} (h : (Pm.lat n).le c y) : len y = len c + len (c⁻¹ * y) := by
  have h1 := (Lat.P0 (Γ := Pm.lat n) trivial trivial h).2
  have h2 := len_mulK hn h1
  rw [mul_inv_l] at h2
  exact h2
def sm {n : Nat} (X : List (Pm n)) : Nat := (X.map len).sum
theorem sm_app {n : Nat} (X Y : List (Pm n)) : sm (X ++ Y) = sm X + sm Y := by simp [sm]
theorem sm_cons {n : Nat} (x : Pm n) (Y : List (Pm n)) : sm (x :: Y) = len x + sm Y := by simp [sm]
theorem sm_L {n : Nat} (hn : n ≤ 8) : ∀ (A : List (Pm n)) (t : Pm n), sm ((Pm.lat n).L t A) = len t + sm A
  | [], t => rfl
  | a :: A, t => by
    have C := Lat.cut (Γ := Pm.lat n) (t := t) (a := a) trivial trivial
    have e : (Pm.lat n).L t (a :: A) = (t * (Pm.lat n).meet ((Pm.lat n).K t) a) :: (Pm.lat n).L (((Pm.lat n).meet ((Pm.lat n).K t) a)⁻¹ * a) A := rfl
    rw [e, sm_cons, sm_L hn A, len_mulK hn C.c_K, sm_cons, len_div hn C.c_a]
    omega
theorem sm_nf {n : Nat} (hn : n ≤ 8) : ∀ (X : List (Pm n)), sm ((Pm.lat n).nf X) = sm X
  | [] => rfl
  | a :: X => by rw [Lat.nf_cons, sm_L hn, sm_nf hn X, sm_cons]
theorem sm_ones {n : Nat} (j : Nat) : sm (Lat.ones j : List (Pm n)) = 0 := by
  simp [sm, Lat.ones, len_one, List.sum_replicate_nat]
theorem sm_Ds {n : Nat} (j : Nat) : sm ((Pm.lat n).Ds j) = j * len (Pm.half n) := by
  simp only [sm, Lat.Ds, List.map_replicate, List.sum_replicate_nat]
  rfl
noncomputable def ex {n : Nat} (v : Nm n) : Int := v.1 * ((len (Pm.half n) : Nat) : Int) + ((sm v.2 : Nat) : Int)
theorem ex_mk {n : Nat} (h2 : 2 ≤ n) (hn : n ≤ 8) (p : Int) (X : List (Pm n)) : ex (mk p X) = p * ((len (Pm.half n) : Nat) : Int) + ((sm X : Nat) : Int) := by
  obtain ⟨j, e, hP, _⟩ := Lat.norm_spec (Γ := Pm.lat n) (half_ne h2) (allS X)
  have h := sm_nf hn X
  rw [e, sm_app, sm_app, sm_ones, sm_Ds] at h
  show (p + (((Pm.lat n).norm X).1 : Nat)) * ((len (Pm.half n) : Nat) : Int) + ((sm ((Pm.lat n).norm X).2 : Nat) : Int) = _
  rw [← h, Int.add_mul]
  simp only [Int.natCast_add, Int.natCast_mul]
  omega
theorem len_swap {n : Nat} (hn : n ≤ 8) {p : Nat} (h : p + 1 < n) : len (Pm.swap n p h) = 1 := by
  have hc : (1 : Pm n).g p < (1 : Pm n).g (p + 1) := by simp
  have := len_put1 hn (h := h) hc
  rw [len_one] at this
  have e : Pm.put1 1 p h = Pm.swap n p h := Grp.one_mul _
  rw [e] at this
  exact this
theorem len_K {n : Nat} (hn : n ≤ 8) (x : Pm n) : len (Pm.half n) = len x + len ((Pm.lat n).K x) := by
  have := len_mulK hn ((Pm.lat n).refl (x := (Pm.lat n).K x) trivial)
  rw [x_K] at this
  exact this
theorem len_trn {n : Nat} (hn : n ≤ 8) (x : Pm n) : len (trn x) = len x := by
  have h1 := len_K hn x
  have h2 := len_K hn ((Pm.lat n).K x)
  have e : (Pm.lat n).K ((Pm.lat n).K x) = trn x := trn_K x
  rw [e] at h2
  omega
theorem sm_trn {n : Nat} (hn : n ≤ 8) : ∀ (X : List (Pm n)), sm (X.map trn) = sm X
  | [] => rfl
  | x :: X => by rw [List.map_cons, sm_cons, sm_cons, len_trn hn, sm_trn hn X]
def sg (x : Int) : Int := if 0 < x then 1 else -1
theorem ex_step {n : Nat} (h2 : 2 ≤ n) (hn : n ≤ 8) (v : Nm n) {x : Int} (hx : x ≠ 0 ∧ 1 - (n : Int) ≤ x ∧ x ≤ (n : Int) - 1) : ex (stepN v x) = ex v + sg x := by
  have hp : x.natAbs - 1 + 1 < n := by omega
  unfold stepN sg
  by_cases h : 0 < x
  · rw [if_pos h, if_pos h, ex_mk h2 hn, sm_app, swapN_eq hp, sm_cons, len_swap hn]
    simp only [ex, sm, List.map_nil, List.sum_nil, Int.natCast_add]
    omega
  · rw [if_neg h, if_neg h, ex_mk h2 hn, sm_app, swapN_eq hp, sm_cons, sm_trn hn]
    have h3 := len_K hn (Pm.half n * (Pm.swap n (x.natAbs - 1) hp)⁻¹)
    rw [K_left, len_swap hn] at h3
    simp only [ex, sm, List.map_nil, List.sum_nil, Int.natCast_add, Int.sub_mul]
    omega
def sgs : List Int → Int
  | [] => 0
  | x :: w => sg x + sgs w
theorem ex_fold {n : Nat} (h2 : 2 ≤ n) (hn : n ≤ 8) : ∀ (w : List Int) (v : Nm n), Lw n w → ex (w.foldl stepN v) = ex v + sgs w
  | [], v, _ => by simp [sgs]
  | x :: w, v, hw => by
    show ex (w.foldl stepN (stepN v x)) = _
    rw [ex_fold h2 hn w _ (fun y hy => hw y (List.mem_cons_of_mem _ hy)), ex_step h2 hn v (hw x List.mem_cons_self), sgs, Int.add_assoc]
theorem ex_nOf {n : Nat} (h1 : 1 ≤ n) (hn : n ≤ 8) {w : List Int} (hw : Lw n w) : ex (nOf n w) = sgs w := by
  by_cases h2 : 2 ≤ n
  · have := ex_fold h2 hn w (0, []) hw
    have e : ex ((0, []) : Nm n) = 0 := by simp [ex, sm]
    rw [e, Int.zero_add] at this
    exact this
  · obtain rfl : n = 1 := by omega
    rw [Lw_one hw]
    simp [nOf, ex, sm, sgs]
/-! ### bits -/
def pcb (d : Nat) : Nat := (List.range 64).countP fun i => d.testBit i
theorem low_bit : ∀ (d : Nat), 0 < d → ∃ k, d.testBit k = true ∧ (d &&& (d - 1)).testBit k = false ∧ ∀ i, i ≠ k → (d &&& (d - 1)).testBit i = d.testBit i := by
  intro d
  induction d using Nat.strongRecOn with
  | _ d ih =>
    intro hd
    by_cases h : d % 2 = 1
    · refine ⟨0, by simp [Nat.testBit_zero, h], ?_, ?_⟩
      · rw [Nat.testBit_and, Nat.testBit_zero, Nat.testBit_zero, show (d - 1) % 2 = 0 by omega]
        simp
      · intro i hi
        obtain ⟨j, rfl⟩ : ∃ j, i = j + 1 := ⟨i - 1, by omega⟩
        rw [Nat.testBit_succ, Nat.testBit_succ, Nat.and_div_two, show (d - 1) / 2 = d / 2 by omega, Nat.and_self]
    · obtain ⟨k, h1, h2, h3⟩ := ih (d / 2) (by omega) (by omega)
      have e : (d &&& (d - 1)) / 2 = d / 2 &&& (d / 2 - 1) := by rw [Nat.and_div_two, show (d - 1) / 2 = d / 2 - 1 by omega]
      refine ⟨k + 1, by rw [Nat.testBit_succ]; exact h1, by rw [Nat.testBit_succ, e]; exact h2, ?_⟩
      intro i hi
      cases i with
      | zero =>
        rw [Nat.testBit_and, Nat.testBit_zero, show d % 2 = 0 by omega]
        simp
      | succ i =>
        rw [Nat.testBit_succ, Nat.testBit_succ, e]
        exact h3 i (by omega)
theorem pcb_step {d : Nat} (hd : 0 < d) (hl : d < 2 ^ 64) : pcb d = pcb (d &&& (d - 1)) + 1 := by
  obtain ⟨k, h1, h2, h3⟩ := low_bit d hd
  have hk : k < 64 := by
    by_cases h : k < 64
    · exact h
    · have := Nat.testBit_lt_two_pow (x := d) (i := k) (Nat.lt_of_lt_of_le hl (Nat.pow_le_pow_right (by omega) (by omega)))
      rw [this] at h1
      cases h1
  exact countP_one (x := k) List.nodup_range (List.mem_range.2 hk) h2 h1 (fun y _ hne => (h3 y hne).symm)
theorem c_lengthOf_3 : ∀ (m d : Nat) (k : Nat), pcb d = m → d < 2 ^ 64 → k + m ≤ 1000 → R ii_lengthOf_3 [tI (k : Int), tU64 (d : Int)] = some [tI 0, tI ((k + pcb d : Nat) : Int)] := by
  intro m
  induction m with
  | zero =>
    intro d k hm hd hk
    by_cases h : d = 0
    · subst h
      apply vi_lengthOf_3
      have e : pcb 0 = 0 := by decide
      rw [e]
      simp [bi_lengthOf_3]
    · have := pcb_step (by omega) hd
      omega
  | succ m ih =>
    intro d k hm hd hk
    have h : 0 < d := by
      by_cases h : d = 0
      · subst h
        have e : pcb 0 = 0 := by decide
        omega
      · omega
    have hs := pcb_step h hd
    apply vi_lengthOf_3
    have p1 : ((d : Int) != 0) = true := by simp; omega
    have w1 : wi64 ((k : Int) + 1) = ((k + 1 : Nat) : Int) := by rw [wrap_i64] <;> omega
    have w2 : wu64 ((d : Int) - 1) = ((d - 1 : Nat) : Int) := by
      rw [show ((d : Int) - 1) = ((d - 1 : Nat) : Int) by omega]
      exact wrap_u64 (by omega) (by omega)
    have hd' : d &&& (d - 1) < 2 ^ 64 := Nat.lt_of_le_of_lt Nat.and_le_left hd
    simp only [bi_lengthOf_3, p1, cond_true, w1, w2, bitsAnd_nat hd (show d - 1 < 2 ^ 64 by omega)]
    rw [ih _ (k + 1) (by omega) hd' (by omega), hs]
    congr 4
    omega
theorem range64 : List.range 64 = prs.map fun q => 8 * q.1 + q.2 := by decide
theorem pcb_len {n : Nat} {s : Pm n} {d : Nat} (h : Bits d (fun x y => x < y ∧ s.f y < s.f x)) : pcb d = len s := by
  unfold pcb len
  rw [range64, List.countP_map]
  apply List.countP_congr
  rintro ⟨i, j⟩ hm
  obtain ⟨hi, hj⟩ := (mem_prs i j).1 hm
  have := h.2 i j hi hj
  simp only [Function.comp, Bool.and_eq_true, decide_eq_true_eq]
  exact this
theorem len_le {n : Nat} (s : Pm n) : len s ≤ 64 := by
  have := List.countP_le_length (p := fun q : Nat × Nat => decide (q.1 < q.2) && decide (s.f q.2 < s.f q.1)) (l := prs)
  have e : prs.length = 64 := by decide
  unfold len
  omega
theorem c_LengthOfSimple (n : Nat) (h1 : 1 ≤ n) (hn : n ≤ 8) (s : Pm n) : R ii_LengthOfSimple [tA8 (sA s), tI (n : Int)] = some [tI ((len s : Nat) : Int), tI 0] := by
  have hl : R ii_lengthOf [tA8 (sA s), tI (n : Int)] = some [tI ((len s : Nat) : Int)] := by
    obtain ⟨d, hb, h⟩ := c_descents n hn s
    have e := pcb_len hb
    have hle := len_le s
    have h3 := c_lengthOf_3 (pcb d) d 0 rfl hb.1 (by omega)
    rw [Nat.zero_add, e] at h3
    apply vi_lengthOf
    simp only [Int.natCast_zero] at h3
    simp only [bi_lengthOf, h, h3, Option.bind_some, getTV_here, getTV_next]
  apply vi_LengthOfSimple
  have hs := c_IsSimple (n : Int) (sA s) (sA_B8 hn s)
  rw [(isSm_nat h1 hn _).2 ⟨s, rfl⟩] at hs
  simp only [bi_LengthOfSimple, hs, hl, Option.bind_some, getTV_here, Bool.not_true, cond_false]
theorem c_sign (x : Int) : R ii_sign [tI x] = some [tI (sg x)] := by
  apply vi_sign
  unfold sg
  by_cases h : 0 < x
  · simp [bi_sign, h]
  · simp [bi_sign, h]
theorem sg_rng (x : Int) : -1 ≤ sg x ∧ sg x ≤ 1 := by unfold sg; split <;> omega
theorem c_SumOf_5 (w : List Int) (hl : w.length ≤ 200) : ∀ (d i : Nat) (acc : Int), i + d = w.length → -1000 + d ≤ acc → acc + d ≤ 1000 → R ii_SumOf_5 [tLI w, tI acc, tI (w.length : Int), tI (i : Int)] = some [tI 0, tI (acc + sgs (w.drop i))] := by
  intro d
  induction d with
  | zero =>
    intro i acc h _ _
    apply vi_SumOf_5
    have p1 : decide ((i : Int) < ((w.length : Nat) : Int)) = false := decide_eq_false (by omega)
    rw [List.drop_eq_nil_of_le (by omega)]
    simp only [bi_SumOf_5, p1, cond_false, sgs, Int.add_zero]
  | succ d ih =>
    intro i acc h h1 h2
    apply vi_SumOf_5
    have p1 : decide ((i : Int) < ((w.length : Nat) : Int)) = true := decide_eq_true (by omega)
    have p2 : decide (0 ≤ (i : Int)) = true := decide_eq_true (by omega)
    have w1 : wi64 ((i : Int) + 1) = ((i + 1 : Nat) : Int) := by rw [wrap_i64] <;> omega
    have hr := sg_rng (w[i]'(by omega))
    have w2 : wi64 (acc + sg (w[i]'(by omega))) = acc + sg (w[i]'(by omega)) := by rw [wrap_i64] <;> omega
    have g : List.getD w i 0 = w[i]'(by omega) := getD_at (by omega)
    simp only [bi_SumOf_5, p1, p2, cond_true, Bool.and_true, Int.toNat_natCast, g, c_sign, Option.bind_some, getTV_here, w1, w2]
    have da : w.drop i = w[i]'(by omega) :: w.drop (i + 1) := List.drop_eq_getElem_cons _
    rw [ih (i + 1) _ (by omega) (by omega) (by omega), da, sgs, Int.add_assoc]
theorem c_SumOf {n : Nat} (h1 : 1 ≤ n) (hn : n ≤ 8) {w : List Int} (hw : Lw n w) (hl : w.length ≤ 200) : R ii_SumOf [tPILI ((n : Int), w)] = some [tI (sgs w), tI 0] := by
  apply vi_SumOf
  have h5 := c_SumOf_5 w hl w.length 0 0 (by omega) (by omega) (by omega)
  simp only [Int.natCast_zero, List.drop_zero, Int.zero_add] at h5
  have hb := c_IsBraid ((n : Int), w) (by show w.length < _; omega)
  rw [isBr_of h1 hn hw hl] at hb
  simp only [bi_SumOf, hb, h5, Option.bind_some, getTV_here, getTV_next, Bool.not_true, cond_false]
/-- The half turn's length. -/
theorem len_half (n : Nat) (h1 : 1 ≤ n) (hn : n ≤ 8) : 2 * len (Pm.half n) = n * (n - 1) := by
  have : ∀ m, m < 9 → 2 * len (Pm.half m) = m * (m - 1) := by decide
  exact this n (by omega)
end Go.Ev.Ytpfpjhfimmmkmaa
