/- PartOfBlocks: the law. -/
import Derived.Test.YtadjhggdddbicaaMq3
import Derived.Test.YtadjhggdddbicaaMp5
set_option linter.unusedVariables false
set_option linter.unusedSimpArgs false
namespace Go.Ev.Ytadjhggdddbicaa
open Go.Ev
/-! ### the laws' words on lists of lists -/
def szs : List (List Int) → Int → Int
  | [], k => k
  | b :: r, k => if k < b.length then -1 else szs r (k - b.length)
theorem szs_le : ∀ (l : List (List Int)) (k : Int), 0 ≤ k → szs l k ≤ k
  | [], _, _ => Int.le_refl _
  | b :: r, k, h => by
    simp only [szs]
    split
    · omega
    · have := szs_le r (k - b.length) (by omega)
      omega
theorem szs_mem : ∀ (l : List (List Int)) (k : Int), 0 ≤ k → 0 ≤ szs l k → ∀ b ∈ l, (b.length : Int) ≤ k
  | [], _, _, _, b, hb => by simp at hb
  | c :: r, k, h, h2, b, hb => by
    simp only [szs] at h2
    split at h2
    · omega
    · rcases List.mem_cons.1 hb with rfl | hb
      · omega
      · have := szs_mem r (k - c.length) (by omega) h2 b hb
        omega
theorem c_szInt64SS_5 (l : List (List Int)) (hl : l.length ≤ 9223372036854775806) (hb : ∀ b ∈ l, b.length ≤ 9223372036854775807) : ∀ i, i ≤ l.length → ∀ k : Int, 0 ≤ k → k ≤ 1000000000 →
    ∃ e : Int, R iw_szInt64SS_5 [tLLI l, tI k, tI (i : Int)] = some [tI e, tI (szs (l.drop i) k)] := by
  refine up_loop _ (fun k h1 h2 => ?_) (fun i hi ih k h1 h2 => ?_)
  · refine ⟨0, vw_szInt64SS_5 _ _ _ ?_⟩
    simp [bw_szInt64SS_5, szs]
  · have e : List.getD l i [] = l[i] := by simp [List.getD_eq_getElem?_getD, List.getElem?_eq_getElem hi]
    have p2 : decide ((0 : Int) ≤ (i : Int)) = true := decide_eq_true (by omega)
    have p3 : decide ((i : Int) < ((l.length : Nat) : Int)) = true := decide_eq_true (by omega)
    have w : wi64 ((i : Int) + 1) = ((i + 1 : Nat) : Int) := by rw [wrap_i64] <;> omega
    have hbi := hb _ (List.getElem_mem hi)
    rw [List.drop_eq_getElem_cons hi]
    by_cases h : k < l[i].length
    · refine ⟨1, vw_szInt64SS_5 _ _ _ ?_⟩
      simp only [bw_szInt64SS_5, Int.toNat_natCast, p2, p3, cond_true, Bool.and_true, e, c_szInt64S _ k hbi h1 h2, Option.bind_some, getTV_here, if_pos h, szs]
      rfl
    · obtain ⟨f, hf⟩ := ih (k - l[i].length) (by omega) (by omega)
      have q : decide (k - (l[i].length : Int) < 0) = false := decide_eq_false (by omega)
      refine ⟨f, vw_szInt64SS_5 _ _ _ ?_⟩
      simp only [bw_szInt64SS_5, Int.toNat_natCast, p2, p3, cond_true, Bool.and_true, e, c_szInt64S _ k hbi h1 h2, Option.bind_some, getTV_here, if_neg h, szs, q, cond_false, w, hf]
theorem c_szInt64SS (l : List (List Int)) (hl : l.length ≤ 9223372036854775806) (hb : ∀ b ∈ l, b.length ≤ 9223372036854775807) (k : Int) (hk : 0 ≤ k) (hk' : k ≤ 1000000000) :
    R iw_szInt64SS [tLLI l, tI k] = some [tI (if k < l.length then -1 else szs l (k - l.length))] := by
  apply vw_szInt64SS
  have w : wi64 (k - ((l.length : Nat) : Int)) = k - l.length := by rw [wrap_i64] <;> omega
  by_cases h : k < l.length
  · have q : decide (k - (l.length : Int) < 0) = true := decide_eq_true (by omega)
    simp only [bw_szInt64SS, w, q, cond_true, if_pos h]
  · have q : decide (k - (l.length : Int) < 0) = false := decide_eq_false (by omega)
    obtain ⟨e, he⟩ := c_szInt64SS_5 l hl hb 0 (Nat.zero_le _) (k - l.length) (by omega) (by omega)
    simp only [Int.natCast_zero, List.drop_zero] at he
    simp only [bw_szInt64SS, w, q, cond_false, if_neg h, he, Option.bind_some, getTV_here, getTV_next]
    cases (e == 0) <;> rfl
theorem c_toInt64SS_3 (x0 : List (List Int)) (h0 : x0.length < 1000000000) (hb : ∀ b ∈ x0, b.length < 1000000000) : ∀ i, i ≤ x0.length → ∀ x1 : List (List Int), x1.length = x0.length → x1.take i = x0.take i → R iw_toInt64SS_3 [tLLI x0, tLLI x1, tI (i : Int)] = some [tI 0, tLLI x0] := by
  refine up_loop _ (fun x1 h1 h2 => ?_) (fun i hi ih x1 h1 h2 => ?_)
  · apply vw_toInt64SS_3
    rw [← h1, List.take_length, h1, List.take_length] at h2
    subst h2
    simp [bw_toInt64SS_3]
  · apply vw_toInt64SS_3
    have e : List.getD x0 i [] = x0[i] := by simp [List.getD_eq_getElem?_getD, List.getElem?_eq_getElem hi]
    simp (disch := omega) only [bw_toInt64SS_3, decide_eq_true, cond_true, Bool.and_true, Int.toNat_natCast, wrap_i64, e, c_toInt64S _ (hb _ (List.getElem_mem hi)), Option.bind_some, getTV_here]
    rw [show (i : Int) + 1 = ((i + 1 : Nat) : Int) by omega]
    refine ih _ (by simp [h1]) ?_
    rw [List.take_add_one, List.take_add_one, List.take_set_of_le (Nat.le_refl _), h2]
    simp [h1, hi]
theorem c_toInt64SS (a : List (List Int)) (h : a.length < 1000000000) (hb : ∀ b ∈ a, b.length < 1000000000) : R iw_toInt64SS [tLLI a] = some [tLLI a] := by
  apply vw_toInt64SS
  have e : mkOk ((a.length : Nat) : Int) = true := by
    have h2 : ((a.length : Int) ≤ (lim : Int)) := by simp only [lim]; omega
    simp [mkOk, h2]
  have := c_toInt64SS_3 a h hb 0 (Nat.zero_le _) (List.replicate a.length []) (by simp) rfl
  simp only [Int.natCast_zero] at this
  simp [bw_toInt64SS, e, this]
theorem c_eqInt64SS_4 (a : List (List Int)) (h : a.length < 1000000000) (hb : ∀ b ∈ a, b.length < 1000000000) : ∀ i, i ≤ a.length → R iw_eqInt64SS_4 [tLLI a, tLLI a, tI (i : Int)] = some [tI 0] := by
  refine up_loop _ ?_ (fun i hi ih => ?_)
  · apply vw_eqInt64SS_4
    simp [bw_eqInt64SS_4]
  · apply vw_eqInt64SS_4
    have e : List.getD a i [] = a[i] := by simp [List.getD_eq_getElem?_getD, List.getElem?_eq_getElem hi]
    simp (disch := omega) only [bw_eqInt64SS_4, decide_eq_true, cond_true, Bool.and_true, Int.toNat_natCast, wrap_i64, e, c_eqInt64S _ _ (hb _ (List.getElem_mem hi)), Option.bind_some, getTV_here]
    rw [show (i : Int) + 1 = ((i + 1 : Nat) : Int) by omega, ih]
    simp
theorem c_eqInt64SS (a : List (List Int)) (h : a.length < 1000000000) (hb : ∀ b ∈ a, b.length < 1000000000) : R iw_eqInt64SS [tLLI a, tLLI a] = some [tB true] := by
  apply vw_eqInt64SS
  have := c_eqInt64SS_4 a h hb 0 (Nat.zero_le _)
  simp only [Int.natCast_zero] at this
  simp [bw_eqInt64SS, this]
/-! ### the walk over blocks -/
def putS (S : Nat → Bool) (x : Nat) : Nat → Bool := fun z => if z = x then true else S z
def putG (G : Nat → Nat) (x v : Nat) : Nat → Nat := fun z => if z = x then v else G z
def pbk (n : Nat) (b : List Int) : Nat → Nat → (Nat → Nat) → (Nat → Bool) → Option ((Nat → Nat) × (Nat → Bool))
  | 0, _, G, S => some (G, S)
  | d + 1, k, G, S =>
    if 0 ≤ List.getD b k 0 ∧ List.getD b k 0 ≤ (n : Int) - 1 then
      if S (List.getD b k 0).toNat then none
      else if 0 < k ∧ List.getD b k 0 ≤ List.getD b (k - 1) 0 then none
      else pbk n b d (k + 1) (putG G (List.getD b k 0).toNat (List.getD b 0 0).toNat) (putS S (List.getD b k 0).toNat)
    else none
def pbs (n : Nat) : List (List Int) → (Nat → Nat) → (Nat → Bool) → Option ((Nat → Nat) × (Nat → Bool))
  | [], G, S => some (G, S)
  | b :: r, G, S => if b = [] then none else (pbk n b b.length 0 G S).bind fun p => pbs n r p.1 p.2
/-- Labels while blocks are put in. -/
structure Lq (n : Nat) (G : Nat → Nat) (S : Nat → Bool) : Prop where
  can : Can n G
  one : ∀ y, y < n → S y = false → G y = y ∧ ∀ z, z < n → G z = y → z = y
/-- within a block: its first number, and the one before -/
def Hd (n : Nat) (b : List Int) (k : Nat) (G : Nat → Nat) (S : Nat → Bool) : Prop :=
  0 < k → 0 ≤ List.getD b 0 0 ∧ List.getD b 0 0 ≤ (n : Int) - 1 ∧ G (List.getD b 0 0).toNat = (List.getD b 0 0).toNat ∧ S (List.getD b 0 0).toNat = true ∧ List.getD b 0 0 ≤ List.getD b (k - 1) 0
theorem Lq.step {n : Nat} {G : Nat → Nat} {S : Nat → Bool} (h : Lq n G S) {b : List Int} {k : Nat} (hk : Hd n b k G S) (h1 : 0 ≤ List.getD b k 0) (h2 : List.getD b k 0 ≤ (n : Int) - 1) (h3 : S (List.getD b k 0).toNat = false)
    (h4 : ¬ (0 < k ∧ List.getD b k 0 ≤ List.getD b (k - 1) 0)) :
    Lq n (putG G (List.getD b k 0).toNat (List.getD b 0 0).toNat) (putS S (List.getD b k 0).toNat) ∧ Hd n b (k + 1) (putG G (List.getD b k 0).toNat (List.getD b 0 0).toNat) (putS S (List.getD b k 0).toNat) ∧
    (∀ z, z < n → mrg G (List.getD b 0 0).toNat (List.getD b k 0).toNat z = putG G (List.getD b k 0).toNat (List.getD b 0 0).toNat z) ∧ 0 ≤ List.getD b 0 0 ∧ List.getD b 0 0 ≤ (n : Int) - 1 := by
  unfold Hd at hk ⊢
  have hx : (List.getD b k 0).toNat < n := by omega
  obtain ⟨g1, g2⟩ := h.one _ hx h3
  by_cases hk0 : k = 0
  · subst hk0
    generalize List.getD b 0 0 = x at *
    have e : ∀ z, putG G x.toNat x.toNat z = G z := by
      intro z
      unfold putG
      split
      · rename_i e; rw [e, g1]
      · rfl
    have e' : putG G x.toNat x.toNat = G := funext e
    rw [e']
    refine ⟨⟨h.can, fun y hy hs => ?_⟩, fun _ => ⟨h1, h2, g1, by simp [putS], by simp⟩, fun z hz => ?_, h1, h2⟩
    · unfold putS at hs
      split at hs
      · simp at hs
      · exact h.one y hy hs
    · unfold mrg
      rw [g1, Nat.max_self, Nat.min_self]
      split
      · rename_i e2; exact e2.symm
      · rfl
  · have hk0 : 0 < k := by omega
    obtain ⟨c1, c2, c3, c4, c5⟩ := hk hk0
    have h5 : List.getD b (k - 1) 0 < List.getD b k 0 := by
      rcases Int.lt_or_le (List.getD b (k - 1) 0) (List.getD b k 0) with g | g
      · exact g
      · exact absurd ⟨hk0, g⟩ h4
    have hb0 : (List.getD b 0 0).toNat < n := by omega
    have hlt : (List.getD b 0 0).toNat < (List.getD b k 0).toNat := by omega
    have h50 : List.getD b 0 0 ≤ List.getD b k 0 := by omega
    rw [show k + 1 - 1 = k by omega]
    generalize List.getD b 0 0 = p at *
    generalize List.getD b k 0 = x at *
    have hm : ∀ z, z < n → mrg G p.toNat x.toNat z = putG G x.toNat p.toNat z := by
      intro z hz
      unfold mrg putG
      rw [c3, g1, Nat.max_eq_right (by omega), Nat.min_eq_left (by omega)]
      by_cases e : z = x.toNat
      · rw [if_pos e, e, g1, if_pos rfl]
      · rw [if_neg e, if_neg (fun e2 => e (g2 z hz e2))]
    refine ⟨⟨fun z hz => ?_, fun y hy hs => ?_⟩, fun _ => ⟨c1, c2, ?_, ?_, ?_⟩, hm, c1, c2⟩
    · unfold putG
      obtain ⟨k1, k2⟩ := h.can z hz
      by_cases e : z = x.toNat
      · rw [if_pos e, if_neg (by omega), c3]
        exact ⟨by omega, rfl⟩
      · rw [if_neg e]
        refine ⟨k1, ?_⟩
        by_cases e2 : G z = x.toNat
        · exact absurd (g2 z hz e2) e
        · rw [if_neg e2, k2]
    · unfold putS at hs
      split at hs
      · simp at hs
      · rename_i e
        obtain ⟨k1, k2⟩ := h.one y hy hs
        have hyp : y ≠ p.toNat := by intro e2; rw [e2, c4] at hs; simp at hs
        unfold putG
        rw [if_neg e]
        refine ⟨k1, fun z hz hz2 => ?_⟩
        split at hz2
        · exact absurd hz2.symm hyp
        · exact k2 z hz hz2
    · unfold putG
      rw [if_neg (by omega), c3]
    · unfold putS
      rw [c4]
      split <;> rfl
    · assumption
theorem pbk_ok {n : Nat} {b : List Int} : ∀ (d k : Nat) (G : Nat → Nat) (S : Nat → Bool), Lq n G S → Hd n b k G S → ∀ p, pbk n b d k G S = some p → Lq n p.1 p.2
  | 0, k, G, S, h, _, p, hp => by
    simp only [pbk, Option.some.injEq] at hp
    subst hp
    exact h
  | d + 1, k, G, S, h, hk, p, hp => by
    simp only [pbk] at hp
    split at hp
    · rename_i h12
      split at hp
      · simp at hp
      · rename_i h3
        split at hp
        · simp at hp
        · rename_i h4
          obtain ⟨q1, q2, _⟩ := h.step hk h12.1 h12.2 (by simpa using h3) h4
          exact pbk_ok d (k + 1) _ _ q1 q2 p hp
    · simp at hp
theorem pbs_ok {n : Nat} : ∀ (l : List (List Int)) (G : Nat → Nat) (S : Nat → Bool), Lq n G S → ∀ p, pbs n l G S = some p → Lq n p.1 p.2
  | [], G, S, h, p, hp => by
    simp only [pbs, Option.some.injEq] at hp
    subst hp
    exact h
  | b :: r, G, S, h, p, hp => by
    simp only [pbs] at hp
    split at hp
    · simp at hp
    · cases e : pbk n b b.length 0 G S with
      | none => rw [e] at hp; simp at hp
      | some q =>
        rw [e] at hp
        exact pbs_ok r _ _ (pbk_ok _ 0 G S h (fun h => by omega) q e) p hp
theorem getB {S : Nat → Bool} {x : Int} (h1 : 0 ≤ x) (h2 : x < 8) : List.getD (Bo S) x.toNat false = S x.toNat := Bo_get (by omega)
theorem c_s_8 (n : Nat) (hn : n ≤ 8) (all : List (List Int)) (j : Nat) (hj : j < all.length) (b : List Int) (hb : List.getD all j [] = b) (hbl : b.length < 1000000000) (z : List Int) : ∀ (d k : Nat) (G : Nat → Nat) (S : Nat → Bool), k + d = b.length →
    (0 < k → 0 ≤ List.getD b 0 0 ∧ List.getD b 0 0 ≤ (n : Int) - 1) →
    R is_PartOfBlocks_8 [tLLI all, tA8 z, tAi8 (A8 8 G), tAB8 (Bo S), tI (n : Int), tI (j : Int), tI (k : Int)] =
      some (match pbk n b d k G S with
        | none => [tI 1, tA8 (List.replicate 8 0), tI 2]
        | some p => [tI 0, tLLI all, tA8 z, tAi8 (A8 8 p.1), tAB8 (Bo p.2), tI (n : Int), tI (j : Int)]) := by
  have p2 : decide ((0 : Int) ≤ (j : Int)) = true := decide_eq_true (by omega)
  have p3 : decide ((j : Int) < ((all.length : Nat) : Int)) = true := decide_eq_true (by omega)
  intro d
  induction d with
  | zero =>
    intro k G S hk _
    apply vs_PartOfBlocks_8
    have p4 : decide ((k : Int) < ((b.length : Nat) : Int)) = false := decide_eq_false (by omega)
    simp only [bs_PartOfBlocks_8, Int.toNat_natCast, p2, p3, hb, p4, cond_true, cond_false, Bool.and_true, pbk]
  | succ d ih =>
    intro k G S hk h0
    apply vs_PartOfBlocks_8
    have p4 : decide ((k : Int) < ((b.length : Nat) : Int)) = true := decide_eq_true (by omega)
    have p5 : decide ((0 : Int) ≤ (k : Int)) = true := decide_eq_true (by omega)
    have p6 : decide ((0 : Int) < ((b.length : Nat) : Int)) = true := decide_eq_true (by omega)
    have w : wi64 ((n : Int) - 1) = (n : Int) - 1 := by rw [wrap_i64] <;> omega
    have w1 : wi64 ((k : Int) + 1) = ((k + 1 : Nat) : Int) := by rw [wrap_i64] <;> omega
    simp only [bs_PartOfBlocks_8, Int.toNat_natCast, p2, p3, hb, p4, p5, p6, cond_true, Bool.and_true, w, w1, c_l01In, Option.bind_some, getTV_here, pbk]
    by_cases h12 : 0 ≤ List.getD b k 0 ∧ List.getD b k 0 ≤ (n : Int) - 1
    · obtain ⟨h1, h2⟩ := h12
      have q1 : decide (0 ≤ List.getD b k 0) = true := decide_eq_true h1
      have q2 : decide (List.getD b k 0 ≤ (n : Int) - 1) = true := decide_eq_true h2
      have q3 : decide (List.getD b k 0 < 8) = true := decide_eq_true (by omega)
      simp only [q1, q2, q3, Bool.and_true, Bool.not_true, cond_false, cond_true, if_pos (And.intro h1 h2), getB h1 (show List.getD b k 0 < 8 by omega)]
      by_cases h3 : S (List.getD b k 0).toNat = true
      · simp only [h3, cond_true, if_true]
      · have h3 : S (List.getD b k 0).toNat = false := by simpa using h3
        simp only [h3, cond_false, Bool.false_eq_true, if_false]
        have hb0 : 0 ≤ List.getD b 0 0 ∧ List.getD b 0 0 ≤ (n : Int) - 1 := by
          rcases Nat.eq_zero_or_pos k with e | e
          · subst e; exact ⟨h1, h2⟩
          · exact h0 e
        have hv : (((List.getD b 0 0).toNat : Nat) : Int) = List.getD b 0 0 := Int.toNat_of_nonneg hb0.1
        have hset : List.set (A8 8 G) (List.getD b k 0).toNat (List.getD b 0 0) = A8 8 (putG G (List.getD b k 0).toNat (List.getD b 0 0).toNat) := by
          have := A8_set (n := 8) (f := G) (k := (List.getD b k 0).toNat) (v := (List.getD b 0 0).toNat) (by omega) (Nat.le_refl _)
          rw [hv] at this
          exact this
        have hsetB : List.set (Bo S) (List.getD b k 0).toNat true = Bo (putS S (List.getD b k 0).toNat) := Bo_set (by omega)
        have ih' := ih (k + 1) (putG G (List.getD b k 0).toNat (List.getD b 0 0).toNat) (putS S (List.getD b k 0).toNat) (by omega) (fun _ => hb0)
        by_cases hk0 : 0 < k
        · have q5 : decide ((0 : Int) < (k : Int)) = true := decide_eq_true (by omega)
          have w2 : wi64 ((k : Int) - 1) = ((k - 1 : Nat) : Int) := by rw [wrap_i64] <;> omega
          have q6 : decide ((0 : Int) ≤ ((k - 1 : Nat) : Int)) = true := decide_eq_true (by omega)
          have q7 : decide (((k - 1 : Nat) : Int) < ((b.length : Nat) : Int)) = true := decide_eq_true (by omega)
          simp only [q5, w2, q6, q7, cond_true, Bool.and_true, Int.toNat_natCast, hset, hsetB, ih']
          by_cases h4 : List.getD b k 0 ≤ List.getD b (k - 1) 0
          · simp only [decide_eq_true h4, cond_true, if_pos (And.intro hk0 h4)]
          · simp only [decide_eq_false h4, cond_false, if_neg (fun h : 0 < k ∧ _ => h4 h.2)]
        · have q5 : decide ((0 : Int) < (k : Int)) = false := decide_eq_false (by omega)
          simp only [q5, cond_false, if_neg (fun h : 0 < k ∧ List.getD b k 0 ≤ List.getD b (k - 1) 0 => hk0 h.1), hset, hsetB, ih']
    · have q : (decide (0 ≤ List.getD b k 0) && decide (List.getD b k 0 ≤ (n : Int) - 1)) = false := by
        rw [← Bool.decide_and]
        exact decide_eq_false h12
      simp only [q, Bool.not_false, cond_true, if_neg h12]
theorem c_s_5 (n : Nat) (hn : n ≤ 8) (all : List (List Int)) (hall : all.length < 1000000000) (hb : ∀ b ∈ all, b.length < 1000000000) (z : List Int) : ∀ (d j : Nat) (G : Nat → Nat) (S : Nat → Bool), j + d = all.length →
    R is_PartOfBlocks_5 [tLLI all, tA8 z, tAi8 (A8 8 G), tAB8 (Bo S), tI (n : Int), tI (j : Int)] =
      some (match pbs n (all.drop j) G S with
        | none => [tI 1, tA8 (List.replicate 8 0), tI 2]
        | some p => [tI 0, tA8 z, tAi8 (A8 8 p.1), tI (n : Int)]) := by
  intro d
  induction d with
  | zero =>
    intro j G S hj
    apply vs_PartOfBlocks_5
    have p4 : decide ((j : Int) < ((all.length : Nat) : Int)) = false := decide_eq_false (by omega)
    simp only [bs_PartOfBlocks_5, p4, cond_false, List.drop_of_length_le (show all.length ≤ j by omega), pbs]
  | succ d ih =>
    intro j G S hj
    apply vs_PartOfBlocks_5
    have hjl : j < all.length := by omega
    have e : List.getD all j [] = all[j] := by simp [List.getD_eq_getElem?_getD, List.getElem?_eq_getElem hjl]
    have p2 : decide ((0 : Int) ≤ (j : Int)) = true := decide_eq_true (by omega)
    have p3 : decide ((j : Int) < ((all.length : Nat) : Int)) = true := decide_eq_true (by omega)
    have w1 : wi64 ((j : Int) + 1) = ((j + 1 : Nat) : Int) := by rw [wrap_i64] <;> omega
    have h8 := c_s_8 n hn all j hjl all[j] e (hb _ (List.getElem_mem hjl)) z all[j].length 0 G S (by omega) (fun h => by omega)
    simp only [Int.natCast_zero] at h8
    rw [List.drop_eq_getElem_cons hjl]
    by_cases hne : all[j] = []
    · have h0 : pbk n all[j] all[j].length 0 G S = some (G, S) := by rw [hne]; rfl
      have hl0 : (((all[j].length : Nat) : Int) == 0) = true := by rw [hne]; rfl
      have c0 : ((0 : Int) == 0) = true := rfl
      rw [h0] at h8
      simp only [bs_PartOfBlocks_5, p3, cond_true, h8, Option.bind_some, getTV_here, getTV_next, Int.toNat_natCast, e, p2, c0, hl0, Bool.and_true, pbs, if_pos hne]
    · simp only [bs_PartOfBlocks_5, p3, cond_true, h8, Option.bind_some, pbs]
      have hl : ¬ (((all[j].length : Nat) : Int) = 0) := by
        have := List.length_pos_iff.2 hne
        omega
      rw [if_neg hne]
      cases hp : pbk n all[j] all[j].length 0 G S with
      | none => rfl
      | some p =>
        have c0 : ((0 : Int) == 0) = true := rfl
        simp only [getTV_here, getTV_next, Int.toNat_natCast, e, p2, p3, c0, cond_true, Bool.and_true, beq_dec, decide_eq_false hl, cond_false, w1, Option.bind_some, ih (j + 1) p.1 p.2 (by omega)]
/-! ### the program's walk -/
def Bl (n : Nat) (S : Nat → Bool) : List Bool := (List.range n).map S
theorem Bl_len (n : Nat) (S : Nat → Bool) : (Bl n S).length = n := by simp [Bl]
theorem Bl_get {n : Nat} {S : Nat → Bool} {x : Nat} (h : x < n) : List.getD (Bl n S) x false = S x := by
  simp [Bl, List.getD_eq_getElem?_getD, h]
theorem Bl_set {n : Nat} {S : Nat → Bool} {k : Nat} (hk : k < n) : List.set (Bl n S) k true = Bl n (putS S k) := by
  apply List.ext_getElem?
  intro i
  rw [List.getElem?_set]
  by_cases h : k = i
  · subst h
    simp [Bl, hk, putS]
  · rw [if_neg h]
    by_cases hi : i < n
    · simp [Bl, hi, putS, Ne.symm h]
    · simp [Bl, hi]
theorem c_i_10 (n : Nat) (hn : n ≤ 8) (all : List (List Int)) (j m : Int) (b : List Int) (hbl : b.length < 1000000000) (z : List Int) : ∀ (d k : Nat) (G : Nat → Nat) (S : Nat → Bool), k + d = b.length → Lq n G S → Hd n b k G S →
    R ii_PartOfBlocks_10 [tA8 z, tLI (Gl n G), tLB (Bl n S), tLI b, tLLI all, tI (n : Int), tI m, tI j, tI ((b.length : Nat) : Int), tI (k : Int)] =
      some (match pbk n b d k G S with
        | none => [tI 1, tA8 (List.replicate 8 0), tI 2]
        | some p => [tI 0, tA8 z, tLI (Gl n p.1), tLB (Bl n p.2), tLLI all, tI (n : Int), tI m, tI j]) := by
  intro d
  induction d with
  | zero =>
    intro k G S hk _ _
    apply vi_PartOfBlocks_10
    have p4 : decide ((k : Int) < ((b.length : Nat) : Int)) = false := decide_eq_false (by omega)
    simp only [bi_PartOfBlocks_10, p4, cond_false, pbk]
  | succ d ih =>
    intro k G S hk hL hH
    apply vi_PartOfBlocks_10
    have p4 : decide ((k : Int) < ((b.length : Nat) : Int)) = true := decide_eq_true (by omega)
    have p5 : decide ((0 : Int) ≤ (k : Int)) = true := decide_eq_true (by omega)
    have p6 : decide ((0 : Int) < ((b.length : Nat) : Int)) = true := decide_eq_true (by omega)
    have w : wi64 ((n : Int) - 1) = (n : Int) - 1 := by rw [wrap_i64] <;> omega
    have w1 : wi64 ((k : Int) + 1) = ((k + 1 : Nat) : Int) := by rw [wrap_i64] <;> omega
    simp only [bi_PartOfBlocks_10, Int.toNat_natCast, p4, p5, p6, cond_true, Bool.and_true, w, w1, c_within, Option.bind_some, getTV_here, pbk, Bl_len]
    by_cases h12 : 0 ≤ List.getD b k 0 ∧ List.getD b k 0 ≤ (n : Int) - 1
    · obtain ⟨h1, h2⟩ := h12
      have q1 : decide (0 ≤ List.getD b k 0) = true := decide_eq_true h1
      have q2 : decide (List.getD b k 0 ≤ (n : Int) - 1) = true := decide_eq_true h2
      have q3 : decide (List.getD b k 0 < (n : Int)) = true := decide_eq_true (by omega)
      simp only [q1, q2, q3, Bool.and_true, Bool.not_true, cond_false, cond_true, if_pos (And.intro h1 h2), Bl_get (show (List.getD b k 0).toNat < n by omega)]
      by_cases h3 : S (List.getD b k 0).toNat = true
      · simp only [h3, cond_true, if_true]
      · have h3 : S (List.getD b k 0).toNat = false := by simpa using h3
        simp only [h3, cond_false, Bool.false_eq_true, if_false]
        by_cases h4 : 0 < k ∧ List.getD b k 0 ≤ List.getD b (k - 1) 0
        · have q5 : decide ((0 : Int) < (k : Int)) = true := decide_eq_true (by omega)
          have w2 : wi64 ((k : Int) - 1) = ((k - 1 : Nat) : Int) := by rw [wrap_i64] <;> omega
          have q6 : decide ((0 : Int) ≤ ((k - 1 : Nat) : Int)) = true := decide_eq_true (by omega)
          have q7 : decide (((k - 1 : Nat) : Int) < ((b.length : Nat) : Int)) = true := decide_eq_true (by omega)
          simp only [q5, w2, q6, q7, cond_true, Bool.and_true, Int.toNat_natCast, decide_eq_true h4.2, if_pos h4]
        · obtain ⟨r1, r2, r3, r4, r5⟩ := hL.step hH h1 h2 h3 h4
          have hv : (((List.getD b 0 0).toNat : Nat) : Int) = List.getD b 0 0 := Int.toNat_of_nonneg r4
          have hv2 : (((List.getD b k 0).toNat : Nat) : Int) = List.getD b k 0 := Int.toNat_of_nonneg h1
          have hmg := c_merge n hn G (List.getD b 0 0).toNat (List.getD b k 0).toNat (by omega) (by omega)
          rw [hv, hv2, Gl_congr r3] at hmg
          have hsetB : List.set (Bl n S) (List.getD b k 0).toNat true = Bl n (putS S (List.getD b k 0).toNat) := Bl_set (by omega)
          have ih' := ih (k + 1) (putG G (List.getD b k 0).toNat (List.getD b 0 0).toNat) (putS S (List.getD b k 0).toNat) (by omega) r1 r2
          by_cases hk0 : 0 < k
          · have q5 : decide ((0 : Int) < (k : Int)) = true := decide_eq_true (by omega)
            have w2 : wi64 ((k : Int) - 1) = ((k - 1 : Nat) : Int) := by rw [wrap_i64] <;> omega
            have q6 : decide ((0 : Int) ≤ ((k - 1 : Nat) : Int)) = true := decide_eq_true (by omega)
            have q7 : decide (((k - 1 : Nat) : Int) < ((b.length : Nat) : Int)) = true := decide_eq_true (by omega)
            have q8 : decide (List.getD b k 0 ≤ List.getD b (k - 1) 0) = false := decide_eq_false (fun h => h4 ⟨hk0, h⟩)
            simp only [q5, w2, q6, q7, q8, cond_true, cond_false, Bool.and_true, Int.toNat_natCast, hmg, Option.bind_some, getTV_here, hsetB, ih', if_neg h4]
          · have q5 : decide ((0 : Int) < (k : Int)) = false := decide_eq_false (by omega)
            simp only [q5, cond_false, hmg, Option.bind_some, getTV_here, hsetB, ih', if_neg h4]
    · have q : (decide (0 ≤ List.getD b k 0) && decide (List.getD b k 0 ≤ (n : Int) - 1)) = false := by
        rw [← Bool.decide_and]
        exact decide_eq_false h12
      simp only [q, Bool.not_false, cond_true, if_neg h12]
theorem c_i_5 (n : Nat) (hn : n ≤ 8) (all : List (List Int)) (hall : all.length < 1000000000) (hb : ∀ b ∈ all, b.length < 1000000000) (z : List Int) : ∀ (d j : Nat) (G : Nat → Nat) (S : Nat → Bool), j + d = all.length → Lq n G S →
    R ii_PartOfBlocks_5 [tA8 z, tLI (Gl n G), tLB (Bl n S), tLLI all, tI (n : Int), tI ((all.length : Nat) : Int), tI (j : Int)] =
      some (match pbs n (all.drop j) G S with
        | none => [tI 1, tA8 (List.replicate 8 0), tI 2]
        | some p => [tI 0, tA8 z, tLI (Gl n p.1)]) := by
  intro d
  induction d with
  | zero =>
    intro j G S hj _
    apply vi_PartOfBlocks_5
    have p4 : decide ((j : Int) < ((all.length : Nat) : Int)) = false := decide_eq_false (by omega)
    simp only [bi_PartOfBlocks_5, p4, cond_false, List.drop_of_length_le (show all.length ≤ j by omega), pbs]
  | succ d ih =>
    intro j G S hj hL
    apply vi_PartOfBlocks_5
    have hjl : j < all.length := by omega
    have e : List.getD all j [] = all[j] := by simp [List.getD_eq_getElem?_getD, List.getElem?_eq_getElem hjl]
    have p2 : decide ((0 : Int) ≤ (j : Int)) = true := decide_eq_true (by omega)
    have p3 : decide ((j : Int) < ((all.length : Nat) : Int)) = true := decide_eq_true (by omega)
    have w1 : wi64 ((j : Int) + 1) = ((j + 1 : Nat) : Int) := by rw [wrap_i64] <;> omega
    rw [List.drop_eq_getElem_cons hjl]
    by_cases hne : all[j] = []
    · simp only [bi_PartOfBlocks_5, Int.toNat_natCast, e, p2, p3, cond_true, Bool.and_true, hne, pbs, if_true, List.length_nil]
      rfl
    · have hl : ¬ (((all[j].length : Nat) : Int) = 0) := by
        have := List.length_pos_iff.2 hne
        omega
      have h10 := c_i_10 n hn all (j : Int) ((all.length : Nat) : Int) all[j] (hb _ (List.getElem_mem hjl)) z all[j].length 0 G S (by omega) hL (fun h => by omega)
      simp only [Int.natCast_zero] at h10
      simp only [bi_PartOfBlocks_5, Int.toNat_natCast, e, p2, p3, cond_true, Bool.and_true, beq_dec, decide_eq_false hl, cond_false, h10, Option.bind_some, pbs, if_neg hne]
      cases hp : pbk n all[j] all[j].length 0 G S with
      | none => rfl
      | some p =>
        simp only [getTV_here, getTV_next, decide_true, cond_true, w1, Option.bind_some, ih (j + 1) p.1 p.2 (by omega) (pbk_ok _ 0 G S hL (fun h => by omega) p hp)]
theorem Lq0 (n : Nat) : Lq n id (fun _ => false) := ⟨fun x _ => ⟨Nat.le_refl _, rfl⟩, fun y _ _ => ⟨rfl, fun z _ h => h⟩⟩
/-- What PartOfBlocks answers. -/
def vPOB (l : List (List Int)) (k : Int) : List Int × Int :=
  if 1 ≤ k ∧ k ≤ 8 then
    match pbs k.toNat l id (fun _ => false) with
    | none => (List.replicate 8 0, 2)
    | some p => if crs k.toNat p.1 then (List.replicate 8 0, 1) else (A8 k.toNat (mdf k.toNat p.1), 0)
  else (List.replicate 8 0, 2)
theorem vPOB_len (l : List (List Int)) (k : Int) : (vPOB l k).1.length = 8 := by
  unfold vPOB
  split
  · split
    · simp
    · split
      · simp
      · exact A8_len _ _
  · simp
theorem c_PartOfBlocks_s (l : List (List Int)) (hl : l.length < 1000000000) (hb : ∀ b ∈ l, b.length < 1000000000) (k : Int) : R is_PartOfBlocks [tLLI l, tI k] = some [tA8 (vPOB l k).1, tI (vPOB l k).2] := by
  apply vs_PartOfBlocks
  by_cases h : 1 ≤ k ∧ k ≤ 8
  · obtain ⟨n, rfl⟩ : ∃ n : Nat, k = n := ⟨k.toNat, by omega⟩
    have hn : n ≤ 8 := by omega
    have q1 : decide ((1 : Int) ≤ n) = true := decide_eq_true h.1
    have q2 : decide ((n : Int) ≤ 8) = true := decide_eq_true h.2
    have hA : ([0, 1, 2, 3, 4, 5, 6, 7] : List Int) = A8 8 id := by decide
    have h5 := c_s_5 n hn l hl hb (List.replicate 8 0) l.length 0 id (fun _ => false) (by omega)
    rw [← Bo_false] at h5
    simp only [Int.natCast_zero, List.drop_zero] at h5
    simp only [bs_PartOfBlocks, c_l01In, Option.bind_some, getTV_here, q1, q2, Bool.and_true, Bool.not_true, cond_false, hA, h5, vPOB, if_pos h, Int.toNat_natCast]
    cases hp : pbs n l id (fun _ => false) with
    | none => rfl
    | some p =>
      have hL := pbs_ok l id _ (Lq0 n) p hp
      have hG : ∀ x, x < n → List.getD (A8 8 p.1) x 0 = (p.1 x : Int) := fun x hx => A8_get (by omega) (Nat.le_refl _)
      have c0 : ((0 : Int) == 0) = true := rfl
      simp only [getTV_here, getTV_next, c0, cond_true, L_l07Crossing n hn p.1 _ hG, L_l07Made n hn p.1 _ hG hL.can, Option.bind_some]
      cases crs n p.1 <;> rfl
  · have q : (decide (1 ≤ k) && decide (k ≤ 8)) = false := by
      rw [← Bool.decide_and]
      exact decide_eq_false h
    simp only [bs_PartOfBlocks, c_l01In, Option.bind_some, getTV_here, q, Bool.not_false, cond_true, vPOB, if_neg h]
theorem c_PartOfBlocks_i (l : List (List Int)) (hl : l.length < 1000000000) (hb : ∀ b ∈ l, b.length < 1000000000) (k : Int) : R ii_PartOfBlocks [tLLI l, tI k] = some [tA8 (vPOB l k).1, tI (vPOB l k).2] := by
  apply vi_PartOfBlocks
  by_cases h : 1 ≤ k ∧ k ≤ 8
  · obtain ⟨n, rfl⟩ : ∃ n : Nat, k = n := ⟨k.toNat, by omega⟩
    have hn : n ≤ 8 := by omega
    have q1 : decide ((1 : Int) ≤ n) = true := decide_eq_true h.1
    have q2 : decide ((n : Int) ≤ 8) = true := decide_eq_true h.2
    have hB : List.replicate n false = Bl n (fun _ => false) := by
      apply List.ext_getElem?
      intro i
      by_cases hi : i < n
      · simp [Bl, hi]
      · simp [Bl, hi]
    have hmk : mkOk ((n : Nat) : Int) = true := by
      have h2 : ((n : Int) ≤ (lim : Int)) := by simp only [lim]; omega
      simp [mkOk, h2]
    have h5 := c_i_5 n hn l hl hb (List.replicate 8 0) l.length 0 id (fun _ => false) (by omega) (Lq0 n)
    simp only [Int.natCast_zero, List.drop_zero] at h5
    simp only [bi_PartOfBlocks, c_isCount, Option.bind_some, getTV_here, q1, q2, Bool.and_true, Bool.not_true, cond_false, c_fineGroups n hn, hmk, cond_true, Int.toNat_natCast, hB, h5, vPOB, if_pos h]
    cases hp : pbs n l id (fun _ => false) with
    | none => rfl
    | some p =>
      have hL := pbs_ok l id _ (Lq0 n) p hp
      obtain ⟨u, v, hc⟩ := c_crossing n hn p.1
      have c0 : ((0 : Int) == 0) = true := rfl
      simp only [getTV_here, getTV_next, c0, cond_true, hc, c_part n hn p.1 hL.can, Option.bind_some]
      cases crs n p.1 <;> rfl
  · have q : (decide (1 ≤ k) && decide (k ≤ 8)) = false := by
      rw [← Bool.decide_and]
      exact decide_eq_false h
    simp only [bi_PartOfBlocks, c_isCount, Option.bind_some, getTV_here, q, Bool.not_false, cond_true, vPOB, if_neg h]
theorem law_FnExactPartOfBlocks (a : List (List Int)) (h : Fit (.slice (.slice (.int .i64))) a) (k : Int) (h' : Fit (.int .i64) k) : R iw_FnExactPartOfBlocks [tLLI a, tI k] = some [tB true] := by
  apply vw_FnExactPartOfBlocks
  have f1 : a.length ≤ 9223372036854775807 := h.1
  have f2 : ∀ b ∈ a, b.length ≤ 9223372036854775807 := fun b hb => (h.2 b hb).1
  by_cases hbig : a.length = 9223372036854775807
  · have w : wi64 (1048576 - ((a.length : Nat) : Int)) = 1048576 - ((a.length : Nat) : Int) := by rw [wrap_i64] <;> omega
    have q : decide (1048576 - ((a.length : Nat) : Int) < 0) = true := decide_eq_true (by omega)
    have hs : R iw_szInt64SS [tLLI a, tI 1048576] = some [tI (-1)] := by
      apply vw_szInt64SS
      simp only [bw_szInt64SS, w, q, cond_true]
    simp only [bw_FnExactPartOfBlocks, hs, Option.bind_some, getTV_here]
    rfl
  · have hs := c_szInt64SS a (by omega) f2 1048576 (by omega) (by omega)
    simp only [bw_FnExactPartOfBlocks, hs, Option.bind_some, getTV_here]
    by_cases hc : (1048576 : Int) < a.length
    · rw [if_pos hc]
      rfl
    · rw [if_neg hc]
      by_cases hneg : szs a (1048576 - a.length) < 0
      · simp only [decide_eq_true hneg, cond_true]
      · have hm := szs_mem a (1048576 - a.length) (by omega) (by omega)
        have hb : ∀ b ∈ a, b.length < 1000000000 := fun b hb => by have := hm b hb; omega
        have hl : a.length < 1000000000 := by omega
        have h8 := vPOB_len a k
        simp only [decide_eq_false hneg, cond_false, c_toInt64SS a hl hb, Option.bind_some, getTV_here, getTV_next, c_PartOfBlocks_s a hl hb, c_PartOfBlocks_i a hl hb, c_eqPart _ _ h8 h8, c_eqInt64SS a hl hb]
        simp
end Go.Ev.Ytadjhggdddbicaa
