/- Parts turned back by one strand; crossings as parts. -/
import Derived.Test.YteclcmiopobnaaaMp13
set_option linter.unusedVariables false
set_option linter.unusedSimpArgs false
namespace Go.Ev.Yteclcmiopobnaaa.P
open Go.Ev.Yteclcmiopobnaaa
open Go.Ev Go.Gar
/-- The strand before, around. -/
def pr (n x : Nat) : Nat := if x = 0 then n - 1 else x - 1
theorem pr_lt {n x : Nat} (h : x < n) : pr n x < n := by
  unfold pr
  split <;> omega
theorem sc_pr {n x : Nat} (h : x < n) : sc n (pr n x) = x := by
  unfold sc pr
  split
  · rw [if_pos (by omega)]; omega
  · rw [if_neg (by omega)]; omega
theorem pr_iff {n x y : Nat} (hx : x < n) (hy : y < n) : y = pr n x ↔ sc n y = x := by
  unfold sc pr
  constructor
  · intro h
    split at h <;> split <;> omega
  · intro h
    split at h <;> split <;> omega
theorem whP_g {n x : Nat} (h : x < n) : (whP n).g x = pr n x := by
  have e := whP_f (pr_lt h)
  rw [sc_pr h] at e
  have := (whP n).gf (pr n x)
  rw [e] at this
  exact this
/-- Turned back by one. -/
noncomputable def T {n : Nat} (s : Pm n) : Pm n := whP n * (s * (whP n)⁻¹)
theorem T_f {n : Nat} (s : Pm n) {y : Nat} (h : y < n) : (T s).f y = pr n (s.f (sc n y)) := by
  show (whP n).g (s.f ((whP n).f y)) = _
  rw [whP_f h, whP_g (s.lt (sc_lt h))]
theorem unT {n : Nat} (a : Pm n) : (whP n)⁻¹ * (T a * whP n) = a := by
  unfold T
  simp only [Grp.assoc, Grp.inv_mul, Grp.mul_one]
  rw [inv_mul_l]
theorem leP_T {n : Nat} {a b : Pm n} (l : leP a b) : leP (T a) (T b) := by
  apply leP_conj (whP n)
  rw [unT, unT]
  exact l
theorem leP_unT {n : Nat} {a b : Pm n} (l : leP (T a) (T b)) : leP a b := by
  apply leP_conj (whP n)⁻¹
  rw [inv_inv]
  exact l
theorem T_auto (n : Nat) (h1 : 1 ≤ n) : (latP n h1).Auto (fun s : Pm n => T s) where
  mul x y := by
    unfold T
    simp only [Grp.assoc, inv_mul_l]
  inv x := by
    unfold T
    simp only [mul_inv_rev, inv_inv, Grp.assoc]
  S _ h := isP_unrot h1 h
  meet x y hx hy := by
    have hm : isP (meetP x y) := (latP n h1).S_meet hx hy
    have hTx : isP (T x) := isP_unrot h1 hx
    have hTy : isP (T y) := isP_unrot h1 hy
    have hM : isP (meetP (T x) (T y)) := (latP n h1).S_meet hTx hTy
    show T (meetP x y) = meetP (T x) (T y)
    -- the meet of the turned ones, turned forth
    have hU : isP ((whP n)⁻¹ * (meetP (T x) (T y) * whP n)) := isP_rot hM
    have eU : T ((whP n)⁻¹ * (meetP (T x) (T y) * whP n)) = meetP (T x) (T y) := by
      unfold T
      simp only [Grp.assoc, Grp.mul_inv, Grp.mul_one, mul_inv_l]
    apply (latP n h1).anti (isP_unrot h1 hm) hM
    · exact (latP n h1).le_meet hTx hTy (isP_unrot h1 hm) (leP_T ((latP n h1).meet_l hx hy)) (leP_T ((latP n h1).meet_r hx hy))
    · have l1 : leP ((whP n)⁻¹ * (meetP (T x) (T y) * whP n)) x := by
        apply leP_unT
        rw [eU]
        exact (latP n h1).meet_l hTx hTy
      have l2 : leP ((whP n)⁻¹ * (meetP (T x) (T y) * whP n)) y := by
        apply leP_unT
        rw [eU]
        exact (latP n h1).meet_r hTx hTy
      have l3 := leP_T ((latP n h1).le_meet hx hy hU l1 l2)
      rw [eU] at l3
      exact l3
  D := by
    show T (whP n) = whP n
    unfold T
    rw [Grp.mul_inv, Grp.mul_one]
  inj x y h := by
    have := congrArg (fun z : Pm n => (whP n)⁻¹ * (z * whP n)) h
    simp only [unT] at this
    exact this
/-! ### the walks -/
theorem turnm {n i : Nat} (hi : i < n) (hn : n ≤ 8) : Int.tmod (wi64 (Int.tmod (wi64 ((i : Int) + -1)) (n : Int) + (n : Int))) (n : Int) = ((pr n i : Nat) : Int) := by
  unfold pr
  by_cases h : i = 0
  · subst h
    rw [if_pos rfl]
    have e : wi64 (((0 : Nat) : Int) + -1) = -1 := by decide
    have e2 : Int.tmod (-1) (n : Int) = -((1 % n : Nat) : Int) := by rw [Int.neg_tmod]; rfl
    rw [e, e2]
    by_cases h1 : n = 1
    · subst h1; decide
    · have e3 : 1 % n = 1 := Nat.mod_eq_of_lt (by omega)
      have e4 : wi64 (-((1 : Nat) : Int) + (n : Int)) = ((n - 1 : Nat) : Int) := by rw [wrap_i64] <;> omega
      rw [e3, e4, tmn, Nat.mod_eq_of_lt (by omega)]
  · rw [if_neg h]
    have e : wi64 ((i : Int) + -1) = ((i - 1 : Nat) : Int) := by rw [wrap_i64] <;> omega
    have e4 : wi64 (((i - 1 : Nat) : Int) + (n : Int)) = ((i - 1 + n : Nat) : Int) := by rw [wrap_i64] <;> omega
    rw [e, tmn, Nat.mod_eq_of_lt (show i - 1 < n by omega), e4, tmn, Nat.add_mod_right, Nat.mod_eq_of_lt (by omega)]
theorem turnm' {n i : Nat} (hi : i < n) (hn : n ≤ 8) : Int.tmod (wi64 ((i : Int) + ((n - 1 : Nat) : Int))) (n : Int) = ((pr n i : Nat) : Int) := by
  unfold pr
  have e : wi64 ((i : Int) + ((n - 1 : Nat) : Int)) = ((i + (n - 1) : Nat) : Int) := by rw [wrap_i64] <;> omega
  rw [e, tmn]
  by_cases h : i = 0
  · rw [if_pos h, h, Nat.zero_add, Nat.mod_eq_of_lt (by omega)]
  · rw [if_neg h, show i + (n - 1) = i - 1 + n by omega, Nat.add_mod_right, Nat.mod_eq_of_lt (by omega)]
theorem tm_step {n : Nat} (f : Nat → Nat) {i : Nat} (hi : i < n) : A8 n (fun y => if y = pr n i then pr n (f i) else if sc n y < i then pr n (f (sc n y)) else 0) = A8 n (fun y => if sc n y < i + 1 then pr n (f (sc n y)) else 0) := by
  apply A8_congr
  intro y hy
  by_cases h : y = pr n i
  · have e := (pr_iff hi hy).1 h
    rw [if_pos h, if_pos (by omega), e]
  · have e : sc n y ≠ i := fun h2 => h ((pr_iff hi hy).2 h2)
    rw [if_neg h]
    by_cases h2 : sc n y < i
    · rw [if_pos h2, if_pos (by omega)]
    · rw [if_neg h2, if_neg (by omega)]
theorem tm_end {n : Nat} (s : Pm n) : A8 n (fun y => if sc n y < n then pr n (s.f (sc n y)) else 0) = sA (T s) := by
  apply A8_congr
  intro y hy
  rw [if_pos (sc_lt hy), T_f s hy]
theorem tm_zero (n : Nat) (f : Nat → Nat) : A8 n (fun y => if sc n y < 0 then pr n (f (sc n y)) else 0) = List.replicate 8 0 := by
  rw [A8_zero n]
  apply A8_congr
  intro y _
  rw [if_neg (by omega)]
theorem c_turnPartM (n : Nat) (hn0 : 1 ≤ n) (hn : n ≤ 8) (s : Pm n) : R ii_turnPart [tA8 (sA s), tI (n : Int), tI (-1)] = some [tA8 (sA (T s))] := by
  have h3 : ∀ i, i ≤ n → R ii_turnPart_4 [tA8 (sA s), tA8 (List.replicate 8 0), tA8 (A8 n (fun y => if sc n y < i then pr n (s.f (sc n y)) else 0)), tI (n : Int), tI ((n - 1 : Nat) : Int), tI (n : Int), tI (i : Int)] = some [tI 0, tA8 (List.replicate 8 0), tA8 (sA (T s))] := by
    refine up_loop _ ?_ (fun i hi ih => ?_)
    · apply vi_turnPart_4
      have h1 : ¬ ((n : Int) < (n : Int)) := by omega
      simp only [bi_turnPart_4, decide_eq_false h1, cond_false, tm_end]
    · apply vi_turnPart_4
      have h1 := pr_lt hi
      have h3 := s.lt hi
      have h2 := pr_lt h3
      have h0 : ¬ (n : Int) = 0 := by omega
      have w8 : wu8 ((pr n (s.f i) : Nat) : Int) = ((pr n (s.f i) : Nat) : Int) := by rw [wrap_u8] <;> omega
      have w : wi64 ((i : Int) + 1) = ((i + 1 : Nat) : Int) := by rw [wrap_i64] <;> omega
      have w2 : wi64 ((s.f i : Nat) : Int) = ((s.f i : Nat) : Int) := by rw [wrap_i64] <;> omega
      have v1 : decide ((0 : Int) ≤ ((pr n i : Nat) : Int)) = true := decide_eq_true (by omega)
      have v2 : decide (((pr n i : Nat) : Int) < 8) = true := decide_eq_true (by omega)
      have v3 : decide ((i : Int) < (n : Int)) = true := decide_eq_true (by omega)
      have v4 : decide ((0 : Int) ≤ (i : Int)) = true := decide_eq_true (by omega)
      have v5 : decide ((i : Int) < 8) = true := decide_eq_true (by omega)
      simp only [bi_turnPart_4, turnm' hi hn, v1, v2, v3, v4, v5, cond_true, Bool.and_true, Int.toNat_natCast, bne_dec, decide_eq_false h0, Bool.not_false, sA_get hi hn, w2, turnm' h3 hn, w8, A8_set h1 hn, tm_step s.f hi]
      rw [w]
      exact ih
  have h := h3 0 (Nat.zero_le _)
  rw [tm_zero] at h
  simp only [Int.natCast_zero] at h
  have h0 : ¬ (n : Int) = 0 := by omega
  have hm : Int.tmod (wi64 (Int.tmod (-1) (n : Int) + (n : Int))) (n : Int) = ((n - 1 : Nat) : Int) := by
    have := turnm (show 0 < n by omega) hn
    have e : wi64 (((0 : Nat) : Int) + -1) = -1 := by decide
    rw [e] at this
    exact this
  apply vi_turnPart
  simp only [bi_turnPart, bne_dec, decide_eq_false h0, Bool.not_false, cond_true, hm, h, Option.bind_some, getTV_here, getTV_next]
/-! ### crossings of neighbours are parts -/
theorem isP_swap {n p : Nat} (h : p + 1 < n) : isP (Pm.swap n p h) := by
  refine ⟨fun x => if x = p + 1 then p else x, fun x hx => ?_, ?_, fun x hx => ?_⟩
  · by_cases h1 : x = p + 1
    · rw [if_pos h1, if_neg (by omega)]
      exact ⟨by omega, rfl⟩
    · rw [if_neg h1, if_neg h1]
      exact ⟨Nat.le_refl _, rfl⟩
  · rw [Bool.eq_false_iff]
    intro hc
    obtain ⟨a, b, c, y, h1, h2, h3, h4, e1, e2, e3⟩ := (crs_iff n _).1 hc
    simp only at e1
    split at e1 <;> split at e1 <;> omega
  · show Pm.sf p x = _
    unfold Pm.sf
    rcases mdf_spec (g := fun x => if x = p + 1 then p else x) hx with ⟨k, k1, k2, k3, k4, k5⟩ | ⟨k1, k2⟩
    · rw [k5]
      have k3' : (if k = p + 1 then p else k) = (if x = p + 1 then p else x) := k3
      split at k3' <;> split at k3' <;> split <;> (try split) <;> omega
    · rw [k2]
      show (if x = p then p + 1 else if x = p + 1 then p else x) = if x = p + 1 then p else x
      by_cases h1 : x = p
      · have h2 : (if p + 1 = p + 1 then p else p + 1) ≠ (if x = p + 1 then p else x) := k1 (p + 1) (by omega) h
        rw [if_pos rfl, if_neg (by omega)] at h2
        exact (h2 h1.symm).elim
      · rw [if_neg h1]
end Go.Ev.Yteclcmiopobnaaa.P
