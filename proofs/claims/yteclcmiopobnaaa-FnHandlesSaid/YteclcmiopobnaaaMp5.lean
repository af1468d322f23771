/- Parts turned and their complements: the laws. (Printed by a program.) -/
import Derived.Test.YteclcmiopobnaaaMp4
set_option linter.unusedVariables false
set_option linter.unusedSimpArgs false
namespace Go.Ev.Yteclcmiopobnaaa.P
open Go.Ev.Yteclcmiopobnaaa
open Go.Ev Go.Gar
theorem wi64_n1 {i : Nat} (h : i < 1000) : wi64 ((i : Int) + 1) = ((i + 1 : Nat) : Int) := by rw [wrap_i64] <;> omega
theorem wu8_n {i : Nat} (h : i < 256) : wu8 (i : Int) = (i : Int) := wrap_u8 (by omega) (by omega)
theorem sA_one (n : Nat) : (sA (1 : Pm n)) = A8 n fun x => x := rfl
theorem c_then_3 (n : Nat) (hn : n ≤ 8) (s t : Pm n) (z : List Int) : ∀ i, i ≤ n → R ii_then_3 [tA8 (sA s), tA8 (sA t), tA8 z, tA8 (A8 n fun x => if x < i then t.f (s.f x) else 0), tI (n : Int), tI (i : Int)] = some [tI 0, tA8 z, tA8 (sA (s * t))] := by
  refine up_loop _ ?_ (fun i hi ih => ?_)
  · apply vi_then_3
    rw [show sA (s * t) = A8 n (fun x => t.f (s.f x)) from rfl, A8_congr (g := fun x => t.f (s.f x)) (fun x hx => by simp [hx])]
    simp [bi_then_3]
  · apply vi_then_3
    have h1 := s.lt hi
    simp (disch := omega) only [bi_then_3, decide_eq_true, cond_true, Bool.and_true, Int.toNat_natCast, wi64_n1, sA_get, A8_set]
    rw [A8_congr (g := fun x => if x < i + 1 then t.f (s.f x) else 0) (fun x hx => by
      by_cases h2 : x = i
      · subst h2; simp
      · by_cases h3 : x < i
        · have : x < i + 1 := by omega
          simp [h2, h3, this]
        · have : ¬ x < i + 1 := by omega
          simp [h2, h3, this])]
    exact ih
theorem c_then (n : Nat) (hn : n ≤ 8) (s t : Pm n) : R ii_then [tA8 (sA s), tA8 (sA t), tI (n : Int)] = some [tA8 (sA (s * t))] := by
  apply vi_then
  have h := c_then_3 n hn s t (List.replicate 8 0) 0 (Nat.zero_le _)
  rw [A8_congr (g := fun _ => 0) (fun x hx => by simp), ← A8_zero] at h
  simp only [Int.natCast_zero] at h
  simp only [bi_then, h, Option.bind_some, getTV_here, getTV_next]
theorem c_backOf_3 (n : Nat) (hn : n ≤ 8) (s : Pm n) (z : List Int) : ∀ i, i ≤ n → R ii_backOf_3 [tA8 (sA s), tA8 z, tA8 (A8 n fun y => if s.g y < i then s.g y else 0), tI (n : Int), tI (i : Int)] = some [tI 0, tA8 z, tA8 (sA s⁻¹)] := by
  refine up_loop _ ?_ (fun i hi ih => ?_)
  · apply vi_backOf_3
    rw [show sA s⁻¹ = A8 n s.g from rfl, A8_congr (g := s.g) (fun x hx => by simp [s.lt_g hx])]
    simp [bi_backOf_3]
  · apply vi_backOf_3
    have h1 := s.lt hi
    simp (disch := omega) only [bi_backOf_3, decide_eq_true, cond_true, Bool.and_true, Int.toNat_natCast, wi64_n1, wu8_n, sA_get, A8_set]
    rw [A8_congr (g := fun y => if s.g y < i + 1 then s.g y else 0) (fun y hy => by
      by_cases h2 : y = s.f i
      · subst h2; simp [s.gf]
      · have h4 : s.g y ≠ i := fun h => h2 (by rw [← h, s.fg])
        by_cases h3 : s.g y < i
        · have : s.g y < i + 1 := by omega
          simp [h2, h3, this]
        · have : ¬ s.g y < i + 1 := by omega
          simp [h2, h3, this])]
    exact ih
theorem c_backOf (n : Nat) (hn : n ≤ 8) (s : Pm n) : R ii_backOf [tA8 (sA s), tI (n : Int)] = some [tA8 (sA s⁻¹)] := by
  apply vi_backOf
  have h := c_backOf_3 n hn s (List.replicate 8 0) 0 (Nat.zero_le _)
  rw [A8_congr (g := fun _ => 0) (fun x hx => by simp), ← A8_zero] at h
  simp only [Int.natCast_zero] at h
  simp only [bi_backOf, h, Option.bind_some, getTV_here, getTV_next]
theorem tmn (a b : Nat) : Int.tmod (a : Int) (b : Int) = ((a % b : Nat) : Int) := rfl
/-- The next strand around. -/
def sc (n x : Nat) : Nat := if x + 1 = n then 0 else x + 1
theorem sc_mod {n x : Nat} (h : x < n) : (x + 1) % n = sc n x := by
  unfold sc
  split
  · rename_i e; rw [e, Nat.mod_self]
  · exact Nat.mod_eq_of_lt (by omega)
theorem sc_lt {n x : Nat} (h : x < n) : sc n x < n := by
  unfold sc
  split <;> omega
theorem whole_ex (n : Nat) : ∃ w : Pm n, ∀ x, x < n → w.f x = sc n x :=
  pm_of (fun x h => sc_lt h) (fun x y hx hy h => by unfold sc at h; split at h <;> split at h <;> omega)
noncomputable def whP (n : Nat) : Pm n := (whole_ex n).choose
theorem whP_f {n x : Nat} (h : x < n) : (whP n).f x = sc n x := (whole_ex n).choose_spec x h
theorem turn_i {n i : Nat} (hi : i < n) (hn : n ≤ 8) : Int.tmod (wi64 ((i : Int) + 1)) (n : Int) = ((sc n i : Nat) : Int) := by
  have e : wi64 ((i : Int) + 1) = ((i + 1 : Nat) : Int) := by rw [wrap_i64] <;> omega
  rw [e, tmn, sc_mod hi]
theorem turn_j {n i : Nat} (hi : i < n) (hn : n ≤ 8) : Int.tmod (wi64 (Int.tmod (wi64 ((i : Int) + 1)) (n : Int) + (n : Int))) (n : Int) = ((sc n i : Nat) : Int) := by
  have h := sc_lt hi
  have e : wi64 (((sc n i : Nat) : Int) + (n : Int)) = ((sc n i + n : Nat) : Int) := by rw [wrap_i64] <;> omega
  rw [turn_i hi hn, e, tmn, Nat.add_mod_right, Nat.mod_eq_of_lt h]
theorem c_wholePart_3 (n : Nat) (hn : n ≤ 8) (z : List Int) : ∀ i, i ≤ n → R ii_wholePart_3 [tA8 z, tA8 (A8 n fun x => if x < i then sc n x else 0), tI (n : Int), tI (n : Int), tI (i : Int)] = some [tI 0, tA8 z, tA8 (sA (whP n))] := by
  refine up_loop _ ?_ (fun i hi ih => ?_)
  · apply vi_wholePart_3
    rw [show sA (whP n) = A8 n (whP n).f from rfl, A8_congr (g := (whP n).f) (fun x hx => by rw [if_pos hx, whP_f hx])]
    simp [bi_wholePart_3]
  · apply vi_wholePart_3
    have h1 := sc_lt hi
    have h0 : ¬ (n : Int) = 0 := by omega
    have w8 : wu8 ((sc n i : Nat) : Int) = ((sc n i : Nat) : Int) := by rw [wrap_u8] <;> omega
    have w : wi64 ((i : Int) + 1) = ((i + 1 : Nat) : Int) := by rw [wrap_i64] <;> omega
    simp (disch := omega) only [bi_wholePart_3, decide_eq_true, cond_true, Bool.and_true, Int.toNat_natCast, bne_dec, decide_eq_false h0, Bool.not_false, turn_i hi hn, w8, A8_set hi hn]
    rw [A8_congr (g := fun x => if x < i + 1 then sc n x else 0) (fun x hx => by
      by_cases h2 : x = i
      · subst h2; simp
      · by_cases h3 : x < i
        · have : x < i + 1 := by omega
          simp [h2, h3, this]
        · have : ¬ x < i + 1 := by omega
          simp [h2, h3, this]), w]
    exact ih
theorem c_wholePart (n : Nat) (hn : n ≤ 8) : R ii_wholePart [tI (n : Int)] = some [tA8 (sA (whP n))] := by
  apply vi_wholePart
  have h := c_wholePart_3 n hn (List.replicate 8 0) 0 (Nat.zero_le _)
  rw [A8_congr (g := fun _ => 0) (fun x hx => by simp), ← A8_zero] at h
  simp only [Int.natCast_zero] at h
  simp only [bi_wholePart, h, Option.bind_some, getTV_here, getTV_next]
theorem c_complementPart (n : Nat) (hn : n ≤ 8) (s : Pm n) : R ii_complementPart [tA8 (sA s), tI (n : Int)] = some [tA8 (sA (s⁻¹ * whP n))] := by
  have h1 : R ii_backPart [tA8 (sA s), tI (n : Int)] = some [tA8 (sA s⁻¹)] := by
    apply vi_backPart
    simp only [bi_backPart, c_backOf n hn, Option.bind_some, getTV_here]
  have h2 : R ii_thenPart [tA8 (sA s⁻¹), tA8 (sA (whP n)), tI (n : Int)] = some [tA8 (sA (s⁻¹ * whP n))] := by
    apply vi_thenPart
    simp only [bi_thenPart, c_then n hn, Option.bind_some, getTV_here]
  apply vi_complementPart
  simp only [bi_complementPart, h1, c_wholePart n hn, h2, Option.bind_some, getTV_here]
/-- What a part is: labels, and its permutation. -/
theorem isPt_cases (a : List Int) (k : Int) : isPt a k = false ∨ (isPt a k = true ∧ ∃ (n : Nat) (g : Nat → Nat) (s : Pm n), 1 ≤ n ∧ n ≤ 8 ∧ k = n ∧ Can n g ∧ crs n g = false ∧ a = A8 n (mdf n g) ∧ a = sA s) := by
  by_cases h : 1 ≤ k ∧ k ≤ 8 ∧ IsP k.toNat a
  · right
    refine ⟨decp_t h, ?_⟩
    obtain ⟨h1, h2, g, hg, hc, rfl⟩ := h
    obtain ⟨s, hs, _⟩ := mdf_pm hg
    exact ⟨k.toNat, g, s, by omega, by omega, by omega, hg, hc, rfl, hs⟩
  · left
    exact decp_f h
theorem fit_part {a : List Int} (h : Fit (.arr .u8 8) a) : B8 a := ⟨h.1, fun y hy => wf_u8 (h.2 y hy)⟩
theorem zero8 : (List.replicate 8 (0 : Int)).length = 8 := by simp
/-! ### turns -/
def st (n : Nat) (f : Nat → Nat) (i y : Nat) : Nat := if y = 0 then (if i = n then sc n (f (n - 1)) else 0) else if y ≤ i then sc n (f (y - 1)) else 0
theorem st_step {n : Nat} (hn0 : 1 ≤ n) (f : Nat → Nat) {i : Nat} (hi : i < n) : A8 n (fun x => if x = sc n i then sc n (f i) else st n f i x) = A8 n (st n f (i + 1)) := by
  apply A8_congr
  intro y hy
  unfold st
  by_cases h : i + 1 = n
  · have e : sc n i = 0 := by unfold sc; rw [if_pos h]
    rw [e]
    by_cases h0 : y = 0
    · rw [if_pos h0, if_pos h0, if_pos h, show n - 1 = i by omega]
    · rw [if_neg h0, if_neg h0, if_neg h0]
      rw [if_pos (by omega), if_pos (by omega)]
  · have e : sc n i = i + 1 := by unfold sc; rw [if_neg h]
    rw [e]
    by_cases h0 : y = 0
    · rw [if_neg (by omega), if_pos h0, if_pos h0, if_neg (by omega), if_neg h]
    · by_cases h1 : y = i + 1
      · subst h1
        simp
      · rw [if_neg h1, if_neg h0, if_neg h0]
        by_cases h2 : y ≤ i
        · rw [if_pos h2, if_pos (by omega)]
        · rw [if_neg h2, if_neg (by omega)]
theorem c_turnPart_4 (n : Nat) (hn0 : 1 ≤ n) (hn : n ≤ 8) (f : Nat → Nat) (hf : ∀ x, x < n → f x < n) (z : List Int) : ∀ i, i ≤ n → R ii_turnPart_4 [tA8 (A8 n f), tA8 z, tA8 (A8 n (st n f i)), tI (n : Int), tI ((1 % n : Nat) : Int), tI (n : Int), tI (i : Int)] = some [tI 0, tA8 z, tA8 (A8 n (st n f n))] := by
  have hx : ∀ x, x < n → Int.tmod (wi64 ((x : Int) + ((1 % n : Nat) : Int))) (n : Int) = ((sc n x : Nat) : Int) := by
    intro x hx
    have h1 := Nat.mod_lt 1 (show n > 0 by omega)
    have e : wi64 ((x : Int) + ((1 % n : Nat) : Int)) = ((x + 1 % n : Nat) : Int) := by rw [wrap_i64] <;> omega
    rw [e, tmn, Nat.add_mod_mod, sc_mod hx]
  refine up_loop _ ?_ (fun i hi ih => ?_)
  · apply vi_turnPart_4
    simp [bi_turnPart_4]
  · apply vi_turnPart_4
    have h1 := sc_lt hi
    have h2 := sc_lt (hf i hi)
    have h3 := hf i hi
    have h0 : ¬ (n : Int) = 0 := by omega
    have w8 : wu8 ((sc n (f i) : Nat) : Int) = ((sc n (f i) : Nat) : Int) := by rw [wrap_u8] <;> omega
    have w : wi64 ((i : Int) + 1) = ((i + 1 : Nat) : Int) := by rw [wrap_i64] <;> omega
    have w2 : wi64 ((f i : Nat) : Int) = ((f i : Nat) : Int) := by rw [wrap_i64] <;> omega
    have v1 : decide ((0 : Int) ≤ ((sc n i : Nat) : Int)) = true := decide_eq_true (by omega)
    have v2 : decide (((sc n i : Nat) : Int) < 8) = true := decide_eq_true (by omega)
    have v3 : decide ((i : Int) < (n : Int)) = true := decide_eq_true (by omega)
    have v4 : decide ((0 : Int) ≤ (i : Int)) = true := decide_eq_true (by omega)
    have v5 : decide ((i : Int) < 8) = true := decide_eq_true (by omega)
    simp only [bi_turnPart_4, hx i hi, v1, v2, v3, v4, v5, cond_true, Bool.and_true, Int.toNat_natCast, bne_dec, decide_eq_false h0, Bool.not_false, A8_get hi hn, w2, hx (f i) h3, w8, A8_set h1 hn, st_step hn0 f hi]
    rw [w]
    exact ih
theorem st_zero {n : Nat} (hn0 : 1 ≤ n) (f : Nat → Nat) : A8 n (st n f 0) = List.replicate 8 0 := by
  rw [A8_zero n]
  apply A8_congr
  intro y hy
  unfold st
  by_cases h0 : y = 0
  · rw [if_pos h0, if_neg (by omega)]
  · rw [if_neg h0, if_neg (by omega)]
end Go.Ev.Yteclcmiopobnaaa.P
