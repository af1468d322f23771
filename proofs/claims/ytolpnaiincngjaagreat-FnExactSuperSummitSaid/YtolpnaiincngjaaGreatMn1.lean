/- Simple braids: what both packages do with them. (Printed by a program.) -/
import Derived.Test.YtolpnaiincngjaaGreatMb3
import Derived.Test.YtolpnaiincngjaaGreatMa1
set_option linter.unusedVariables false
set_option linter.unusedSimpArgs false
namespace Go.Ev.YtolpnaiincngjaaGreat
open Go.Ev Go.Gar
theorem wi64_n1 {i : Nat} (h : i < 1000) : wi64 ((i : Int) + 1) = ((i + 1 : Nat) : Int) := by rw [wrap_i64] <;> omega
theorem wu8_n {i : Nat} (h : i < 256) : wu8 (i : Int) = (i : Int) := wrap_u8 (by omega) (by omega)
theorem sA_one (n : Nat) : (sA (1 : Pm n)) = A8 n fun x => x := rfl
theorem c_nothing_3 (n : Nat) (hn : n ≤ 8) (z : List Int) : ∀ i, i ≤ n → R ii_nothing_3 [tA8 z, tA8 (A8 n fun x => if x < i then x else 0), tI (n : Int), tI (i : Int)] = some [tI 0, tA8 z, tA8 (sA (1 : Pm n))] := by
  refine up_loop _ ?_ (fun i hi ih => ?_)
  · apply vi_nothing_3
    rw [sA_one, A8_congr (g := fun x => x) (fun x hx => by simp [hx])]
    simp [bi_nothing_3]
  · apply vi_nothing_3
    simp (disch := omega) only [bi_nothing_3, decide_eq_true, cond_true, Bool.and_true, Int.toNat_natCast, wi64_n1, wu8_n, A8_set]
    rw [A8_congr (g := fun x => if x < i + 1 then x else 0) (fun x hx => by split <;> split <;> (try split) <;> omega)]
    exact ih
theorem c_nothing (n : Nat) (hn : n ≤ 8) : R ii_nothing [tI (n : Int)] = some [tA8 (sA (1 : Pm n))] := by
  apply vi_nothing
  have h := c_nothing_3 n hn (List.replicate 8 0) 0 (Nat.zero_le _)
  rw [A8_congr (g := fun _ => 0) (fun x hx => by simp), ← A8_zero] at h
  simp only [Int.natCast_zero] at h
  simp only [bi_nothing, h, Option.bind_some, getTV_here, getTV_next]
theorem c_l02Same_3 (n : Nat) (hn : n ≤ 8) (z : List Int) : ∀ i, i ≤ n → R is_l02Same_3 [tA8 z, tA8 (A8 n fun x => if x < i then x else 0), tI (n : Int), tI (i : Int)] = some [tI 0, tA8 z, tA8 (sA (1 : Pm n))] := by
  refine up_loop _ ?_ (fun i hi ih => ?_)
  · apply vs_l02Same_3
    rw [sA_one, A8_congr (g := fun x => x) (fun x hx => by simp [hx])]
    simp [bs_l02Same_3]
  · apply vs_l02Same_3
    simp (disch := omega) only [bs_l02Same_3, decide_eq_true, cond_true, Bool.and_true, Int.toNat_natCast, wi64_n1, wu8_n, A8_set]
    rw [A8_congr (g := fun x => if x < i + 1 then x else 0) (fun x hx => by split <;> split <;> (try split) <;> omega)]
    exact ih
theorem c_l02Same (n : Nat) (hn : n ≤ 8) : R is_l02Same [tI (n : Int)] = some [tA8 (sA (1 : Pm n))] := by
  apply vs_l02Same
  have h := c_l02Same_3 n hn (List.replicate 8 0) 0 (Nat.zero_le _)
  rw [A8_congr (g := fun _ => 0) (fun x hx => by simp), ← A8_zero] at h
  simp only [Int.natCast_zero] at h
  simp only [bs_l02Same, h, Option.bind_some, getTV_here, getTV_next]
theorem c_halfTurn_3 (n : Nat) (hn : n ≤ 8) (z : List Int) : ∀ i, i ≤ n → R ii_halfTurn_3 [tA8 z, tA8 (A8 n fun x => if x < i then n - 1 - x else 0), tI (n : Int), tI (n : Int), tI (i : Int)] = some [tI 0, tA8 z, tA8 (sA (Pm.half n))] := by
  refine up_loop _ ?_ (fun i hi ih => ?_)
  · apply vi_halfTurn_3
    rw [show sA (Pm.half n) = A8 n (Pm.hf n) from rfl, A8_congr (g := Pm.hf n) (fun x hx => by simp [hx, Pm.hf])]
    simp [bi_halfTurn_3]
  · apply vi_halfTurn_3
    have e : wu8 (wi64 (wi64 ((n : Int) - 1) - (i : Int))) = ((n - 1 - i : Nat) : Int) := by
      rw [wrap_i64 (x := (n : Int) - 1) (by omega) (by omega), wrap_i64 (by omega) (by omega), wrap_u8 (by omega) (by omega)]
      omega
    simp (disch := omega) only [bi_halfTurn_3, decide_eq_true, cond_true, Bool.and_true, Int.toNat_natCast, wi64_n1, e, A8_set]
    rw [A8_congr (g := fun x => if x < i + 1 then n - 1 - x else 0) (fun x hx => by split <;> split <;> (try split) <;> omega)]
    exact ih
theorem c_halfTurn (n : Nat) (hn : n ≤ 8) : R ii_halfTurn [tI (n : Int)] = some [tA8 (sA (Pm.half n))] := by
  apply vi_halfTurn
  have h := c_halfTurn_3 n hn (List.replicate 8 0) 0 (Nat.zero_le _)
  rw [A8_congr (g := fun _ => 0) (fun x hx => by simp), ← A8_zero] at h
  simp only [Int.natCast_zero] at h
  simp only [bi_halfTurn, h, Option.bind_some, getTV_here, getTV_next]
theorem c_l02Half_3 (n : Nat) (hn : n ≤ 8) (z : List Int) : ∀ i, i ≤ n → R is_l02Half_3 [tA8 z, tA8 (A8 n fun x => if x < i then n - 1 - x else 0), tI (n : Int), tI (i : Int)] = some [tI 0, tA8 z, tA8 (sA (Pm.half n))] := by
  refine up_loop _ ?_ (fun i hi ih => ?_)
  · apply vs_l02Half_3
    rw [show sA (Pm.half n) = A8 n (Pm.hf n) from rfl, A8_congr (g := Pm.hf n) (fun x hx => by simp [hx, Pm.hf])]
    simp [bs_l02Half_3]
  · apply vs_l02Half_3
    have e : wu8 (wi64 (wi64 ((n : Int) - 1) - (i : Int))) = ((n - 1 - i : Nat) : Int) := by
      rw [wrap_i64 (x := (n : Int) - 1) (by omega) (by omega), wrap_i64 (by omega) (by omega), wrap_u8 (by omega) (by omega)]
      omega
    simp (disch := omega) only [bs_l02Half_3, decide_eq_true, cond_true, Bool.and_true, Int.toNat_natCast, wi64_n1, e, A8_set]
    rw [A8_congr (g := fun x => if x < i + 1 then n - 1 - x else 0) (fun x hx => by split <;> split <;> (try split) <;> omega)]
    exact ih
theorem c_l02Half (n : Nat) (hn : n ≤ 8) : R is_l02Half [tI (n : Int)] = some [tA8 (sA (Pm.half n))] := by
  apply vs_l02Half
  have h := c_l02Half_3 n hn (List.replicate 8 0) 0 (Nat.zero_le _)
  rw [A8_congr (g := fun _ => 0) (fun x hx => by simp), ← A8_zero] at h
  simp only [Int.natCast_zero] at h
  simp only [bs_l02Half, h, Option.bind_some, getTV_here, getTV_next]
theorem c_then_3 (n : Nat) (hn : n ≤ 8) (s t : Pm n) (z : List Int) : ∀ i, i ≤ n → R ii_then_3 [tA8 (sA s), tA8 (sA t), tA8 z, tA8 (A8 n fun x => if x < i then t.f (s.f x) else 0), tI (n : Int), tI (i : Int)] = some [tI 0, tA8 z, tA8 (sA (s * t))] := by
  refine up_loop _ ?_ (fun i hi ih => ?_)
  · apply vi_then_3
    rw [show sA (s * t) = A8 n (fun x => t.f (s.f x)) from rfl, A8_congr (g := fun x => t.f (s.f x)) (fun x hx => by simp [hx])]
    simp [bi_then_3]
  · apply vi_then_3
    have h1 := s.lt hi
    simp (disch := omega) only [bi_then_3, decide_eq_true, cond_true, Bool.and_true, Int.toNat_natCast, wi64_n1, sA_get, A8_set]
    rw [A8_congr (g := fun x => if x < i + 1 then t.f (s.f x) else 0) (fun x hx => by
      by_cases h2 : x = i
      · subst h2; simp
      · by_cases h3 : x < i
        · have : x < i + 1 := by omega
          simp [h2, h3, this]
        · have : ¬ x < i + 1 := by omega
          simp [h2, h3, this])]
    exact ih
theorem c_then (n : Nat) (hn : n ≤ 8) (s t : Pm n) : R ii_then [tA8 (sA s), tA8 (sA t), tI (n : Int)] = some [tA8 (sA (s * t))] := by
  apply vi_then
  have h := c_then_3 n hn s t (List.replicate 8 0) 0 (Nat.zero_le _)
  rw [A8_congr (g := fun _ => 0) (fun x hx => by simp), ← A8_zero] at h
  simp only [Int.natCast_zero] at h
  simp only [bi_then, h, Option.bind_some, getTV_here, getTV_next]
theorem c_l02Then_3 (n : Nat) (hn : n ≤ 8) (s t : Pm n) (z : List Int) : ∀ i, i ≤ n → R is_l02Then_3 [tA8 (sA s), tA8 (sA t), tA8 z, tA8 (A8 n fun x => if x < i then t.f (s.f x) else 0), tI (n : Int), tI (i : Int)] = some [tI 0, tA8 z, tA8 (sA (s * t))] := by
  refine up_loop _ ?_ (fun i hi ih => ?_)
  · apply vs_l02Then_3
    rw [show sA (s * t) = A8 n (fun x => t.f (s.f x)) from rfl, A8_congr (g := fun x => t.f (s.f x)) (fun x hx => by simp [hx])]
    simp [bs_l02Then_3]
  · apply vs_l02Then_3
    have h1 := s.lt hi
    simp (disch := omega) only [bs_l02Then_3, decide_eq_true, cond_true, Bool.and_true, Int.toNat_natCast, wi64_n1, sA_get, A8_set]
    rw [A8_congr (g := fun x => if x < i + 1 then t.f (s.f x) else 0) (fun x hx => by
      by_cases h2 : x = i
      · subst h2; simp
      · by_cases h3 : x < i
        · have : x < i + 1 := by omega
          simp [h2, h3, this]
        · have : ¬ x < i + 1 := by omega
          simp [h2, h3, this])]
    exact ih
theorem c_l02Then (n : Nat) (hn : n ≤ 8) (s t : Pm n) : R is_l02Then [tA8 (sA s), tA8 (sA t), tI (n : Int)] = some [tA8 (sA (s * t))] := by
  apply vs_l02Then
  have h := c_l02Then_3 n hn s t (List.replicate 8 0) 0 (Nat.zero_le _)
  rw [A8_congr (g := fun _ => 0) (fun x hx => by simp), ← A8_zero] at h
  simp only [Int.natCast_zero] at h
  simp only [bs_l02Then, h, Option.bind_some, getTV_here, getTV_next]
theorem c_backOf_3 (n : Nat) (hn : n ≤ 8) (s : Pm n) (z : List Int) : ∀ i, i ≤ n → R ii_backOf_3 [tA8 (sA s), tA8 z, tA8 (A8 n fun y => if s.g y < i then s.g y else 0), tI (n : Int), tI (i : Int)] = some [tI 0, tA8 z, tA8 (sA s⁻¹)] := by
  refine up_loop _ ?_ (fun i hi ih => ?_)
  · apply vi_backOf_3
    rw [show sA s⁻¹ = A8 n s.g from rfl, A8_congr (g := s.g) (fun x hx => by simp [s.lt_g hx])]
    simp [bi_backOf_3]
  · apply vi_backOf_3
    have h1 := s.lt hi
    simp (disch := omega) only [bi_backOf_3, decide_eq_true, cond_true, Bool.and_true, Int.toNat_natCast, wi64_n1, wu8_n, sA_get, A8_set]
    rw [A8_congr (g := fun y => if s.g y < i + 1 then s.g y else 0) (fun y hy => by
      by_cases h2 : y = s.f i
      · subst h2; simp [s.gf]
      · have h4 : s.g y ≠ i := fun h => h2 (by rw [← h, s.fg])
        by_cases h3 : s.g y < i
        · have : s.g y < i + 1 := by omega
          simp [h2, h3, this]
        · have : ¬ s.g y < i + 1 := by omega
          simp [h2, h3, this])]
    exact ih
theorem c_backOf (n : Nat) (hn : n ≤ 8) (s : Pm n) : R ii_backOf [tA8 (sA s), tI (n : Int)] = some [tA8 (sA s⁻¹)] := by
  apply vi_backOf
  have h := c_backOf_3 n hn s (List.replicate 8 0) 0 (Nat.zero_le _)
  rw [A8_congr (g := fun _ => 0) (fun x hx => by simp), ← A8_zero] at h
  simp only [Int.natCast_zero] at h
  simp only [bi_backOf, h, Option.bind_some, getTV_here, getTV_next]
theorem c_l02Back_3 (n : Nat) (hn : n ≤ 8) (s : Pm n) (z : List Int) : ∀ i, i ≤ n → R is_l02Back_3 [tA8 (sA s), tA8 z, tA8 (A8 n fun y => if s.g y < i then s.g y else 0), tI (n : Int), tI (i : Int)] = some [tI 0, tA8 z, tA8 (sA s⁻¹)] := by
  refine up_loop _ ?_ (fun i hi ih => ?_)
  · apply vs_l02Back_3
    rw [show sA s⁻¹ = A8 n s.g from rfl, A8_congr (g := s.g) (fun x hx => by simp [s.lt_g hx])]
    simp [bs_l02Back_3]
  · apply vs_l02Back_3
    have h1 := s.lt hi
    simp (disch := omega) only [bs_l02Back_3, decide_eq_true, cond_true, Bool.and_true, Int.toNat_natCast, wi64_n1, wu8_n, sA_get, A8_set]
    rw [A8_congr (g := fun y => if s.g y < i + 1 then s.g y else 0) (fun y hy => by
      by_cases h2 : y = s.f i
      · subst h2; simp [s.gf]
      · have h4 : s.g y ≠ i := fun h => h2 (by rw [← h, s.fg])
        by_cases h3 : s.g y < i
        · have : s.g y < i + 1 := by omega
          simp [h2, h3, this]
        · have : ¬ s.g y < i + 1 := by omega
          simp [h2, h3, this])]
    exact ih
theorem c_l02Back (n : Nat) (hn : n ≤ 8) (s : Pm n) : R is_l02Back [tA8 (sA s), tI (n : Int)] = some [tA8 (sA s⁻¹)] := by
  apply vs_l02Back
  have h := c_l02Back_3 n hn s (List.replicate 8 0) 0 (Nat.zero_le _)
  rw [A8_congr (g := fun _ => 0) (fun x hx => by simp), ← A8_zero] at h
  simp only [Int.natCast_zero] at h
  simp only [bs_l02Back, h, Option.bind_some, getTV_here, getTV_next]
theorem c_l02Complement (n : Nat) (hn : n ≤ 8) (s : Pm n) : R is_l02Complement [tA8 (sA s), tI (n : Int)] = some [tA8 (sA (s⁻¹ * Pm.half n))] := by
  apply vs_l02Complement
  simp only [bs_l02Complement, c_l02Back n hn, c_l02Half n hn, c_l02Then n hn, Option.bind_some, getTV_here]
theorem c_complement (n : Nat) (hn : n ≤ 8) (s : Pm n) : R ii_complement [tA8 (sA s), tI (n : Int)] = some [tA8 (sA (s⁻¹ * Pm.half n))] := by
  apply vi_complement
  simp only [bi_complement, c_backOf n hn, c_halfTurn n hn, c_then n hn, Option.bind_some, getTV_here]
theorem c_l02Left (n : Nat) (hn : n ≤ 8) (s : Pm n) : R is_l02Left [tA8 (sA s), tI (n : Int)] = some [tA8 (sA (Pm.half n * s⁻¹))] := by
  apply vs_l02Left
  simp only [bs_l02Left, c_l02Back n hn, c_l02Half n hn, c_l02Then n hn, Option.bind_some, getTV_here]
theorem c_leftComplement (n : Nat) (hn : n ≤ 8) (s : Pm n) : R ii_leftComplement [tA8 (sA s), tI (n : Int)] = some [tA8 (sA (Pm.half n * s⁻¹))] := by
  apply vi_leftComplement
  simp only [bi_leftComplement, c_backOf n hn, c_halfTurn n hn, c_then n hn, Option.bind_some, getTV_here]
/-- A simple braid turned. -/
def trn {n : Nat} (s : Pm n) : Pm n := Pm.half n * s * Pm.half n
theorem c_l02Turn (n : Nat) (hn : n ≤ 8) (s : Pm n) : R is_l02Turn [tA8 (sA s), tI (n : Int)] = some [tA8 (sA (trn s))] := by
  apply vs_l02Turn
  simp only [bs_l02Turn, c_l02Half n hn, c_l02Then n hn, Option.bind_some, getTV_here, trn]
theorem c_turn (n : Nat) (hn : n ≤ 8) (s : Pm n) : R ii_turn [tA8 (sA s), tI (n : Int)] = some [tA8 (sA (trn s))] := by
  apply vi_turn
  simp only [bi_turn, c_halfTurn n hn, c_then n hn, Option.bind_some, getTV_here, trn]
theorem sA_swap {n p : Nat} (h : p + 1 < n) (hn : n ≤ 8) : List.set (List.set (sA (1 : Pm n)) p ((p + 1 : Nat) : Int)) (p + 1) (p : Int) = sA (Pm.swap n p h) := by
  rw [sA_one, A8_set (by omega) hn, A8_set h hn]
  apply A8_congr
  intro x hx
  show _ = Pm.sf p x
  unfold Pm.sf
  by_cases h1 : x = p + 1
  · subst h1; simp
  · simp [h1]
theorem c_l02Exchange (n p : Nat) (h : p + 1 < n) (hn : n ≤ 8) : R is_l02Exchange [tI (n : Int), tI ((p + 1 : Nat) : Int)] = some [tA8 (sA (Pm.swap n p h))] := by
  apply vs_l02Exchange
  have e1 : wi64 (((p + 1 : Nat) : Int) - 1) = (p : Int) := by rw [wrap_i64] <;> omega
  simp (disch := omega) only [bs_l02Exchange, c_l02Same n hn, Option.bind_some, getTV_here, e1, decide_eq_true, cond_true, Bool.and_true, Int.toNat_natCast, wu8_n, sA_swap h hn]
theorem c_exchange (n p : Nat) (h : p + 1 < n) (hn : n ≤ 8) : R ii_exchange [tI ((p + 1 : Nat) : Int), tI (n : Int)] = some [tA8 (sA (Pm.swap n p h))] := by
  apply vi_exchange
  have e1 : wi64 (((p + 1 : Nat) : Int) - 1) = (p : Int) := by rw [wrap_i64] <;> omega
  simp (disch := omega) only [bi_exchange, c_nothing n hn, Option.bind_some, getTV_here, e1, decide_eq_true, cond_true, Bool.and_true, Int.toNat_natCast, sA_get, Pm.one_f, sA_swap h hn]
end Go.Ev.YtolpnaiincngjaaGreat
