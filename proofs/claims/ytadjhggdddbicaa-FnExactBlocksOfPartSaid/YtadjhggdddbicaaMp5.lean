/- Parts turned and their complements: the laws. (Printed by a program.) -/
import Derived.Test.YtadjhggdddbicaaMp4
set_option linter.unusedVariables false
set_option linter.unusedSimpArgs false
namespace Go.Ev.Ytadjhggdddbicaa
open Go.Ev Go.Gar
theorem wi64_n1 {i : Nat} (h : i < 1000) : wi64 ((i : Int) + 1) = ((i + 1 : Nat) : Int) := by rw [wrap_i64] <;> omega
theorem wu8_n {i : Nat} (h : i < 256) : wu8 (i : Int) = (i : Int) := wrap_u8 (by omega) (by omega)
theorem sA_one (n : Nat) : (sA (1 : Pm n)) = A8 n fun x => x := rfl
theorem tmn (a b : Nat) : Int.tmod (a : Int) (b : Int) = ((a % b : Nat) : Int) := rfl
/-- The next strand around. -/
def sc (n x : Nat) : Nat := if x + 1 = n then 0 else x + 1
theorem sc_mod {n x : Nat} (h : x < n) : (x + 1) % n = sc n x := by
  unfold sc
  split
  · rename_i e; rw [e, Nat.mod_self]
  · exact Nat.mod_eq_of_lt (by omega)
theorem sc_lt {n x : Nat} (h : x < n) : sc n x < n := by
  unfold sc
  split <;> omega
theorem whole_ex (n : Nat) : ∃ w : Pm n, ∀ x, x < n → w.f x = sc n x :=
  pm_of (fun x h => sc_lt h) (fun x y hx hy h => by unfold sc at h; split at h <;> split at h <;> omega)
noncomputable def whP (n : Nat) : Pm n := (whole_ex n).choose
theorem whP_f {n x : Nat} (h : x < n) : (whP n).f x = sc n x := (whole_ex n).choose_spec x h
theorem turn_i {n i : Nat} (hi : i < n) (hn : n ≤ 8) : Int.tmod (wi64 ((i : Int) + 1)) (n : Int) = ((sc n i : Nat) : Int) := by
  have e : wi64 ((i : Int) + 1) = ((i + 1 : Nat) : Int) := by rw [wrap_i64] <;> omega
  rw [e, tmn, sc_mod hi]
theorem turn_j {n i : Nat} (hi : i < n) (hn : n ≤ 8) : Int.tmod (wi64 (Int.tmod (wi64 ((i : Int) + 1)) (n : Int) + (n : Int))) (n : Int) = ((sc n i : Nat) : Int) := by
  have h := sc_lt hi
  have e : wi64 (((sc n i : Nat) : Int) + (n : Int)) = ((sc n i + n : Nat) : Int) := by rw [wrap_i64] <;> omega
  rw [turn_i hi hn, e, tmn, Nat.add_mod_right, Nat.mod_eq_of_lt h]
/-- What a part is: labels, and its permutation. -/
theorem isPt_cases (a : List Int) (k : Int) : isPt a k = false ∨ (isPt a k = true ∧ ∃ (n : Nat) (g : Nat → Nat) (s : Pm n), 1 ≤ n ∧ n ≤ 8 ∧ k = n ∧ Can n g ∧ crs n g = false ∧ a = A8 n (mdf n g) ∧ a = sA s) := by
  by_cases h : 1 ≤ k ∧ k ≤ 8 ∧ IsP k.toNat a
  · right
    refine ⟨decp_t h, ?_⟩
    obtain ⟨h1, h2, g, hg, hc, rfl⟩ := h
    obtain ⟨s, hs, _⟩ := mdf_pm hg
    exact ⟨k.toNat, g, s, by omega, by omega, by omega, hg, hc, rfl, hs⟩
  · left
    exact decp_f h
theorem fit_part {a : List Int} (h : Fit (.arr .u8 8) a) : B8 a := ⟨h.1, fun y hy => wf_u8 (h.2 y hy)⟩
theorem zero8 : (List.replicate 8 (0 : Int)).length = 8 := by simp
/-! ### turns -/
def st (n : Nat) (f : Nat → Nat) (i y : Nat) : Nat := if y = 0 then (if i = n then sc n (f (n - 1)) else 0) else if y ≤ i then sc n (f (y - 1)) else 0
theorem st_step {n : Nat} (hn0 : 1 ≤ n) (f : Nat → Nat) {i : Nat} (hi : i < n) : A8 n (fun x => if x = sc n i then sc n (f i) else st n f i x) = A8 n (st n f (i + 1)) := by
  apply A8_congr
  intro y hy
  unfold st
  by_cases h : i + 1 = n
  · have e : sc n i = 0 := by unfold sc; rw [if_pos h]
    rw [e]
    by_cases h0 : y = 0
    · rw [if_pos h0, if_pos h0, if_pos h, show n - 1 = i by omega]
    · rw [if_neg h0, if_neg h0, if_neg h0]
      rw [if_pos (by omega), if_pos (by omega)]
  · have e : sc n i = i + 1 := by unfold sc; rw [if_neg h]
    rw [e]
    by_cases h0 : y = 0
    · rw [if_neg (by omega), if_pos h0, if_pos h0, if_neg (by omega), if_neg h]
    · by_cases h1 : y = i + 1
      · subst h1
        simp
      · rw [if_neg h1, if_neg h0, if_neg h0]
        by_cases h2 : y ≤ i
        · rw [if_pos h2, if_pos (by omega)]
        · rw [if_neg h2, if_neg (by omega)]
theorem st_zero {n : Nat} (hn0 : 1 ≤ n) (f : Nat → Nat) : A8 n (st n f 0) = List.replicate 8 0 := by
  rw [A8_zero n]
  apply A8_congr
  intro y hy
  unfold st
  by_cases h0 : y = 0
  · rw [if_pos h0, if_neg (by omega)]
  · rw [if_neg h0, if_neg (by omega)]
end Go.Ev.Ytadjhggdddbicaa
