/- Is it a part: what the reference does. -/
import Derived.Test.YteclcmiopobnaaaMp2
import Derived.Test.YteclcmiopobnaaaMb1
set_option linter.unusedVariables false
set_option linter.unusedSimpArgs false
namespace Go.Ev.Yteclcmiopobnaaa.P
open Go.Ev.Yteclcmiopobnaaa
open Go.Ev Go.Gar
theorem beq_nn (a b : Nat) : (((a : Int)) == (b : Int)) = decide (a = b) := by
  rw [beq_dec]
  by_cases h : a = b
  · simp [h]
  · have : ¬ (a : Int) = b := by omega
    simp [h, this]
theorem bne_nn (a b : Nat) : (((a : Int)) != (b : Int)) = !decide (a = b) := by
  rw [bne_dec]
  by_cases h : a = b
  · simp [h]
  · have : ¬ (a : Int) = b := by omega
    simp [h, this]
/-! ### labels along cycles -/
structure Li (n i : Nat) (l : Nat → Nat) (S : Nat → Bool) : Prop where
  c : ∀ x, x < n → S x = true → l x ≤ x ∧ S (l x) = true ∧ l (l x) = l x
  b : ∀ x, x < i → S x = true
/-! ### made arrays -/
/-! ### crossings -/
/-! ### is it a part -/
/-- A part of n strands: the made array of labels that do not cross. -/
def IsP (n : Nat) (a : List Int) : Prop := ∃ g, Can n g ∧ crs n g = false ∧ a = A8 n (mdf n g)
open Classical in
noncomputable def isPt (a : List Int) (k : Int) : Bool := decide (1 ≤ k ∧ k ≤ 8 ∧ IsP k.toNat a)
theorem decp_t {p : Prop} {i : Decidable p} (h : p) : @decide p i = true := decide_eq_true h
theorem decp_f {p : Prop} {i : Decidable p} (h : ¬ p) : @decide p i = false := decide_eq_false h
theorem beq_ll (a b : List Int) : (a == b) = decide (a = b) := by rw [Bool.eq_iff_iff]; simp
end Go.Ev.Yteclcmiopobnaaa.P
