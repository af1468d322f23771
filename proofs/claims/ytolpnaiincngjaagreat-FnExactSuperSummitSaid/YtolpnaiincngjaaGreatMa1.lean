/- Arrays of eight small numbers. -/
import Derived.Test.YtolpnaiincngjaaGreatV4
import Derived.Test.YtolpnaiincngjaaGreatG4
set_option linter.unusedVariables false
set_option linter.unusedSimpArgs false
namespace Go.Ev
open Go.Gar
/-- The first n of eight numbers are those of f. -/
def A8 (n : Nat) (f : Nat → Nat) : List Int := (List.range 8).map fun x => if x < n then (f x : Int) else 0
theorem A8_len (n : Nat) (f : Nat → Nat) : (A8 n f).length = 8 := by simp [A8]
theorem A8_get? (n : Nat) (f : Nat → Nat) {x : Nat} (h : x < 8) : (A8 n f)[x]? = some (if x < n then (f x : Int) else 0) := by
  simp [A8, h]
theorem A8_get {n : Nat} {f : Nat → Nat} {x : Nat} (hx : x < n) (hn : n ≤ 8) : List.getD (A8 n f) x 0 = (f x : Int) := by
  rw [List.getD_eq_getElem?_getD, A8_get? n f (by omega), if_pos hx]
  rfl
theorem A8_out {n : Nat} {f : Nat → Nat} {x : Nat} (hx : n ≤ x) : List.getD (A8 n f) x 0 = 0 := by
  rw [List.getD_eq_getElem?_getD]
  by_cases h : x < 8
  · rw [A8_get? n f h, if_neg (by omega)]
    rfl
  · rw [List.getElem?_eq_none (by rw [A8_len]; omega)]
    rfl
theorem list8 {l m : List Int} (h1 : l.length = 8) (h2 : m.length = 8) (h : ∀ x, x < 8 → l[x]? = m[x]?) : l = m := by
  apply List.ext_getElem?
  intro x
  by_cases hx : x < 8
  · exact h x hx
  · rw [List.getElem?_eq_none (by omega), List.getElem?_eq_none (by omega)]
theorem A8_congr {n : Nat} {f g : Nat → Nat} (h : ∀ x, x < n → f x = g x) : A8 n f = A8 n g := by
  apply list8 (A8_len n f) (A8_len n g)
  intro x hx
  rw [A8_get? n f hx, A8_get? n g hx]
  by_cases h1 : x < n
  · rw [if_pos h1, if_pos h1, h x h1]
  · rw [if_neg h1, if_neg h1]
theorem A8_inj {n : Nat} {f g : Nat → Nat} (hn : n ≤ 8) (h : A8 n f = A8 n g) : ∀ x, x < n → f x = g x := by
  intro x hx
  have h1 := A8_get (f := f) hx hn
  rw [h, A8_get hx hn] at h1
  omega
theorem A8_set {n : Nat} {f : Nat → Nat} {k v : Nat} (hk : k < n) (hn : n ≤ 8) : List.set (A8 n f) k (v : Int) = A8 n (fun x => if x = k then v else f x) := by
  apply list8 (by rw [List.length_set, A8_len]) (A8_len _ _)
  intro x hx
  have e1 := A8_get? n f hx
  have e2 := A8_get? n (fun x => if x = k then v else f x) hx
  rw [List.getElem?_set, e1, e2, A8_len]
  by_cases h1 : k = x
  · subst h1
    simp [hk, hx]
  · have h2 : ¬ x = k := fun h => h1 h.symm
    simp [h1, h2]
theorem A8_zero (n : Nat) : List.replicate 8 (0 : Int) = A8 n (fun _ => 0) := by
  apply list8 (by simp) (A8_len _ _)
  intro x hx
  rw [A8_get? n _ hx, List.getElem?_replicate, if_pos hx]
  split <;> rfl
/-- The array of a permutation. -/
def sA {n : Nat} (s : Pm n) : List Int := A8 n s.f
theorem sA_len {n : Nat} (s : Pm n) : (sA s).length = 8 := A8_len _ _
theorem sA_get {n : Nat} {s : Pm n} {x : Nat} (hx : x < n) (hn : n ≤ 8) : List.getD (sA s) x 0 = (s.f x : Int) := A8_get hx hn
theorem sA_inj {n : Nat} (hn : n ≤ 8) {s t : Pm n} (h : sA s = sA t) : s = t := by
  apply Pm.ext
  intro x
  by_cases hx : x < n
  · exact A8_inj hn h x hx
  · rw [s.out x (by omega), t.out x (by omega)]
theorem sA_eq {n : Nat} (hn : n ≤ 8) (s t : Pm n) : sA s = sA t ↔ s = t := ⟨sA_inj hn, fun h => by rw [h]⟩
theorem ofInt_nat {d : Nat} (h : d < 2 ^ 64) : (BitVec.ofInt 64 (d : Int)).toNat = d := by
  rw [BitVec.toNat_ofInt]
  omega
theorem wrap_u64 {x : Int} (h1 : 0 ≤ x) (h2 : x < 18446744073709551616) : IntKind.wrap .u64 x = x := by
  simp only [IntKind.wrap, IntKind.bits, IntKind.signed, Bool.false_and, Bool.false_eq_true, if_false]
  omega
theorem shl_one {k : Nat} (h : k < 64) : shl .u64 1 (k : Int) = ((2 ^ k : Nat) : Int) := by
  have h1 : 2 ^ k < 2 ^ 64 := Nat.pow_lt_pow_right (by omega) h
  unfold shl
  rw [show min ((k : Int)).toNat (IntKind.bits .u64) = k by simp [IntKind.bits]; omega, Int.one_mul]
  rw [show ((2 : Int) ^ k) = ((2 ^ k : Nat) : Int) from (Int.natCast_pow 2 k).symm]
  exact wrap_u64 (Int.natCast_nonneg _) (Int.ofNat_lt.2 h1)
theorem bitsOr_nat {d e : Nat} (hd : d < 2 ^ 64) (he : e < 2 ^ 64) : bitsOr .u64 (d : Int) (e : Int) = ((d ||| e : Nat) : Int) := by
  have h := Nat.or_lt_two_pow hd he
  unfold bitsOr
  rw [BitVec.toNat_or]
  show IntKind.wrap .u64 (((BitVec.ofInt 64 (d : Int)).toNat ||| (BitVec.ofInt 64 (e : Int)).toNat : Nat) : Int) = _
  rw [ofInt_nat hd, ofInt_nat he]
  exact wrap_u64 (by omega) (by omega)
theorem bitsAnd_nat {d e : Nat} (hd : d < 2 ^ 64) (he : e < 2 ^ 64) : bitsAnd .u64 (d : Int) (e : Int) = ((d &&& e : Nat) : Int) := by
  have h := Nat.and_lt_two_pow (n := 64) d he
  unfold bitsAnd
  rw [BitVec.toNat_and]
  show IntKind.wrap .u64 (((BitVec.ofInt 64 (d : Int)).toNat &&& (BitVec.ofInt 64 (e : Int)).toNat : Nat) : Int) = _
  rw [ofInt_nat hd, ofInt_nat he]
  exact wrap_u64 (by omega) (by omega)
theorem shr_nat {d k : Nat} (h : k < 64) : shr .u64 (d : Int) (k : Int) = ((d >>> k : Nat) : Int) := by
  unfold shr
  rw [show min ((k : Int)).toNat (IntKind.bits .u64) = k by simp [IntKind.bits]; omega]
  rw [show ((2 : Int) ^ k) = ((2 ^ k : Nat) : Int) from (Int.natCast_pow 2 k).symm, Int.fdiv_eq_ediv_of_nonneg _ (Int.natCast_nonneg _), Nat.shiftRight_eq_div_pow]
  rfl
theorem bit_at {d k : Nat} (hd : d < 2 ^ 64) (h : k < 64) : (bitsAnd .u64 (shr .u64 (d : Int) (k : Int)) 1 == 1) = d.testBit k := by
  rw [shr_nat h]
  have h1 : d >>> k < 2 ^ 64 := by
    rw [Nat.shiftRight_eq_div_pow]
    exact Nat.lt_of_le_of_lt (Nat.div_le_self _ _) hd
  rw [show (1 : Int) = ((1 : Nat) : Int) from rfl, bitsAnd_nat h1 (by omega), beq_dec, Nat.testBit]
  rw [Bool.eq_iff_iff, Nat.and_comm]
  have : (d >>> k) &&& 1 < 2 := Nat.and_lt_two_pow (n := 1) _ (by omega)
  rw [Nat.and_comm]
  have e : 1 &&& (d >>> k) = (d >>> k) &&& 1 := Nat.and_comm _ _
  simp only [decide_eq_true_eq, bne_iff_ne]
  omega
end Go.Ev
