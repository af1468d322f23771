/- Order of arrays. -/
import Derived.Test.YtolpnaiincngjaaGreatMt1
import Derived.Test.YtolpnaiincngjaaGreatMa1
import Derived.Test.YtolpnaiincngjaaGreatMb1
set_option linter.unusedVariables false
set_option linter.unusedSimpArgs false
namespace Go.Ev.YtolpnaiincngjaaGreat
open Go.Ev Go.Gar
def bef : List Int → List Int → Bool
  | a :: p, b :: q => if a = b then bef p q else decide (a < b)
  | _, _ => false
def cmpL : List Int → List Int → Int
  | a :: p, b :: q => if a < b then -1 else if b < a then 1 else cmpL p q
  | _, _ => 0
theorem cmpL_bef : ∀ p q : List Int, (cmpL p q < 0) = (bef p q = true)
  | [], [] => by simp [cmpL, bef]
  | [], _ :: _ => by simp [cmpL, bef]
  | _ :: _, [] => by simp [cmpL, bef]
  | a :: p, b :: q => by
    simp only [cmpL, bef]
    by_cases h1 : a < b
    · rw [if_pos h1, if_neg (by omega), decide_eq_true h1]; simp
    · rw [if_neg h1]
      by_cases h2 : b < a
      · rw [if_pos h2, if_neg (by omega), decide_eq_false h1]; simp
      · rw [if_neg h2, if_pos (by omega)]
        exact cmpL_bef p q
theorem bef_irr : ∀ p : List Int, bef p p = false
  | [] => rfl
  | a :: p => by simp only [bef, if_true]; exact bef_irr p
theorem bef_trans : ∀ {p q r : List Int}, p.length = q.length → q.length = r.length → bef p q = true → bef q r = true → bef p r = true
  | [], _, _, _, _, h, _ => by simp [bef] at h
  | a :: p, [], _, _, _, h, _ => by simp [bef] at h
  | a :: p, b :: q, [], _, _, _, h => by simp [bef] at h
  | a :: p, b :: q, c :: r, l1, l2, h1, h2 => by
    simp only [bef] at h1 h2 ⊢
    simp only [List.length_cons] at l1 l2
    by_cases e1 : a = b
    · subst e1
      rw [if_pos rfl] at h1
      by_cases e2 : a = c
      · subst e2
        rw [if_pos rfl] at h2
        rw [if_pos rfl]
        exact bef_trans (by omega) (by omega) h1 h2
      · rw [if_neg e2] at h2 ⊢; exact h2
    · rw [if_neg e1] at h1
      simp only [decide_eq_true_eq] at h1
      by_cases e2 : b = c
      · subst e2; rw [if_neg e1]; simpa using h1
      · rw [if_neg e2] at h2
        simp only [decide_eq_true_eq] at h2
        rw [if_neg (by omega)]
        simp only [decide_eq_true_eq]; omega
theorem bef_total : ∀ {p q : List Int}, p.length = q.length → bef p q = false → bef q p = false → p = q
  | [], [], _, _, _ => rfl
  | a :: p, b :: q, l, h1, h2 => by
    simp only [bef] at h1 h2
    simp only [List.length_cons] at l
    by_cases e : a = b
    · subst e
      rw [if_pos rfl] at h1 h2
      rw [bef_total (by omega) h1 h2]
    · rw [if_neg e] at h1
      rw [if_neg (Ne.symm e)] at h2
      simp only [decide_eq_false_iff_not] at h1 h2
      omega
  | [], _ :: _, l, _, _ => by simp at l
  | _ :: _, [], l, _, _ => by simp at l
theorem drop_cons8 {x : List Int} (h : x.length = 8) {i : Nat} (hi : i < 8) : x.drop i = List.getD x i 0 :: x.drop (i + 1) := by
  rw [List.drop_eq_getElem_cons (by omega), List.getD_eq_getElem?_getD, List.getElem?_eq_getElem (by omega)]
  rfl
theorem take_tw {α : Type} (f : α → Bool) : ∀ L : List α, L.take (L.takeWhile f).length = L.takeWhile f ∧ L.drop (L.takeWhile f).length = L.dropWhile f
  | [] => ⟨rfl, rfl⟩
  | a :: L => by
    simp only [List.takeWhile_cons, List.dropWhile_cons]
    cases f a with
    | true => exact ⟨by simp [(take_tw f L).1], by simp [(take_tw f L).2]⟩
    | false => exact ⟨rfl, rfl⟩
theorem tw_le {α : Type} (f : α → Bool) (L : List α) : (L.takeWhile f).length ≤ L.length := (List.takeWhile_sublist _).length_le
theorem c_isNaN_b (a : Int) : R icmp_isNaN_byte_ [tU8 a] = some [tB false] := by
  apply vcmp_isNaN_byte_
  simp [bcmp_isNaN_byte_]
theorem c_cmp_b (a b : Int) : R icmp_Compare_byte_ [tU8 a, tU8 b] = some [tI (if a < b then -1 else if b < a then 1 else 0)] := by
  apply vcmp_Compare_byte_
  simp only [bcmp_Compare_byte_, c_isNaN_b, Option.bind_some, getTV_here, cond_false]
  by_cases h1 : a < b
  · simp only [decide_eq_true h1, cond_true, if_pos h1]
  · by_cases h2 : b < a
    · simp only [decide_eq_false h1, decide_eq_true h2, cond_true, cond_false, if_neg h1, if_pos h2]
    · simp only [decide_eq_false h1, decide_eq_false h2, cond_false, if_neg h1, if_neg h2]
theorem c_Compare_b_2 (a b : List Int) (ha : a.length = 8) (hb : b.length = 8) : ∀ i : Nat, i ≤ 8 → R ig_Compare___byte_byte__2 [tLU8 a, tLU8 b, tI 8, tI (i : Int)] =
    some (if cmpL (a.drop i) (b.drop i) = 0 then [tI 0, tLU8 a, tLU8 b] else [tI 1, tI (cmpL (a.drop i) (b.drop i))]) := by
  refine up_loop _ ?_ (fun i hi ih => ?_)
  · apply vg_Compare___byte_byte__2
    rw [List.drop_of_length_le (by omega), List.drop_of_length_le (by omega)]
    simp [bg_Compare___byte_byte__2, cmpL]
  · apply vg_Compare___byte_byte__2
    rw [drop_cons8 ha hi, drop_cons8 hb hi]
    have h1 : ¬ ((8 : Int) ≤ (i : Int)) := by omega
    simp (disch := omega) only [bg_Compare___byte_byte__2, ha, hb, show ((8 : Nat) : Int) = 8 from rfl, decide_eq_true, decide_eq_false h1, cond_true, cond_false, Bool.and_true, Int.toNat_natCast, c_cmp_b, Option.bind_some, getTV_here, bne_dec, wrap_i64, cmpL]
    by_cases e1 : List.getD a i 0 < List.getD b i 0
    · simp only [if_pos e1]; rfl
    · by_cases e2 : List.getD b i 0 < List.getD a i 0
      · simp only [if_neg e1, if_pos e2]; rfl
      · simp only [if_neg e1, if_neg e2, decide_true, Bool.not_true, cond_false]
        rw [show (i : Int) + 1 = ((i + 1 : Nat) : Int) by omega, ih]
theorem c_Compare_b (a b : List Int) (ha : a.length = 8) (hb : b.length = 8) : R ig_Compare___byte_byte_ [tLU8 a, tLU8 b] = some [tI (cmpL a b)] := by
  apply vg_Compare___byte_byte_
  have h := c_Compare_b_2 a b ha hb 0 (by omega)
  simp only [Int.natCast_zero, List.drop_zero] at h
  simp only [bg_Compare___byte_byte_, ha, show ((8 : Nat) : Int) = 8 from rfl, h, Option.bind_some]
  by_cases e : cmpL a b = 0
  · simp [e, ha, hb]
  · simp [e]
end Go.Ev.YtolpnaiincngjaaGreat
