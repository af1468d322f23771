/- The normal form of a word, both packages; NormalOf and SameBraid. -/
import Derived.Test.YtolpnaiincngjaaGreatMn5
import Derived.Test.YtolpnaiincngjaaGreatMs1
set_option linter.unusedVariables false
set_option linter.unusedSimpArgs false
namespace Go.Ev.YtolpnaiincngjaaGreat
open Go.Ev Go.Gar
def swapN (n p : Nat) : Pm n := if h : p + 1 < n then Pm.swap n p h else 1
noncomputable def stepN {n : Nat} (v : Nm n) (x : Int) : Nm n :=
  if 0 < x then mk v.1 (v.2 ++ [swapN n (x.natAbs - 1)]) else mk (v.1 - 1) (v.2.map trn ++ [Pm.half n * (swapN n (x.natAbs - 1))⁻¹])
noncomputable def nOf (n : Nat) (w : List Int) : Nm n := w.foldl stepN (0, [])
/-- After j letters. -/
structure OkJ {n : Nat} (v : Nm n) (j : Nat) : Prop where
  P : (Pm.lat n).Proper v.2
  lo : -(j : Int) ≤ v.1
  hi : v.1 + v.2.length ≤ j
  len : v.2.length ≤ j
theorem mk_len {n : Nat} (h2 : 2 ≤ n) (p : Int) (l : List (Pm n)) : (mk p l).2.length ≤ l.length := by
  obtain ⟨j, _, hP, hl⟩ := Lat.norm_spec (half_ne h2) (allS l)
  simp only [mk]
  omega
theorem stepN_ok {n : Nat} (h2 : 2 ≤ n) {v : Nm n} {j : Nat} (h : OkJ v j) (x : Int) : OkJ (stepN v x) (j + 1) := by
  have a1 := h.lo
  have a2 := h.hi
  have a3 := h.len
  unfold stepN
  split
  · have hm := mk_spec h2 v.1 (v.2 ++ [swapN n (x.natAbs - 1)])
    have hl := mk_len h2 v.1 (v.2 ++ [swapN n (x.natAbs - 1)])
    simp only [List.length_append, List.length_cons, List.length_nil] at hm hl
    exact ⟨hm.1, by omega, by omega, by omega⟩
  · have hm := mk_spec h2 (v.1 - 1) (v.2.map trn ++ [Pm.half n * (swapN n (x.natAbs - 1))⁻¹])
    have hl := mk_len h2 (v.1 - 1) (v.2.map trn ++ [Pm.half n * (swapN n (x.natAbs - 1))⁻¹])
    simp only [List.length_append, List.length_cons, List.length_nil, List.length_map] at hm hl
    exact ⟨hm.1, by omega, by omega, by omega⟩
theorem OkJ.zero (n : Nat) : OkJ ((0, []) : Nm n) 0 := ⟨Lat.Proper.nil, by simp, by simp, by simp⟩
/-- Letters of n strands. -/
def Lw (n : Nat) (w : List Int) : Prop := ∀ x ∈ w, x ≠ 0 ∧ 1 - (n : Int) ≤ x ∧ x ≤ (n : Int) - 1
theorem swapN_eq {n p : Nat} (h : p + 1 < n) : swapN n p = Pm.swap n p h := dif_pos h
theorem Lw_one {w : List Int} (hw : Lw 1 w) : w = [] := by
  cases w with
  | nil => rfl
  | cons x w =>
    have := hw x (by simp)
    omega
/-- Within the limits, or an error. -/
def limV (v : Int × Int × List (List Int)) : (Int × Int × List (List Int)) × Int := if -200 ≤ v.2.1 ∧ v.2.1 ≤ 200 ∧ v.2.2.length ≤ 200 then (v, 0) else ((0, 0, []), 3)
theorem limV_len (v : Int × Int × List (List Int)) : (limV v).1.2.2.length ≤ 200 := by
  unfold limV
  split
  · rename_i h; exact h.2.2
  · simp
theorem limV_8 (v : Int × Int × List (List Int)) (h : Len8 v.2.2) : Len8 (limV v).1.2.2 := by
  unfold limV
  split
  · exact h
  · exact fun x hx => by simp at hx
theorem sL_8 {n : Nat} (l : List (Pm n)) : Len8 (sL l) := fun x hx => by
  obtain ⟨s, _, rfl⟩ := List.mem_map.1 hx
  exact sA_len s
theorem isBr_Lw {b : Int × List Int} (h : isBr b = true) : Lw b.1.toNat b.2 ∧ b.1 = (b.1.toNat : Int) ∧ 1 ≤ b.1.toNat ∧ b.1.toNat ≤ 8 ∧ b.2.length ≤ 200 := by
  have hk := isBr_ok h
  refine ⟨fun x hx => ?_, by omega, by omega, by omega, hk.2.2.1⟩
  have := hk.2.2.2 x hx
  omega
noncomputable def vNormalOf (a : Int × List Int) : (Int × Int × List (List Int)) × Int := if isBr a then limV (enc (nOf a.1.toNat a.2)) else ((0, 0, []), 1)
theorem vNormalOf_ok (a : Int × List Int) : (vNormalOf a).1.2.2.length ≤ 200 ∧ Len8 (vNormalOf a).1.2.2 := by
  unfold vNormalOf
  split
  · exact ⟨limV_len _, limV_8 _ (sL_8 _)⟩
  · exact ⟨by simp, fun x hx => by simp at hx⟩
end Go.Ev.YtolpnaiincngjaaGreat
