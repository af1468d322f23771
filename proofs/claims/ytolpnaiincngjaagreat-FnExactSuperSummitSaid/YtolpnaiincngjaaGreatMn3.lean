/- Lists of simple braids made normal: the reference's way. -/
import Derived.Test.YtolpnaiincngjaaGreatMn2
set_option linter.unusedVariables false
set_option linter.unusedSimpArgs false
namespace Go.Ev.YtolpnaiincngjaaGreat
open Go.Ev Go.Gar
def sL {n : Nat} (l : List (Pm n)) : List (List Int) := l.map sA
theorem sL_len {n : Nat} (l : List (Pm n)) : (sL l).length = l.length := by simp [sL]
theorem sL_get {n : Nat} {l : List (Pm n)} {i : Nat} (h : i < l.length) : List.getD (sL l) i (List.replicate 8 0) = sA l[i] := by
  simp [sL, List.getD_eq_getElem?_getD, h]
theorem sL_set {n : Nat} (l : List (Pm n)) (i : Nat) (s : Pm n) : List.set (sL l) i (sA s) = sL (l.set i s) := by
  simp [sL]
theorem sL_snoc {n : Nat} (l : List (Pm n)) (s : Pm n) : sL l ++ [sA s] = sL (l ++ [s]) := by simp [sL]
theorem sL_drop {n : Nat} (l : List (Pm n)) (k : Nat) : List.drop k (sL l) = sL (l.drop k) := by simp [sL]
theorem sL_take {n : Nat} (l : List (Pm n)) (k : Nat) : List.take k (sL l) = sL (l.take k) := by simp [sL]
theorem sL_nil (n : Nat) : sL ([] : List (Pm n)) = [] := rfl
instance {n : Nat} : DecidableEq (Pm n) := fun a b => decidable_of_iff (∀ x, x < n → a.f x = b.f x)
  ⟨fun h => Pm.ext fun x => by
    by_cases hx : x < n
    · exact h x hx
    · rw [a.out x (by omega), b.out x (by omega)], fun h x _ => by rw [h]⟩
theorem take_snoc {α : Type} {X : List α} {k : Nat} (hk : k < X.length) : X.take (k + 1) = X.take k ++ [X[k]] := by
  rw [List.take_add_one, List.getElem?_eq_getElem hk]
  rfl
theorem beq_sA {n : Nat} (hn : n ≤ 8) (s t : Pm n) : (sA s == sA t) = decide (s = t) := by
  rw [Bool.eq_iff_iff, beq_iff_eq, decide_eq_true_eq, sA_eq hn]
theorem allS {n : Nat} (l : List (Pm n)) : (Pm.lat n).AllS l := fun _ _ => trivial
theorem meetK {n : Nat} (a b : Pm n) : Pm.meet (a⁻¹ * Pm.half n) b = (Pm.lat n).meet ((Pm.lat n).K a) b := rfl
theorem cur_get {n : Nat} {X : List (Pm n)} {k : Nat} (hk : k < X.length) (b : Pm n) (m : List (Pm n)) :
    ∃ (h1 : k < (X.take (k + 1) ++ b :: m).length) (h2 : k + 1 < (X.take (k + 1) ++ b :: m).length), (X.take (k + 1) ++ b :: m)[k] = X[k] ∧ (X.take (k + 1) ++ b :: m)[k + 1] = b := by
  have e : (X.take (k + 1)).length = k + 1 := by simp; omega
  refine ⟨by simp; omega, by simp; omega, ?_, ?_⟩
  · rw [List.getElem_append_left (by omega)]
    simp
  · rw [List.getElem_append_right (by omega)]
    simp [e]
theorem cur_set {n : Nat} {X : List (Pm n)} {k : Nat} (hk : k < X.length) (b x y : Pm n) (m : List (Pm n)) :
    ((X.take (k + 1) ++ b :: m).set k x).set (k + 1) y = X.take k ++ x :: y :: m := by
  have e : X.take (k + 1) = X.take k ++ [X[k]] := take_snoc hk
  have e1 : (X.take k).length = k := by simp; omega
  rw [e, List.append_assoc]
  rw [List.set_append_right _ _ (by omega), e1, Nat.sub_self]
  rw [List.set_append_right _ _ (by omega), e1, show k + 1 - k = 1 by omega]
  rfl
theorem pass_drop {n : Nat} {X : List (Pm n)} {k : Nat} (hk : k < X.length) : (Pm.lat n).pass (X.drop k) = (Pm.lat n).step1 X[k] ((Pm.lat n).pass (X.drop (k + 1))) := by
  rw [List.drop_eq_getElem_cons hk]
  rfl
theorem c_l03Weigh_6 (n : Nat) (hn : n ≤ 8) (X : List (Pm n)) (hX : X.length < 1000000) : ∀ k, k < X.length → ∀ mv : Bool,
    ∃ mv', (mv' = false → mv = false ∧ (Pm.lat n).pass X = X.take k ++ (Pm.lat n).pass (X.drop k)) ∧ (mv' = true → mv = true ∨ ¬ (Pm.lat n).Wd X) ∧
      R is_l03Weigh_6 [tLA8 (sL (X.take k ++ (Pm.lat n).pass (X.drop k))), tI (n : Int), tB mv, tI ((k : Int) - 1)] = some [tI 0, tLA8 (sL ((Pm.lat n).pass X)), tI (n : Int), tB mv'] := by
  intro k
  induction k with
  | zero =>
    intro _ mv
    refine ⟨mv, fun h => ⟨h, by simp⟩, fun h => .inl h, ?_⟩
    apply vs_l03Weigh_6
    simp [bs_l03Weigh_6]
  | succ k ih =>
    intro hk mv
    have hk' : k < X.length := by omega
    have hlen := (Pm.lat n).pass_len (l := X.drop (k + 1))
    have hd := pass_drop hk'
    cases hp : (Pm.lat n).pass (X.drop (k + 1)) with
    | nil =>
      rw [hp] at hlen
      simp at hlen
      omega
    | cons b m =>
      rw [hp] at hd
      obtain ⟨l1, l2, g1, g2⟩ := cur_get hk' b m
      have e1 : wi64 ((k : Int) + 1) = ((k + 1 : Nat) : Int) := by rw [wrap_i64] <;> omega
      have e2 : wi64 ((k : Int) - 1) = (k : Int) - 1 := by rw [wrap_i64] <;> omega
      have len : (X.take (k + 1) ++ b :: m).length = X.length := by
        rw [hp] at hlen
        simp at hlen ⊢
        omega
      have gg1 := sL_get (n := n) l1
      have gg2 := sL_get (n := n) l2
      rw [g1] at gg1
      rw [g2] at gg2
      have tk : X.take (k + 1) = X.take k ++ [X[k]] := take_snoc hk'
      by_cases hc : Pm.meet (X[k]⁻¹ * Pm.half n) b = 1
      · have hst : (Pm.lat n).pass (X.drop k) = X[k] :: b :: m := by
          rw [hd, Lat.step1, ← meetK, hc, Grp.mul_one, inv_one, Grp.one_mul]
        obtain ⟨mv', q1, q2, q3⟩ := ih hk' mv
        have ecur : X.take k ++ (Pm.lat n).pass (X.drop k) = X.take (k + 1) ++ b :: m := by
          rw [hst, tk, List.append_assoc]
          rfl
        rw [ecur] at q1 q3
        refine ⟨mv', fun h => ⟨(q1 h).1, (q1 h).2⟩, q2, ?_⟩
        apply vs_l03Weigh_6
        rw [show ((k + 1 : Nat) : Int) - 1 = (k : Int) by omega]
        simp (disch := omega) only [bs_l03Weigh_6, decide_eq_true, cond_true, Bool.and_true, Int.toNat_natCast, sL_len, len, gg1, gg2, e1, c_l02Complement n hn, c_l02Meet n hn, c_l02Same n hn, Option.bind_some, getTV_here, hc, beq_self_eq_true, e2]
        exact q3
      · have hst : (Pm.lat n).pass (X.drop k) = (X[k] * Pm.meet (X[k]⁻¹ * Pm.half n) b) :: ((Pm.meet (X[k]⁻¹ * Pm.half n) b)⁻¹ * b) :: m := by
          rw [hd, Lat.step1, ← meetK]
        obtain ⟨mv', q1, q2, q3⟩ := ih hk' true
        rw [hst] at q3
        have wd : ¬ (Pm.lat n).Wd X := by
          intro hW
          have hpf := Lat.pass_fix hW
          -- all of X is as it was
          have hW2 : ∀ j, (Pm.lat n).Wd (X.drop j) := by
            intro j
            induction j with
            | zero => exact hW
            | succ j ihj =>
              rw [← List.drop_drop]
              cases hx : X.drop j with
              | nil => exact trivial
              | cons u v =>
                rw [hx] at ihj
                exact ihj.2
          have := Lat.pass_fix (hW2 (k + 1))
          rw [hp] at this
          have h2 := hW2 k
          rw [List.drop_eq_getElem_cons hk', ← this] at h2
          exact hc (h2.1 b rfl)
        refine ⟨mv', fun h => absurd (q1 h).1 (by simp), fun h => .inr wd, ?_⟩
        have e3 := cur_set hk' b (X[k] * Pm.meet (X[k]⁻¹ * Pm.half n) b) ((Pm.meet (X[k]⁻¹ * Pm.half n) b)⁻¹ * b) m
        have l3 : k + 1 < ((X.take (k + 1) ++ b :: m).set k (X[k] * Pm.meet (X[k]⁻¹ * Pm.half n) b)).length := by rw [List.length_set]; exact l2
        have gg3 := sL_get (n := n) l3
        have g3 : ((X.take (k + 1) ++ b :: m).set k (X[k] * Pm.meet (X[k]⁻¹ * Pm.half n) b))[k + 1] = b := by
          rw [List.getElem_set_ne (by omega), g2]
        rw [g3] at gg3
        apply vs_l03Weigh_6
        rw [show ((k + 1 : Nat) : Int) - 1 = (k : Int) by omega]
        have hb : (sA (Pm.meet (X[k]⁻¹ * Pm.half n) b) == sA (1 : Pm n)) = false := by rw [beq_sA hn]; simpa using hc
        simp (disch := omega) only [bs_l03Weigh_6, decide_eq_true, cond_true, cond_false, Bool.and_true, Int.toNat_natCast, sL_len, List.length_set, len, gg1, gg2, e1, c_l02Complement n hn, c_l02Meet n hn, c_l02Same n hn, Option.bind_some, getTV_here, hb, e2, c_l02Then n hn, c_l02Back n hn, sL_set, gg3, e3]
        exact q3
theorem c_l03Weigh_3 (n : Nat) (hn : n ≤ 8) : ∀ (j : Nat) (X : List (Pm n)), X.length < 1000000 → (Pm.lat n).iter j X = (Pm.lat n).nf X →
    R is_l03Weigh_3 [tLA8 (sL X), tI (n : Int), tB true] = some [tI 0, tLA8 (sL ((Pm.lat n).nf X))] := by
  intro j
  induction j with
  | zero =>
    intro X hX hj
    have hW : (Pm.lat n).Wd X := by
      have := Lat.nf_Wd (allS X)
      rw [← hj] at this
      exact this
    have hpx := Lat.pass_fix hW
    have hnx := Lat.nf_fix hW
    apply vs_l03Weigh_3
    cases X with
    | nil =>
      have h1 : R is_l03Weigh_6 [tLA8 (sL ([] : List (Pm n))), tI (n : Int), tB false, tI (-2)] = some [tI 0, tLA8 (sL ([] : List (Pm n))), tI (n : Int), tB false] := by
        apply vs_l03Weigh_6
        simp [bs_l03Weigh_6]
      have h2 : R is_l03Weigh_3 [tLA8 (sL ([] : List (Pm n))), tI (n : Int), tB false] = some [tI 0, tLA8 (sL ([] : List (Pm n)))] := by
        apply vs_l03Weigh_3
        simp [bs_l03Weigh_3]
      have e2 : wi64 (((([] : List (List Int)).length : Nat) : Int) - 2) = -2 := by decide
      simp only [bs_l03Weigh_3, cond_true, sL_nil, e2] at h1 h2 ⊢
      simp [h1, h2, hnx, sL_nil]
    | cons a X =>
      obtain ⟨mv', q1, q2, q3⟩ := c_l03Weigh_6 n hn (a :: X) hX X.length (by simp) false
      have hd : (a :: X).take X.length ++ (Pm.lat n).pass ((a :: X).drop X.length) = a :: X := by
        have hWd : (Pm.lat n).pass ((a :: X).drop X.length) = (a :: X).drop X.length := by
          have h1 : ((a :: X).drop X.length).length = 1 := by simp
          match h2 : (a :: X).drop X.length, h1 with
          | [y], _ => rfl
        rw [hWd, List.take_append_drop]
      rw [hd] at q1 q3
      have e2 : wi64 (((sL (a :: X)).length : Nat) - 2) = (X.length : Int) - 1 := by
        simp only [List.length_cons] at hX
        rw [sL_len, List.length_cons, wrap_i64] <;> omega
      have hmv : mv' = false := by
        cases mv' with
        | false => rfl
        | true =>
          rcases q2 rfl with h | h
          · simp at h
          · exact (h hW).elim
      subst hmv
      have h2 : R is_l03Weigh_3 [tLA8 (sL ((Pm.lat n).pass (a :: X))), tI (n : Int), tB false] = some [tI 0, tLA8 (sL ((Pm.lat n).pass (a :: X)))] := by
        apply vs_l03Weigh_3
        simp [bs_l03Weigh_3]
      rw [hpx] at q3 h2
      simp only [bs_l03Weigh_3, cond_true, e2, q3, Option.bind_some, getTV_here, getTV_next, h2, hnx]
  | succ j ih =>
    intro X hX hj
    apply vs_l03Weigh_3
    cases X with
    | nil =>
      have h1 : R is_l03Weigh_6 [tLA8 (sL ([] : List (Pm n))), tI (n : Int), tB false, tI (-2)] = some [tI 0, tLA8 (sL ([] : List (Pm n))), tI (n : Int), tB false] := by
        apply vs_l03Weigh_6
        simp [bs_l03Weigh_6]
      have h2 : R is_l03Weigh_3 [tLA8 (sL ([] : List (Pm n))), tI (n : Int), tB false] = some [tI 0, tLA8 (sL ([] : List (Pm n)))] := by
        apply vs_l03Weigh_3
        simp [bs_l03Weigh_3]
      have e2 : wi64 (((([] : List (List Int)).length : Nat) : Int) - 2) = -2 := by decide
      have hnx : (Pm.lat n).nf [] = [] := rfl
      simp only [bs_l03Weigh_3, cond_true, sL_nil, e2] at h1 h2 ⊢
      simp [h1, h2, hnx, sL_nil]
    | cons a X =>
      obtain ⟨mv', q1, q2, q3⟩ := c_l03Weigh_6 n hn (a :: X) hX X.length (by simp) false
      have hd : (a :: X).take X.length ++ (Pm.lat n).pass ((a :: X).drop X.length) = a :: X := by
        have hWd : (Pm.lat n).pass ((a :: X).drop X.length) = (a :: X).drop X.length := by
          have h1 : ((a :: X).drop X.length).length = 1 := by simp
          match h2 : (a :: X).drop X.length, h1 with
          | [y], _ => rfl
        rw [hWd, List.take_append_drop]
      rw [hd] at q1 q3
      have e2 : wi64 (((sL (a :: X)).length : Nat) - 2) = (X.length : Int) - 1 := by
        simp only [List.length_cons] at hX
        rw [sL_len, List.length_cons, wrap_i64] <;> omega
      have hnp := Lat.nf_pass (allS (a :: X))
      have hlp := (Pm.lat n).pass_len (l := a :: X)
      cases mv' with
      | false =>
        have hpx := (q1 rfl).2
        have hnx : (Pm.lat n).nf (a :: X) = a :: X := by
          have h3 : ∀ i, (Pm.lat n).iter i (a :: X) = a :: X := by
            intro i
            induction i with
            | zero => rfl
            | succ i ihi => rw [Lat.iter_succ, ihi, hpx]
          rw [← hj, h3]
        have h2 : R is_l03Weigh_3 [tLA8 (sL ((Pm.lat n).pass (a :: X))), tI (n : Int), tB false] = some [tI 0, tLA8 (sL ((Pm.lat n).pass (a :: X)))] := by
          apply vs_l03Weigh_3
          simp [bs_l03Weigh_3]
        have hpx' : (Pm.lat n).pass (a :: X) = a :: X := hpx
        rw [hpx'] at q3 h2
        simp only [bs_l03Weigh_3, cond_true, e2, q3, Option.bind_some, getTV_here, getTV_next, h2, hnx]
      | true =>
        have h2 := ih ((Pm.lat n).pass (a :: X)) (by rw [hlp]; exact hX) (by rw [Lat.iter_pass, hj, hnp])
        rw [hnp] at h2
        simp only [bs_l03Weigh_3, cond_true, e2, q3, Option.bind_some, getTV_here, getTV_next, h2]
theorem c_l03Weigh (n : Nat) (hn : n ≤ 8) (X : List (Pm n)) (hX : X.length < 1000000) : R is_l03Weigh [tLA8 (sL X), tI (n : Int)] = some [tLA8 (sL ((Pm.lat n).nf X))] := by
  apply vs_l03Weigh
  have h := c_l03Weigh_3 n hn X.length X hX (Lat.iter_nf _ (Nat.le_refl _) (allS X))
  simp only [bs_l03Weigh, apOk0 (ys := sL X) (by rw [sL_len]; omega), cond_true, h, Option.bind_some, getTV_here, getTV_next]
end Go.Ev.YtolpnaiincngjaaGreat
