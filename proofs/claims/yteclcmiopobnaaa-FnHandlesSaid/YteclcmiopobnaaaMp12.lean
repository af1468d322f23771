/- Parts put behind dual forms: the program. (Printed by a program, after Mn3..Mn5.) -/
import Derived.Test.YteclcmiopobnaaaMp11
import Derived.Test.YteclcmiopobnaaaMp8
set_option linter.unusedVariables false
set_option linter.unusedSimpArgs false
namespace Go.Ev.Yteclcmiopobnaaa.P
open Go.Ev.Yteclcmiopobnaaa
open Go.Ev Go.Gar
theorem pt_sA {n : Nat} {a : Pm n} {g : Nat → Nat} (h : Pt a g) : sA a = A8 n (mdf n g) := A8_congr (fun x hx => h.f x hx)
theorem c_meetP (n : Nat) (h1 : 1 ≤ n) (hn : n ≤ 8) {a b : Pm n} (ha : isP a) (hb : isP b) : R ii_meetParts [tA8 (sA a), tA8 (sA b), tI (n : Int)] = some [tA8 (sA (meetP a b))] := by
  rw [pt_sA ha.choose_spec, pt_sA hb.choose_spec, pt_sA (meetP_pt ha hb)]
  exact c_meetParts n h1 hn _ _ ha.choose_spec.can hb.choose_spec.can
theorem c_backPart (n : Nat) (hn : n ≤ 8) (s : Pm n) : R ii_backPart [tA8 (sA s), tI (n : Int)] = some [tA8 (sA s⁻¹)] := by
  apply vi_backPart
  simp only [bi_backPart, c_backOf n hn, Option.bind_some, getTV_here]
theorem c_thenPart (n : Nat) (hn : n ≤ 8) (s t : Pm n) : R ii_thenPart [tA8 (sA s), tA8 (sA t), tI (n : Int)] = some [tA8 (sA (s * t))] := by
  apply vi_thenPart
  simp only [bi_thenPart, c_then n hn, Option.bind_some, getTV_here]
theorem whP_ne {n : Nat} (h2 : 2 ≤ n) : (latP n (by omega)).D ≠ 1 := by
  intro h
  have h3 : (whP n).f 0 = (1 : Pm n).f 0 := congrArg (fun s : Pm n => s.f 0) h
  rw [whP_f (show 0 < n by omega)] at h3
  unfold sc at h3
  rw [if_neg (by omega)] at h3
  exact absurd h3 (by simp [Pm.one_f])
def sL {n : Nat} (l : List (Pm n)) : List (List Int) := l.map sA
theorem sL_len {n : Nat} (l : List (Pm n)) : (sL l).length = l.length := by simp [sL]
theorem sL_get {n : Nat} {l : List (Pm n)} {i : Nat} (h : i < l.length) : List.getD (sL l) i (List.replicate 8 0) = sA l[i] := by
  simp [sL, List.getD_eq_getElem?_getD, h]
theorem sL_set {n : Nat} (l : List (Pm n)) (i : Nat) (s : Pm n) : List.set (sL l) i (sA s) = sL (l.set i s) := by
  simp [sL]
theorem sL_app {n : Nat} (l m : List (Pm n)) : sL l ++ sL m = sL (l ++ m) := by simp [sL]
theorem sL_snoc {n : Nat} (l : List (Pm n)) (s : Pm n) : sL l ++ [sA s] = sL (l ++ [s]) := by simp [sL]
theorem sL_drop {n : Nat} (l : List (Pm n)) (k : Nat) : List.drop k (sL l) = sL (l.drop k) := by simp [sL]
theorem sL_take {n : Nat} (l : List (Pm n)) (k : Nat) : List.take k (sL l) = sL (l.take k) := by simp [sL]
theorem sL_nil (n : Nat) : sL ([] : List (Pm n)) = [] := rfl
instance {n : Nat} : DecidableEq (Pm n) := fun a b => decidable_of_iff (∀ x, x < n → a.f x = b.f x)
  ⟨fun h => Pm.ext fun x => by
    by_cases hx : x < n
    · exact h x hx
    · rw [a.out x (by omega), b.out x (by omega)], fun h x _ => by rw [h]⟩
theorem take_snoc {α : Type} {X : List α} {k : Nat} (hk : k < X.length) : X.take (k + 1) = X.take k ++ [X[k]] := by
  rw [List.take_add_one, List.getElem?_eq_getElem hk]
  rfl
theorem beq_sA {n : Nat} (hn : n ≤ 8) (s t : Pm n) : (sA s == sA t) = decide (s = t) := by
  rw [Bool.eq_iff_iff, beq_iff_eq, decide_eq_true_eq, sA_eq hn]
theorem bk_snoc {G : Type} [Grp G] [DecidableEq G] : ∀ (m : List G) (x : G), Lat.bk (m ++ [x]) = if x = 1 then Lat.bk m else m ++ [x]
  | [], x => by
    simp only [List.nil_append, Lat.bk]
  | a :: m, x => by
    have ih := bk_snoc m x
    show Lat.bk (a :: (m ++ [x])) = _
    unfold Lat.bk
    rw [ih]
    by_cases h : x = 1
    · simp only [if_pos h]
    · simp only [if_neg h]
      cases m <;> rfl
theorem fr_drop {G : Type} [Grp G] [DecidableEq G] (Γ : Lat G) : ∀ (l : List G), l.drop (Γ.fr l).1 = (Γ.fr l).2 ∧ (Γ.fr l).1 ≤ l.length
  | [] => by simp [Lat.fr]
  | a :: l => by
    have ih := fr_drop Γ l
    unfold Lat.fr
    by_cases h : a = Γ.D
    · simp only [if_pos h, List.drop_succ_cons, List.length_cons]
      exact ⟨ih.1, by omega⟩
    · simp only [if_neg h]
      simp
theorem meetK {n : Nat} (h1 : 1 ≤ n) (a b : Pm n) : meetP (a⁻¹ * whP n) b = (latP n h1).meet ((latP n h1).K a) b := rfl
theorem cur_get {n : Nat} {X : List (Pm n)} {k : Nat} (hk : k < X.length) (b : Pm n) (m : List (Pm n)) :
    ∃ (h1 : k < (X.take (k + 1) ++ b :: m).length) (h2 : k + 1 < (X.take (k + 1) ++ b :: m).length), (X.take (k + 1) ++ b :: m)[k] = X[k] ∧ (X.take (k + 1) ++ b :: m)[k + 1] = b := by
  have e : (X.take (k + 1)).length = k + 1 := by simp; omega
  refine ⟨by simp; omega, by simp; omega, ?_, ?_⟩
  · rw [List.getElem_append_left (by omega)]
    simp
  · rw [List.getElem_append_right (by omega)]
    simp [e]
theorem cur_set {n : Nat} {X : List (Pm n)} {k : Nat} (hk : k < X.length) (b x y : Pm n) (m : List (Pm n)) :
    ((X.take (k + 1) ++ b :: m).set k x).set (k + 1) y = X.take k ++ x :: y :: m := by
  have e : X.take (k + 1) = X.take k ++ [X[k]] := take_snoc hk
  have e1 : (X.take k).length = k := by simp; omega
  rw [e, List.append_assoc]
  rw [List.set_append_right _ _ (by omega), e1, Nat.sub_self]
  rw [List.set_append_right _ _ (by omega), e1, show k + 1 - k = 1 by omega]
  rfl
theorem pass_drop {n : Nat} (h1 : 1 ≤ n) {X : List (Pm n)} {k : Nat} (hk : k < X.length) : (latP n h1).pass (X.drop k) = (latP n h1).step1 X[k] ((latP n h1).pass (X.drop (k + 1))) := by
  rw [List.drop_eq_getElem_cons hk]
  rfl
abbrev Nm (n : Nat) := Int × List (Pm n)
def enc {n : Nat} (v : Nm n) : Int × Int × List (List Int) := ((n : Int), v.1, sL v.2)
theorem pass_stop {n : Nat} (h1 : 1 ≤ n) : ∀ (U : List (Pm n)) {Z m : List (Pm n)} {x : Pm n}, (latP n h1).Wd (U ++ [x]) → (latP n h1).pass Z = x :: m → (latP n h1).pass (U ++ Z) = U ++ (latP n h1).pass Z
  | [], Z, m, x, _, _ => rfl
  | u :: U, Z, m, x, hW, hZ => by
    have ih := pass_stop h1 U hW.2 hZ
    show (latP n h1).step1 u ((latP n h1).pass (U ++ Z)) = _
    rw [ih, hZ]
    cases U with
    | nil =>
      have := hW.1 x rfl
      simp only [List.nil_append, Lat.step1, this, Grp.mul_one, inv_one, Grp.one_mul]
      rfl
    | cons v U =>
      have := hW.1 v rfl
      simp only [List.cons_append, Lat.step1, this, Grp.mul_one, inv_one, Grp.one_mul]
theorem WdP_left {n : Nat} (h1 : 1 ≤ n) : ∀ {U V : List (Pm n)}, (latP n h1).Wd (U ++ V) → (latP n h1).Wd U
  | [], V, _ => trivial
  | u :: U, V, h => by
    refine ⟨fun b hb => h.1 b ?_, WdP_left h1 h.2⟩
    cases U with
    | nil => simp at hb
    | cons v U => exact hb
theorem c_put_5 (n : Nat) (h1 : 1 ≤ n) (hn : n ≤ 8) (A : List (Pm n)) (s : Pm n) (p : Int) (hA : A.length < 1000000) (hW : (latP n h1).Wd A) (hS : (latP n h1).AllS (A ++ [s])) : ∀ k, k ≤ A.length →
    R i__i_Dual__put_5 [tI (n : Int), tI p, tLA8 (sL ((A ++ [s]).take k ++ (latP n h1).pass ((A ++ [s]).drop k))), tI (n : Int), tI (k : Int)] = some [tI 0, tI (n : Int), tI p, tLA8 (sL ((latP n h1).pass (A ++ [s]))), tI (n : Int)] := by
  intro k
  induction k with
  | zero =>
    intro _
    apply v__i_Dual__put_5
    simp [b__i_Dual__put_5]
  | succ k ih =>
    intro hk
    have hlX : (A ++ [s]).length = A.length + 1 := by simp
    have hk' : k < (A ++ [s]).length := by omega
    have hlen := (latP n h1).pass_len (l := (A ++ [s]).drop (k + 1))
    have hd := pass_drop h1 hk'
    cases hp : (latP n h1).pass ((A ++ [s]).drop (k + 1)) with
    | nil =>
      rw [hp] at hlen
      simp at hlen
      omega
    | cons b m =>
      rw [hp] at hd
      have hSk : isP (A ++ [s])[k] := hS _ (List.getElem_mem hk')
      have hSb : isP b := by
        have h3 := Lat.pass_S (Γ := latP n h1) (l := (A ++ [s]).drop (k + 1)) (fun x hx => hS x (List.mem_of_mem_drop hx))
        rw [hp] at h3
        exact h3 b List.mem_cons_self
      have hSK : isP ((A ++ [s])[k]⁻¹ * whP n) := (latP n h1).S_K hSk
      obtain ⟨l1, l2, g1, g2⟩ := cur_get hk' b m
      have e1 : wi64 (((k + 1 : Nat) : Int) - 1) = (k : Int) := by rw [wrap_i64] <;> omega
      have len : ((A ++ [s]).take (k + 1) ++ b :: m).length = A.length + 1 := by
        rw [hp] at hlen
        simp at hlen ⊢
        omega
      have gg1 := sL_get (n := n) l1
      have gg2 := sL_get (n := n) l2
      rw [g1] at gg1
      rw [g2] at gg2
      have tk := take_snoc hk'
      by_cases hc : meetP ((A ++ [s])[k]⁻¹ * whP n) b = 1
      · have hst : (latP n h1).pass ((A ++ [s]).drop k) = (A ++ [s])[k] :: b :: m := by
          rw [hd, Lat.step1, ← meetK h1, hc, Grp.mul_one, inv_one, Grp.one_mul]
        have hWk : (latP n h1).Wd ((A ++ [s]).take k ++ [(A ++ [s])[k]]) := by
          rw [← tk, List.take_append_of_le_length (by omega)]
          rw [← List.take_append_drop (k + 1) A] at hW
          exact WdP_left h1 hW
        have hfin := pass_stop h1 _ hWk hst
        rw [List.take_append_drop, hst] at hfin
        have ecur : (A ++ [s]).take k ++ (A ++ [s])[k] :: b :: m = (A ++ [s]).take (k + 1) ++ b :: m := by
          rw [tk, List.append_assoc]
          rfl
        rw [ecur] at hfin
        apply v__i_Dual__put_5
        simp (disch := omega) only [b__i_Dual__put_5, decide_eq_true, cond_true, Bool.and_true, Int.toNat_natCast, sL_len, len, gg1, gg2, e1, c_complementPart n hn, c_meetP n h1 hn hSK hSb, c_finePart n hn, Option.bind_some, getTV_here, hc, beq_self_eq_true, hfin]
      · have hst : (latP n h1).pass ((A ++ [s]).drop k) = ((A ++ [s])[k] * meetP ((A ++ [s])[k]⁻¹ * whP n) b) :: ((meetP ((A ++ [s])[k]⁻¹ * whP n) b)⁻¹ * b) :: m := by
          rw [hd, Lat.step1, ← meetK h1]
        have ih' := ih (by omega)
        rw [hst] at ih'
        have e3 := cur_set hk' b ((A ++ [s])[k] * meetP ((A ++ [s])[k]⁻¹ * whP n) b) ((meetP ((A ++ [s])[k]⁻¹ * whP n) b)⁻¹ * b) m
        have l3 : k + 1 < (((A ++ [s]).take (k + 1) ++ b :: m).set k ((A ++ [s])[k] * meetP ((A ++ [s])[k]⁻¹ * whP n) b)).length := by rw [List.length_set]; exact l2
        have gg3 := sL_get (n := n) l3
        have g3 : (((A ++ [s]).take (k + 1) ++ b :: m).set k ((A ++ [s])[k] * meetP ((A ++ [s])[k]⁻¹ * whP n) b))[k + 1] = b := by
          rw [List.getElem_set_ne (by omega), g2]
        rw [g3] at gg3
        apply v__i_Dual__put_5
        have hb : (sA (meetP ((A ++ [s])[k]⁻¹ * whP n) b) == sA (1 : Pm n)) = false := by rw [beq_sA hn]; simpa using hc
        simp (disch := omega) only [b__i_Dual__put_5, decide_eq_true, cond_true, cond_false, Bool.and_true, Int.toNat_natCast, sL_len, List.length_set, len, gg1, gg2, e1, c_complementPart n hn, c_meetP n h1 hn hSK hSb, c_finePart n hn, Option.bind_some, getTV_here, hb, c_thenPart n hn, c_backPart n hn, sL_set, gg3, e3]
        exact ih'
theorem c_put_11 (n : Nat) (h1 : 1 ≤ n) (hn : n ≤ 8) : ∀ (Y : List (Pm n)) (p : Int), -1000000000 ≤ p → p + Y.length ≤ 1001000000 → Y.length < 1000000 →
    R i__i_Dual__put_11 [tI (n : Int), tI p, tLA8 (sL Y), tI (n : Int)] = some [tI 0, tI (n : Int), tI (p + (((latP n h1).fr Y).1 : Nat)), tLA8 (sL ((latP n h1).fr Y).2), tI (n : Int)]
  | [], p, _, _, _ => by
    apply v__i_Dual__put_11
    simp [b__i_Dual__put_11, sL_nil, Lat.fr]
  | a :: Y, p, q1, h2, h3 => by
    simp only [List.length_cons] at h2 h3
    have ih := c_put_11 n h1 hn Y (p + 1) (by omega) (by omega) (by omega)
    have l0 : 0 < (sL (a :: Y)).length := by simp [sL]
    have e0 : List.getD (sL (a :: Y)) 0 (List.replicate 8 0) = sA a := rfl
    have e1 : List.drop 1 (sL (a :: Y)) = sL Y := rfl
    apply v__i_Dual__put_11
    simp (disch := omega) only [b__i_Dual__put_11, decide_eq_true, cond_true, e0, e1, c_wholePart n hn, Option.bind_some, getTV_here, beq_sA hn, wrap_i64]
    unfold Lat.fr
    by_cases h : a = whP n
    · have h' : a = (latP n h1).D := h
      rw [decide_eq_true h, cond_true, if_pos h', ih]
      simp only
      rw [show p + 1 + (((latP n h1).fr Y).1 : Int) = p + ((((latP n h1).fr Y).1 + 1 : Nat) : Int) by omega]
    · have h' : ¬ a = (latP n h1).D := h
      rw [decide_eq_false h, cond_false, if_neg h']
      simp
theorem c_put_14 (n : Nat) (hn : n ≤ 8) (p : Int) : ∀ (k : Nat) (Y : List (Pm n)), Y.length = k → Y.length < 2000000 →
    R i__i_Dual__put_14 [tI (n : Int), tI p, tLA8 (sL Y), tI (n : Int)] = some [tI 0, tI (n : Int), tI p, tLA8 (sL (Lat.bk Y))] := by
  intro k
  induction k with
  | zero =>
    intro Y hk _
    have : Y = [] := List.length_eq_zero_iff.1 hk
    subst this
    apply v__i_Dual__put_14
    simp [b__i_Dual__put_14, sL_nil, Lat.bk]
  | succ k ih =>
    intro Y hk hl
    have h0 : k < Y.length := by omega
    have e : Y = Y.take k ++ [Y[k]] := by
      rw [← take_snoc h0, List.take_of_length_le (by omega)]
    have e1 : wi64 (((sL Y).length : Nat) - 1) = (k : Int) := by rw [sL_len, wrap_i64] <;> omega
    have l0 : ((0 : Int) < ((sL Y).length : Nat)) := by rw [sL_len]; omega
    have l1 : ((k : Int) < ((sL Y).length : Nat)) := by rw [sL_len]; omega
    have ih' := ih (Y.take k) (by simp; omega) (by simp; omega)
    apply v__i_Dual__put_14
    simp (disch := omega) only [b__i_Dual__put_14, e1, decide_eq_true, cond_true, Bool.and_true, Int.toNat_natCast, sL_get h0, c_finePart n hn, Option.bind_some, getTV_here, beq_sA hn, sL_take]
    have hb : Lat.bk Y = if Y[k] = 1 then Lat.bk (Y.take k) else Y := by
      have h1 := bk_snoc (Y.take k) Y[k]
      rw [← e] at h1
      exact h1
    rw [hb]
    by_cases h : Y[k] = 1
    · rw [decide_eq_true h, cond_true, if_pos h, ih']
    · rw [decide_eq_false h, cond_false, if_neg h]
end Go.Ev.Yteclcmiopobnaaa.P
