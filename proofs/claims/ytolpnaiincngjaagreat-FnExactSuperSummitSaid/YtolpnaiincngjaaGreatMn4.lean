/- Normal forms made by both packages. -/
import Derived.Test.YtolpnaiincngjaaGreatMn3
set_option linter.unusedVariables false
set_option linter.unusedSimpArgs false
namespace Go.Ev.YtolpnaiincngjaaGreat
open Go.Ev Go.Gar
theorem bk_snoc {G : Type} [Grp G] [DecidableEq G] : ∀ (m : List G) (x : G), Lat.bk (m ++ [x]) = if x = 1 then Lat.bk m else m ++ [x]
  | [], x => by
    simp only [List.nil_append, Lat.bk]
  | a :: m, x => by
    have ih := bk_snoc m x
    show Lat.bk (a :: (m ++ [x])) = _
    unfold Lat.bk
    rw [ih]
    by_cases h : x = 1
    · simp only [if_pos h]
    · simp only [if_neg h]
      cases m <;> rfl
theorem bk_len {G : Type} [Grp G] [DecidableEq G] : ∀ (m : List G), (Lat.bk m).length ≤ m.length
  | [] => by simp [Lat.bk]
  | a :: m => by
    have ih := bk_len m
    unfold Lat.bk
    cases h : Lat.bk m with
    | nil =>
      simp only
      split <;> simp
    | cons b k =>
      rw [h] at ih
      simp at ih ⊢
      exact ih
theorem bk_take {G : Type} [Grp G] [DecidableEq G] : ∀ (m : List G), Lat.bk m = m.take (Lat.bk m).length
  | [] => rfl
  | a :: m => by
    have ih := bk_take m
    unfold Lat.bk
    cases h : Lat.bk m with
    | nil =>
      simp only
      split <;> simp
    | cons b k =>
      rw [h] at ih
      simp only [List.length_cons, List.take_succ_cons] at ih ⊢
      rw [← ih]
theorem fr_drop {G : Type} [Grp G] [DecidableEq G] (Γ : Lat G) : ∀ (l : List G), l.drop (Γ.fr l).1 = (Γ.fr l).2 ∧ (Γ.fr l).1 ≤ l.length
  | [] => by simp [Lat.fr]
  | a :: l => by
    have ih := fr_drop Γ l
    unfold Lat.fr
    by_cases h : a = Γ.D
    · simp only [if_pos h, List.drop_succ_cons, List.length_cons]
      exact ⟨ih.1, by omega⟩
    · simp only [if_neg h]
      simp
theorem c_l03Make_4 (n : Nat) (hn : n ≤ 8) (Y : List (Pm n)) (hY : Y.length < 1000000) (a b : Int) (u : List (List Int)) : ∀ (d i : Nat) (p : Int), i + d = Y.length → -1000000000 ≤ p → p ≤ 1000000000 →
    R is_l03Make_4 [tLA8 (sL Y), tI a, tI b, tLA8 u, tI (n : Int), tI p, tI (i : Int), tI (Y.length : Int)] =
      some [tI 0, tLA8 (sL Y), tI a, tI b, tLA8 u, tI (n : Int), tI (p + (((Pm.lat n).fr (Y.drop i)).1 : Nat)), tI ((i + ((Pm.lat n).fr (Y.drop i)).1 : Nat) : Int), tI (Y.length : Int)] := by
  suffices ∀ (d i : Nat) (p : Int), i + d = Y.length → -1000000000 ≤ p → p + d ≤ 1001000000 →
      R is_l03Make_4 [tLA8 (sL Y), tI a, tI b, tLA8 u, tI (n : Int), tI p, tI (i : Int), tI (Y.length : Int)] =
      some [tI 0, tLA8 (sL Y), tI a, tI b, tLA8 u, tI (n : Int), tI (p + (((Pm.lat n).fr (Y.drop i)).1 : Nat)), tI ((i + ((Pm.lat n).fr (Y.drop i)).1 : Nat) : Int), tI (Y.length : Int)] by
    intro d i p h1 h2 h3
    exact this d i p h1 h2 (by omega)
  intro d
  induction d with
  | zero =>
    intro i p hi hp hp'
    apply vs_l03Make_4
    have h1 : ¬ ((i : Int) < (Y.length : Int)) := by omega
    rw [List.drop_of_length_le (by omega)]
    simp only [bs_l03Make_4, decide_eq_false h1, cond_false, Lat.fr]
    simp
  | succ d ih =>
    intro i p hi hp hp'
    have h0 : i < Y.length := by omega
    apply vs_l03Make_4
    rw [List.drop_eq_getElem_cons h0]
    simp (disch := omega) only [bs_l03Make_4, decide_eq_true, cond_true, Bool.and_true, Int.toNat_natCast, sL_len, sL_get h0, c_l02Half n hn, Option.bind_some, getTV_here, beq_sA hn, wrap_i64]
    unfold Lat.fr
    by_cases h : Y[i] = Pm.half n
    · have h' : Y[i] = (Pm.lat n).D := h
      rw [decide_eq_true h, cond_true, if_pos h', show (i : Int) + 1 = ((i + 1 : Nat) : Int) by omega, ih (i + 1) (p + 1) (by omega) (by omega) (by omega)]
      simp only
      rw [show p + 1 + (((Pm.lat n).fr (Y.drop (i + 1))).1 : Int) = p + ((((Pm.lat n).fr (Y.drop (i + 1))).1 + 1 : Nat) : Int) by omega, show i + 1 + ((Pm.lat n).fr (Y.drop (i + 1))).1 = i + (((Pm.lat n).fr (Y.drop (i + 1))).1 + 1) by omega]
    · have h' : ¬ Y[i] = (Pm.lat n).D := h
      rw [decide_eq_false h, cond_false, if_neg h']
      simp
theorem c_l03Make_7 (n : Nat) (hn : n ≤ 8) (Y : List (Pm n)) (hY : Y.length < 1000000) (a b p : Int) (u : List (List Int)) (i : Nat) : ∀ (d : Nat), i + d ≤ Y.length →
    R is_l03Make_7 [tLA8 (sL Y), tI a, tI b, tLA8 u, tI (n : Int), tI p, tI (i : Int), tI ((i + d : Nat) : Int)] =
      some [tI 0, tLA8 (sL Y), tI a, tI b, tLA8 u, tI (n : Int), tI p, tI (i : Int), tI ((i + (Lat.bk ((Y.drop i).take d)).length : Nat) : Int)] := by
  intro d
  induction d with
  | zero =>
    intro hd
    apply vs_l03Make_7
    simp [bs_l03Make_7, Lat.bk]
  | succ d ih =>
    intro hd
    have h0 : i + d < Y.length := by omega
    apply vs_l03Make_7
    have e1 : wi64 (((i + (d + 1) : Nat) : Int) - 1) = ((i + d : Nat) : Int) := by rw [wrap_i64] <;> omega
    have e2 : (Y.drop i).take (d + 1) = (Y.drop i).take d ++ [Y[i + d]] := by
      have : d < (Y.drop i).length := by simp; omega
      rw [take_snoc this]
      simp
    simp (disch := omega) only [bs_l03Make_7, decide_eq_true, cond_true, Bool.and_true, Int.toNat_natCast, sL_len, e1, sL_get h0, c_l02Same n hn, Option.bind_some, getTV_here, beq_sA hn]
    rw [e2, bk_snoc]
    by_cases h : Y[i + d] = 1
    · rw [decide_eq_true h, cond_true, if_pos h, ih (by omega)]
    · rw [decide_eq_false h, cond_false, if_neg h]
      have : ((Y.drop i).take d ++ [Y[i + d]]).length = d + 1 := by simp; omega
      rw [this]
/-- A normal form: the power and the factors. -/
abbrev Nm (n : Nat) := Int × List (Pm n)
def enc {n : Nat} (v : Nm n) : Int × Int × List (List Int) := ((n : Int), v.1, sL v.2)
noncomputable def mk {n : Nat} (p : Int) (l : List (Pm n)) : Nm n := (p + (((Pm.lat n).norm l).1 : Nat), ((Pm.lat n).norm l).2)
theorem half_ne {n : Nat} (h : 2 ≤ n) : (Pm.lat n).D ≠ 1 := by
  intro e
  have := congrArg (fun s : Pm n => s.f 0) e
  change Pm.hf n 0 = 0 at this
  unfold Pm.hf at this
  split at this <;> omega
theorem mk_nil {n : Nat} (p : Int) : mk p ([] : List (Pm n)) = (p, []) := by
  simp [mk, Lat.norm, Lat.nf, Lat.fr, Lat.bk]
theorem c_l03Make (n : Nat) (hn1 : 1 ≤ n) (hn : n ≤ 8) (l : List (Pm n)) (hl : l.length < 1000000) (h1 : n = 1 → l = []) (p : Int) (hp : -1000000000 ≤ p) (hp' : p ≤ 1000000000) :
    R is_l03Make [tI (n : Int), tI p, tLA8 (sL l)] = some [tPIPILA8 (enc (mk p l))] := by
  apply vs_l03Make
  have hlen := (Pm.lat n).nf_len (l := l)
  by_cases h2 : n = 1
  · have := h1 h2
    subst this
    have hnf : (Pm.lat n).nf [] = [] := rfl
    have h7 := c_l03Make_7 n hn [] (by simp) 0 0 p [] 0 0 (by simp)
    have h3 : ¬ ((1 : Int) < (n : Int)) := by omega
    simp only [Int.natCast_zero, Nat.zero_add] at h7
    have hw := c_l03Weigh n hn [] (by simp)
    rw [hnf, sL_nil] at hw
    have hb : Lat.bk ([] : List (Pm n)) = [] := rfl
    simp only [sL_nil, List.drop_nil, List.take_nil, hb, List.length_nil, Int.natCast_zero] at h7
    simp only [bs_l03Make, sL_nil, hw, Option.bind_some, getTV_here, getTV_next, decide_eq_false h3, cond_false, List.length_nil, Int.natCast_zero, h7, Int.toNat_zero, List.take_nil, List.drop_nil, mk_nil, enc]
    rfl
  · have h3 : ((1 : Int) < (n : Int)) := by omega
    have h4 := c_l03Make_4 n hn ((Pm.lat n).nf l) (by omega) 0 0 [] ((Pm.lat n).nf l).length 0 p (by omega) hp hp'
    have hf := fr_drop (Pm.lat n) ((Pm.lat n).nf l)
    have h7 := c_l03Make_7 n hn ((Pm.lat n).nf l) (by omega) 0 0 (p + (((Pm.lat n).fr ((Pm.lat n).nf l)).1 : Nat)) [] ((Pm.lat n).fr ((Pm.lat n).nf l)).1 (((Pm.lat n).nf l).length - ((Pm.lat n).fr ((Pm.lat n).nf l)).1) (by omega)
    rw [hf.1, show ((Pm.lat n).fr ((Pm.lat n).nf l)).1 + (((Pm.lat n).nf l).length - ((Pm.lat n).fr ((Pm.lat n).nf l)).1) = ((Pm.lat n).nf l).length by omega] at h7
    have hfl : ((Pm.lat n).fr ((Pm.lat n).nf l)).2.length = ((Pm.lat n).nf l).length - ((Pm.lat n).fr ((Pm.lat n).nf l)).1 := by rw [← hf.1]; simp
    rw [List.take_of_length_le (by omega)] at h7
    simp only [List.drop_zero, Nat.zero_add, Int.natCast_zero] at h4
    have hb := bk_len ((Pm.lat n).fr ((Pm.lat n).nf l)).2
    have ht := bk_take ((Pm.lat n).fr ((Pm.lat n).nf l)).2
    have e1 : List.drop ((Pm.lat n).fr ((Pm.lat n).nf l)).1 (List.take (((Pm.lat n).fr ((Pm.lat n).nf l)).1 + (Lat.bk ((Pm.lat n).fr ((Pm.lat n).nf l)).2).length) ((Pm.lat n).nf l)) = Lat.bk ((Pm.lat n).fr ((Pm.lat n).nf l)).2 := by
      rw [List.drop_take, hf.1, Nat.add_sub_cancel_left, ← ht]
    simp (disch := omega) only [bs_l03Make, c_l03Weigh n hn l hl, Option.bind_some, getTV_here, getTV_next, decide_eq_true, cond_true, Bool.and_true, sL_len, h4, h7, Int.toNat_natCast, sL_take, sL_drop, e1]
    rw [apOk0 (by rw [sL_len]; omega), cond_true]
    rfl
theorem trn_auto (n : Nat) : (Pm.lat n).Auto (fun s : Pm n => trn s) where
  mul x y := by
    have hh : ∀ z : Pm n, Pm.half n * (Pm.half n * z) = z := fun z => by rw [← Grp.assoc, Pm.half_half, Grp.one_mul]
    simp only [trn, Grp.assoc, hh]
  inv x := by
    unfold trn
    rw [mul_inv_rev, mul_inv_rev, Pm.half_inv, Grp.assoc]
  S _ _ := trivial
  meet x y _ _ := by
    have le_trn : ∀ {a b : Pm n}, a.le b → (trn a).le (trn b) := by
      intro a b h i j hij h1
      have hj := Pm.below hij h1
      simp only [trn, Pm.mul_f, Pm.half_f] at h1 ⊢
      have h2 : Pm.hf n j < Pm.hf n i := Pm.hf_anti hij hj
      have hb : ∀ s : Pm n, ∀ k, k < n → s.f (Pm.hf n k) < n := fun s k hk => s.lt (by unfold Pm.hf; split <;> omega)
      have h3 : a.f (Pm.hf n i) < a.f (Pm.hf n j) := by
        rcases Pm.hf_rev h1 with h4 | h4
        · exact h4
        · have := hb a i (by omega); omega
      have h4 := h _ _ h2 h3
      exact Pm.hf_anti h4 (hb b j hj)
    have tt : ∀ s : Pm n, trn (trn s) = s := by
      intro s
      unfold trn
      apply Pm.ext
      intro k
      simp only [Pm.mul_f, Pm.half_f, Pm.hf_hf]
    show trn (Pm.meet x y) = Pm.meet (trn x) (trn y)
    have g1 := Pm.meet_greedy x y
    have g2 := Pm.meet_greedy (trn x) (trn y)
    apply Pm.le_anti
    · exact g2.max (le_trn g1.la) (le_trn g1.lb)
    · have a1 := le_trn g2.la
      have a2 := le_trn g2.lb
      rw [tt] at a1 a2
      have := le_trn (g1.max a1 a2)
      rw [tt] at this
      exact this
  D := by
    show trn (Pm.half n) = Pm.half n
    unfold trn
    rw [Pm.half_half, Grp.one_mul]
  inj x y h := by
    have tt : ∀ s : Pm n, trn (trn s) = s := by
      intro s
      unfold trn
      apply Pm.ext
      intro k
      simp only [Pm.mul_f, Pm.half_f, Pm.hf_hf]
    have := congrArg trn h
    simp only [tt] at this
    exact this
/-- Turned k times. -/
def tk {n : Nat} (k : Int) (l : List (Pm n)) : List (Pm n) := if k.tmod 2 = 0 then l else l.map trn
theorem tk_len {n : Nat} (k : Int) (l : List (Pm n)) : (tk k l).length = l.length := by unfold tk; split <;> simp
end Go.Ev.YtolpnaiincngjaaGreat
