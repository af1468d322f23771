/- Dual forms of words: DualForm, EqualByBands, the laws. -/
import Derived.Test.YteclcmiopobnaaaMp14
import Derived.Test.YteclcmiopobnaaaMb4
set_option linter.unusedVariables false
set_option linter.unusedSimpArgs false
namespace Go.Ev.Yteclcmiopobnaaa.P
open Go.Ev.Yteclcmiopobnaaa
open Go.Ev Go.Gar
def swapN (n p : Nat) : Pm n := if h : p + 1 < n then Pm.swap n p h else 1
theorem swapN_eq {n p : Nat} (h : p + 1 < n) : swapN n p = Pm.swap n p h := dif_pos h
noncomputable def stepD {n : Nat} (h1 : 1 ≤ n) (v : Nm n) (x : Int) : Nm n :=
  if 0 < x then mk h1 v.1 (v.2 ++ [swapN n (x.natAbs - 1)]) else mk h1 (v.1 - 1) (v.2.map T ++ [whP n * (swapN n (x.natAbs - 1))⁻¹])
noncomputable def dOf (n : Nat) (h1 : 1 ≤ n) (w : List Int) : Nm n := w.foldl (stepD h1) (0, [])
structure OkD {n : Nat} (h1 : 1 ≤ n) (v : Nm n) (j : Nat) : Prop where
  P : (latP n h1).Proper v.2
  lo : -(j : Int) ≤ v.1
  hi : v.1 + v.2.length ≤ j
  len : v.2.length ≤ j
def Lw (n : Nat) (w : List Int) : Prop := ∀ x ∈ w, x ≠ 0 ∧ 1 - (n : Int) ≤ x ∧ x ≤ (n : Int) - 1
theorem turned_P {n : Nat} {h1 : 1 ≤ n} {A : List (Pm n)} (h : (latP n h1).Proper A) : (latP n h1).Proper (A.map T) := (T_auto n h1).Proper h
theorem stepD_ok {n : Nat} (h2 : 2 ≤ n) {h1 : 1 ≤ n} {v : Nm n} {j : Nat} (h : OkD h1 v j) {x : Int} (hx : x ≠ 0 ∧ 1 - (n : Int) ≤ x ∧ x ≤ (n : Int) - 1) : OkD h1 (stepD h1 v x) (j + 1) := by
  have a1 := h.lo
  have a2 := h.hi
  have a3 := h.len
  have hp : x.natAbs - 1 + 1 < n := by omega
  have hs : isP (swapN n (x.natAbs - 1)) := by rw [swapN_eq hp]; exact isP_swap hp
  unfold stepD
  split
  · have hm := mk_spec h2 h1 v.1 (snoc_S h.P.S hs)
    simp only [List.length_append, List.length_cons, List.length_nil] at hm
    exact ⟨hm.1, by omega, by omega, by omega⟩
  · have hm := mk_spec h2 h1 (v.1 - 1) (snoc_S (turned_P h.P).S (isP_left h1 hs))
    simp only [List.length_append, List.length_cons, List.length_nil, List.length_map] at hm
    exact ⟨hm.1, by omega, by omega, by omega⟩
theorem OkD.zero {n : Nat} (h1 : 1 ≤ n) : OkD h1 ((0, []) : Nm n) 0 := ⟨Lat.Proper.nil, by simp, by simp, by simp⟩
theorem fold_ok {n : Nat} (h2 : 2 ≤ n) {h1 : 1 ≤ n} : ∀ (l : List Int) {v : Nm n} {j : Nat}, Lw n l → OkD h1 v j → OkD h1 (l.foldl (stepD h1) v) (j + l.length)
  | [], v, j, _, h => h
  | x :: l, v, j, hl, h => by
    have := fold_ok h2 l (fun y hy => hl y (List.mem_cons_of_mem _ hy)) (stepD_ok h2 h (hl x List.mem_cons_self))
    rw [List.foldl_cons, List.length_cons, show j + (l.length + 1) = j + 1 + l.length by omega]
    exact this
/-! ### crossings of neighbours -/
theorem swap_arr {n p : Nat} (h : p + 1 < n) (hn : n ≤ 8) : List.set (List.set (sA (1 : Pm n)) p (((p + 1 : Nat) : Int))) (p + 1) ((p : Nat) : Int) = sA (Pm.swap n p h) := by
  have e1 : List.set (sA (1 : Pm n)) p (((p + 1 : Nat) : Int)) = A8 n (fun x => if x = p then p + 1 else x) := A8_set (show p < n by omega) hn
  rw [e1, A8_set h hn]
  apply A8_congr
  intro x _
  show _ = Pm.sf p x
  unfold Pm.sf
  by_cases h1 : x = p + 1
  · rw [if_pos h1, if_neg (by omega), if_pos h1]
  · rw [if_neg h1]
    by_cases h2 : x = p
    · rw [if_pos h2, if_pos h2]
    · rw [if_neg h2, if_neg h2, if_neg h1]
theorem c_nothing (n : Nat) (hn : n ≤ 8) : R ii_nothing [tI (n : Int)] = some [tA8 (sA (1 : Pm n))] := by
  have h := c_nothing_3 n hn (List.replicate 8 0) 0 (Nat.zero_le _)
  rw [one_zero] at h
  simp only [Int.natCast_zero] at h
  apply vi_nothing
  simp only [bi_nothing, h, Option.bind_some, getTV_here, getTV_next]
theorem c_exchange (n p : Nat) (h : p + 1 < n) (hn : n ≤ 8) : R ii_exchange [tI ((p + 1 : Nat) : Int), tI (n : Int)] = some [tA8 (sA (Pm.swap n p h))] := by
  have w : wi64 (((p + 1 : Nat) : Int) - 1) = (p : Int) := by rw [wrap_i64] <;> omega
  have g1 : List.getD (sA (1 : Pm n)) (p + 1) 0 = ((p + 1 : Nat) : Int) := sA_get h hn
  have g2 : List.getD (sA (1 : Pm n)) p 0 = ((p : Nat) : Int) := sA_get (by omega) hn
  have v1 : decide ((0 : Int) ≤ ((p + 1 : Nat) : Int)) = true := decide_eq_true (by omega)
  have v2 : decide (((p + 1 : Nat) : Int) < 8) = true := decide_eq_true (by omega)
  have v3 : decide ((0 : Int) ≤ (p : Int)) = true := decide_eq_true (by omega)
  have v4 : decide ((p : Int) < 8) = true := decide_eq_true (by omega)
  apply vi_exchange
  simp only [bi_exchange, c_nothing n hn, Option.bind_some, getTV_here, v1, v2, v3, v4, w, Bool.and_true, cond_true, Int.toNat_natCast, g1, g2, swap_arr h hn]
theorem c_size (x : Int) (h1 : -1000 ≤ x) (h2 : x ≤ 1000) : R ii_size [tI x] = some [tI (x.natAbs : Int)] := by
  apply vi_size
  have e0 : mx x (0 - x) = (x.natAbs : Int) := by
    unfold mx
    split <;> omega
  simp only [bi_size]
  rw [wrap_i64 (by omega) (by omega), e0]
/-! ### lists turned -/
theorem tl_step {n : Nat} (A : List (Pm n)) {k : Nat} (hk : k < A.length) : ((A.take k).map T ++ A.drop k).set k (T A[k]) = (A.take (k + 1)).map T ++ A.drop (k + 1) := by
  have hl : ((A.take k).map T).length = k := by simp; omega
  rw [List.drop_eq_getElem_cons hk, List.set_append_right _ _ (by omega), hl, Nat.sub_self, List.set_cons_zero]
  have e : A.take (k + 1) = A.take k ++ [A[k]] := take_snoc hk
  rw [e, List.map_append, List.append_assoc]
  rfl
theorem tl_get {n : Nat} (A : List (Pm n)) {k : Nat} (hk : k < A.length) : List.getD (sL ((A.take k).map T ++ A.drop k)) k (List.replicate 8 0) = sA A[k] := by
  have hl : ((A.take k).map T).length = k := by simp; omega
  have h2 : k < ((A.take k).map T ++ A.drop k).length := by simp; omega
  rw [sL_get h2]
  congr 1
  rw [List.getElem_eq_iff, List.getElem?_append_right (by omega), hl, Nat.sub_self, List.getElem?_drop, Nat.add_zero, List.getElem?_eq_getElem hk]
theorem tl_len {n : Nat} (A : List (Pm n)) (k : Nat) : ((A.take k).map T ++ A.drop k).length = A.length := by simp; omega
theorem c_putInverse_4 (n : Nat) (h1 : 1 ≤ n) (hn : n ≤ 8) (A : List (Pm n)) (hA : A.length < 1000000) (x0 x1 : Int) (x3 : List Int) : ∀ k, k ≤ A.length →
    R i__i_Dual__putInverse_4 [tI x0, tI x1, tLA8 (sL ((A.take k).map T ++ A.drop k)), tA8 x3, tI (n : Int), tI (A.length : Int), tI (k : Int)] = some [tI 0, tI x0, tI x1, tLA8 (sL (A.map T)), tA8 x3, tI (n : Int)] := by
  refine up_loop _ ?_ (fun k hk ih => ?_)
  · apply v__i_Dual__putInverse_4
    have h1 : ¬ ((A.length : Int) < (A.length : Int)) := by omega
    simp only [b__i_Dual__putInverse_4, decide_eq_false h1, cond_false, List.take_length, List.drop_length, List.append_nil]
  · apply v__i_Dual__putInverse_4
    have v1 : decide ((k : Int) < (A.length : Int)) = true := decide_eq_true (by omega)
    have v2 : decide ((0 : Int) ≤ (k : Int)) = true := decide_eq_true (by omega)
    have w : wi64 ((k : Int) + 1) = ((k + 1 : Nat) : Int) := by rw [wrap_i64] <;> omega
    simp only [b__i_Dual__putInverse_4, sL_len, tl_len, v1, v2, cond_true, Bool.and_true, Int.toNat_natCast, tl_get A hk, c_turnPartM n h1 hn, Option.bind_some, getTV_here, sL_set, tl_step A hk, w, ih]
theorem c_putInverse (n : Nat) (h2 : 2 ≤ n) (h1 : 1 ≤ n) (hn : n ≤ 8) (v : Nm n) (s : Pm n) (hs : isP s) (hP : (latP n h1).Proper v.2) (hl : v.2.length < 900000) (hp : -900000000 ≤ v.1) (hp' : v.1 ≤ 900000000) :
    R i__i_Dual__putInverse [tPIPILA8 (enc v), tA8 (sA s)] = some [tPIPILA8 (enc (mk h1 (v.1 - 1) (v.2.map T ++ [whP n * s⁻¹])))] := by
  have h4 := c_putInverse_4 n h1 hn v.2 (by omega) (n : Int) (v.1 - 1) (sA s) 0 (Nat.zero_le _)
  rw [List.take_zero, List.map_nil, List.nil_append, List.drop_zero] at h4
  have hput := c_putP n h2 h1 hn (v.1 - 1, v.2.map T) (whP n * s⁻¹) (isP_left h1 hs) (turned_P hP) (by simp only [List.length_map]; omega) (by simp only; omega) (by simp only; omega)
  have w : wi64 (v.1 - 1) = v.1 - 1 := by rw [wrap_i64] <;> omega
  simp only [Int.natCast_zero] at h4
  simp only [enc] at hput ⊢
  apply v__i_Dual__putInverse
  simp only [b__i_Dual__putInverse, w, sL_len, h4, Option.bind_some, getTV_here, getTV_next, c_wholePart n hn, c_backPart n hn, c_thenPart n hn, hput]
/-! ### words -/
theorem c_dualOf_3 (n : Nat) (h2 : 2 ≤ n) (h1 : 1 ≤ n) (hn : n ≤ 8) (w : List Int) (hw : Lw n w) (hl : w.length ≤ 200) (x2 x3 : Int) (x4 : List (List Int)) : ∀ (d i : Nat) (v : Nm n), i + d = w.length → OkD h1 v i →
    R ii_dualOf_3 [tI (n : Int), tLI w, tI x2, tI x3, tLA8 x4, tI (n : Int), tI v.1, tLA8 (sL v.2), tI (w.length : Int), tI (i : Int)] =
      some [tI 0, tI x2, tI x3, tLA8 x4, tI (n : Int), tI ((w.drop i).foldl (stepD h1) v).1, tLA8 (sL ((w.drop i).foldl (stepD h1) v).2)] := by
  intro d
  induction d with
  | zero =>
    intro i v hi hv
    apply vi_dualOf_3
    have h1 : ¬ ((i : Int) < (w.length : Int)) := by omega
    rw [List.drop_of_length_le (by omega)]
    simp only [bi_dualOf_3, decide_eq_false h1, cond_false, List.foldl_nil]
  | succ d ih =>
    intro i v hi hv
    have h0 : i < w.length := by omega
    have a1 := hv.lo
    have a2 := hv.hi
    have a3 := hv.len
    have hx := hw _ (List.getElem_mem h0)
    have b1 := hx.1
    have b2 := hx.2.1
    have b3 := hx.2.2
    have hp : w[i].natAbs - 1 + 1 < n := by omega
    have ih' := ih (i + 1) (stepD h1 v w[i]) (by omega) (stepD_ok h2 hv hx)
    have hz := c_size w[i] (by omega) (by omega)
    have ez : ((w[i].natAbs : Nat) : Int) = ((w[i].natAbs - 1 + 1 : Nat) : Int) := by omega
    have he := c_exchange n (w[i].natAbs - 1) hp hn
    rw [← ez] at he
    apply vi_dualOf_3
    rw [List.drop_eq_getElem_cons h0, List.foldl_cons]
    simp (disch := omega) only [bi_dualOf_3, decide_eq_true, cond_true, Bool.and_true, Int.toNat_natCast, getD_at h0, hz, he, Option.bind_some, getTV_here, wrap_i64]
    by_cases h : 0 < w[i]
    · have hput := c_putP n h2 h1 hn v (Pm.swap n _ hp) (isP_swap hp) hv.P (by omega) (by omega) (by omega)
      have es : stepD h1 v w[i] = mk h1 v.1 (v.2 ++ [Pm.swap n _ hp]) := by rw [stepD, if_pos h, swapN_eq hp]
      rw [es] at ih' ⊢
      simp only [enc] at hput
      simp only [decide_eq_true h, cond_true, hput, Option.bind_some, getTV_here]
      exact ih'
    · have hput := c_putInverse n h2 h1 hn v (Pm.swap n _ hp) (isP_swap hp) hv.P (by omega) (by omega) (by omega)
      have es : stepD h1 v w[i] = mk h1 (v.1 - 1) (v.2.map T ++ [whP n * (Pm.swap n _ hp)⁻¹]) := by rw [stepD, if_neg h, swapN_eq hp]
      rw [es] at ih' ⊢
      simp only [enc] at hput
      simp only [decide_eq_false h, cond_false, hput, Option.bind_some, getTV_here]
      exact ih'
theorem Lw_one {w : List Int} (hw : Lw 1 w) : w = [] := by
  cases w with
  | nil => rfl
  | cons x w =>
    have := hw x (by simp)
    omega
theorem c_dualOf (n : Nat) (h1 : 1 ≤ n) (hn : n ≤ 8) (w : List Int) (hw : Lw n w) (hl : w.length ≤ 200) : R ii_dualOf [tPILI ((n : Int), w)] = some [tPIPILA8 (enc (dOf n h1 w))] := by
  apply vi_dualOf
  by_cases h2 : 2 ≤ n
  · have h := c_dualOf_3 n h2 h1 hn w hw hl 0 0 [] w.length 0 (0, []) (by omega) (OkD.zero h1)
    simp only [sL_nil, Int.natCast_zero, List.drop_zero] at h
    simp only [bi_dualOf, h, Option.bind_some, getTV_here, getTV_next]
    rfl
  · have : n = 1 := by omega
    subst this
    have := Lw_one hw
    subst this
    have h : R ii_dualOf_3 [tI 1, tLI [], tI 0, tI 0, tLA8 [], tI 1, tI 0, tLA8 [], tI 0, tI 0] = some [tI 0, tI 0, tI 0, tLA8 [], tI 1, tI 0, tLA8 []] := by
      apply vi_dualOf_3
      simp [bi_dualOf_3]
    simp [bi_dualOf, h, dOf, enc, sL_nil]
theorem dOf_len {n : Nat} (h1 : 1 ≤ n) (w : List Int) (hw : Lw n w) (hl : w.length ≤ 200) : (dOf n h1 w).2.length ≤ 200 := by
  by_cases h2 : 2 ≤ n
  · have := (fold_ok h2 w hw (OkD.zero h1)).len
    unfold dOf
    omega
  · have : n = 1 := by omega
    subst this
    have := Lw_one hw
    subst this
    simp [dOf]
theorem isBr_Lw {b : Int × List Int} (h : isBr b = true) : ∃ n : Nat, b.1 = n ∧ 1 ≤ n ∧ n ≤ 8 ∧ b.2.length ≤ 200 ∧ Lw n b.2 := by
  have hk := isBr_ok h
  refine ⟨b.1.toNat, by omega, by omega, by omega, hk.2.2.1, fun x hx => ?_⟩
  have := hk.2.2.2 x hx
  omega
theorem sL_8 {n : Nat} (l : List (Pm n)) : Len8 (sL l) := fun x hx => by
  obtain ⟨s, _, rfl⟩ := List.mem_map.1 hx
  exact sA_len s
end Go.Ev.Yteclcmiopobnaaa.P
