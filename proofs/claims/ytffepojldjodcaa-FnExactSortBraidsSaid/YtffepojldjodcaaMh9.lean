/- The law SortBraids: ranks. -/
import Derived.Test.YtffepojldjodcaaMh8
set_option linter.unusedVariables false
set_option linter.unusedSimpArgs false
namespace Go.Ev.Ytffepojldjodcaa
open Go.Ev
/-- Letters of a braid of a list. -/
def la (l : BL) (i : Nat) : List Int := (List.getD l i (0, [])).2
def rk1 (l : BL) (i k : Nat) (r : List Int) : List Int := if 0 < (cmpOf (la l k) (la l i)).1 then r.set k (List.getD r k 0 + 1) else r.set i (List.getD r i 0 + 1)
def rkIn (l : BL) (i : Nat) : Nat → Nat → List Int → Option (List Int)
  | 0, _, r => some r
  | d + 1, k, r => if (cmpOf (la l k) (la l i)).2 = 0 then rkIn l i d (k + 1) (rk1 l i k r) else none
def rkOut (l : BL) : Nat → Nat → List Int → Option (List Int)
  | 0, _, r => some r
  | d + 1, i, r => (rkIn l i i 0 r).bind (rkOut l d (i + 1))
def bd (i k j : Nat) : Int := if j < i then (i : Int) - 1 + (if j < k then 1 else 0) else if j = i then k else 0
def Bd (n i k : Nat) (r : List Int) : Prop := r.length = n ∧ ∀ j, j < n → 0 ≤ List.getD r j 0 ∧ List.getD r j 0 ≤ bd i k j
theorem getD_set' (r : List Int) (a j : Nat) (v : Int) (ha : a < r.length) : List.getD (r.set a v) j 0 = if a = j then v else List.getD r j 0 := by
  simp only [List.getD_eq_getElem?_getD, List.getElem?_set]
  by_cases h : a = j
  · subst h
    simp [ha]
  · simp [h]
theorem Bd.small {n i k : Nat} {r : List Int} (h : Bd n i k r) (hn : n ≤ 10) (hi : i ≤ n) (hk : k ≤ i) {j : Nat} (hj : j < n) : 0 ≤ List.getD r j 0 ∧ List.getD r j 0 ≤ 100 := by
  obtain ⟨h1, h2⟩ := h.2 j hj
  refine ⟨h1, Int.le_trans h2 ?_⟩
  unfold bd
  split
  · split <;> omega
  · split <;> omega
theorem Bd.step {n i k : Nat} {r : List Int} {l : BL} (h : Bd n i k r) (hk : k < i) (hi : i < n) : Bd n i (k + 1) (rk1 l i k r) := by
  obtain ⟨h1, h2⟩ := h
  unfold rk1
  split
  · refine ⟨by simp [h1], fun j hj => ?_⟩
    rw [getD_set' r k j _ (by omega)]
    obtain ⟨a, b⟩ := h2 j hj
    by_cases e : k = j
    · subst e
      rw [if_pos rfl]
      unfold bd at b ⊢
      rw [if_pos hk, if_neg (by omega)] at b
      rw [if_pos hk, if_pos (by omega)]
      omega
    · rw [if_neg e]
      refine ⟨a, Int.le_trans b ?_⟩
      unfold bd
      split
      · split
        · rw [if_pos (by omega)]; exact Int.le_refl _
        · split <;> omega
      · split <;> omega
  · refine ⟨by simp [h1], fun j hj => ?_⟩
    rw [getD_set' r i j _ (by omega)]
    obtain ⟨a, b⟩ := h2 j hj
    by_cases e : i = j
    · subst e
      rw [if_pos rfl]
      unfold bd at b ⊢
      rw [if_neg (by omega), if_pos rfl] at b
      rw [if_neg (by omega), if_pos rfl]
      omega
    · rw [if_neg e]
      refine ⟨a, Int.le_trans b ?_⟩
      unfold bd
      split
      · split
        · rw [if_pos (by omega)]; exact Int.le_refl _
        · split <;> omega
      · split <;> omega
theorem Bd.next {n i : Nat} {r : List Int} (h : Bd n i i r) : Bd n (i + 1) 0 r := by
  refine ⟨h.1, fun j hj => ?_⟩
  obtain ⟨a, b⟩ := h.2 j hj
  refine ⟨a, Int.le_trans b ?_⟩
  unfold bd
  (repeat' split) <;> omega
theorem rkIn_Bd {n : Nat} {l : BL} {i : Nat} (hi : i < n) : ∀ {d k : Nat} {r r' : List Int}, rkIn l i d k r = some r' → k + d = i → Bd n i k r → Bd n i i r' := by
  intro d
  induction d with
  | zero =>
    intro k r r' h hk hB
    simp only [rkIn, Option.some.injEq] at h
    subst h
    have : k = i := by omega
    subst this
    exact hB
  | succ d ih =>
    intro k r r' h hk hB
    simp only [rkIn] at h
    split at h
    · exact ih h (by omega) (hB.step (by omega) hi)
    · simp at h
theorem rkOut_Bd {n : Nat} {l : BL} : ∀ {d i : Nat} {r r' : List Int}, rkOut l d i r = some r' → i + d = n → Bd n i 0 r → Bd n n 0 r' := by
  intro d
  induction d with
  | zero =>
    intro i r r' h hi hB
    simp only [rkOut, Option.some.injEq] at h
    subst h
    have : i = n := by omega
    subst this
    exact hB
  | succ d ih =>
    intro i r r' h hi hB
    simp only [rkOut, Option.bind_eq_some_iff] at h
    obtain ⟨r1, h1, h2⟩ := h
    exact ih h2 (by omega) (rkIn_Bd (by omega) h1 (by omega) hB).next
theorem getD_app (r z : List Int) {i : Nat} (hi : i < r.length) : List.getD (r ++ z) i 0 = List.getD r i 0 := by
  simp [List.getD_eq_getElem?_getD, List.getElem?_append_left hi]
theorem set_app (r z : List Int) {i : Nat} (v : Int) (hi : i < r.length) : (r ++ z).set i v = r.set i v ++ z := List.set_append_left _ _ hi
def Brs (l : BL) : Prop := l.length ≤ 10 ∧ ∀ b ∈ l, isBr b = true
theorem Brs.at {l : BL} (h : Brs l) {i : Nat} (hi : i < l.length) : Lt (la l i) ∧ (la l i).length ≤ 200 := by
  have e : List.getD l i (0, []) = l[i] := by simp [List.getD_eq_getElem?_getD, List.getElem?_eq_getElem hi]
  have := h.2 l[i] (List.getElem_mem hi)
  unfold la
  rw [e]
  exact ⟨isBr_Lt this, isBr_len this⟩
theorem code3 {u v : List Int} (h : ¬ (cmpOf u v).2 = 0) : (cmpOf u v).2 = 3 := by
  rcases cmpOf_code u v with g | g
  · exact absurd g h
  · rw [g]
/-! ### the reference -/
theorem c_SortBraids_18 (l : BL) (hb : Brs l) (z : List Int) (i : Nat) (hi : i < l.length) : ∀ (d k : Nat) (r : List Int), k + d = i → Bd l.length i k r →
    R is_SortBraids_18 [tLPILI l, tAi10 (r ++ z), tI (i : Int), tI (k : Int)] = some (match rkIn l i d k r with | some r' => [tI 0, tLPILI l, tAi10 (r' ++ z), tI (i : Int)] | none => [tI 1, tLI [], tI 3]) := by
  intro d
  have hn := hb.1
  induction d with
  | zero =>
    intro k r hk hB
    have : k = i := by omega
    subst this
    apply vs_SortBraids_18
    simp [bs_SortBraids_18, rkIn]
  | succ d ih =>
    intro k r hk hB
    obtain ⟨b1, b2⟩ := hb.at (i := i) hi
    obtain ⟨b3, b4⟩ := hb.at (i := k) (by omega)
    have hst := hB.step (l := l) (by omega) hi
    have hlen := hB.1
    have hsi := hB.small hn (by omega) (by omega) hi
    have hsk := hB.small hn (by omega) (by omega) (j := k) (by omega)
    have this := ih (k + 1) (rk1 l i k r) (by omega) hst
    have ek : (List.getD l k (0, [])).2 = la l k := rfl
    have ei : (List.getD l i (0, [])).2 = la l i := rfl
    apply vs_SortBraids_18
    simp (disch := omega) only [bs_SortBraids_18, decide_eq_true, cond_true, Bool.and_true, Int.toNat_natCast, ek, ei, c_l06Compare (la l k) (la l i) b3 b1 (by omega) (by omega), Option.bind_some, getTV_next, getTV_here, rkIn]
    by_cases hc : (cmpOf (la l k) (la l i)).2 = 0
    · have e1 : ((cmpOf (la l k) (la l i)).2 == 0) = true := by simp [hc]
      simp only [e1, Bool.not_true, cond_false, if_pos hc]
      rw [← this]
      by_cases hp : 0 < (cmpOf (la l k) (la l i)).1
      · simp (disch := omega) only [rk1, if_pos hp, decide_eq_false, cond_false, getD_app, set_app, wrap_i64, Int.natCast_add, Int.cast_ofNat_Int]
      · simp (disch := omega) only [rk1, if_neg hp, decide_eq_true, cond_true, getD_app, set_app, wrap_i64, Int.natCast_add, Int.cast_ofNat_Int]
    · have e1 : ((cmpOf (la l k) (la l i)).2 == 0) = false := by simp [hc]
      simp only [e1, Bool.not_false, cond_true, if_neg hc]
theorem c_SortBraids_15 (l : BL) (hb : Brs l) (z : List Int) : ∀ (d i : Nat) (r : List Int), i + d = l.length → Bd l.length i 0 r →
    R is_SortBraids_15 [tLPILI l, tAi10 (r ++ z), tI (i : Int)] = some (match rkOut l d i r with | some r' => [tI 0, tLPILI l, tAi10 (r' ++ z)] | none => [tI 1, tLI [], tI 3]) := by
  intro d
  have hn := hb.1
  induction d with
  | zero =>
    intro i r hi hB
    have : i = l.length := by omega
    subst this
    apply vs_SortBraids_15
    simp [bs_SortBraids_15, rkOut]
  | succ d ih =>
    intro i r hi hB
    have hin := c_SortBraids_18 l hb z i (by omega) i 0 r (by omega) hB
    simp only [Int.natCast_zero] at hin
    apply vs_SortBraids_15
    simp (disch := omega) only [bs_SortBraids_15, decide_eq_true, cond_true, hin, Option.bind_some, rkOut]
    cases h : rkIn l i i 0 r with
    | none => simp
    | some r' =>
      have this := ih (i + 1) r' (by omega) (rkIn_Bd (by omega) h (by omega) hB).next
      simp (disch := omega) only [getTV_here, getTV_next, beq_self_eq_true, cond_true, wrap_i64, Option.bind_some]
      rw [← this]
      simp
def wrO (r : List Int) : Nat → Nat → List Int → List Int
  | 0, _, o => o
  | d + 1, i, o => wrO r d (i + 1) (o.set (List.getD r i 0).toNat (i : Int))
theorem wrO_len (r : List Int) : ∀ (d i : Nat) (o : List Int), (wrO r d i o).length = o.length := by
  intro d
  induction d with
  | zero => intro i o; rfl
  | succ d ih => intro i o; simp [wrO, ih]
theorem c_SortBraids_28 (l : BL) (hn : l.length ≤ 10) (r z : List Int) (hr : r.length = l.length) (hB : ∀ j, j < l.length → 0 ≤ List.getD r j 0 ∧ List.getD r j 0 < (l.length : Int)) : ∀ (d i : Nat) (o : List Int), i + d = l.length → o.length = l.length →
    R is_SortBraids_28 [tLPILI l, tAi10 (r ++ z), tLI o, tI (i : Int)] = some [tI 0, tLI (wrO r d i o)] := by
  intro d
  induction d with
  | zero =>
    intro i o hi ho
    have : i = l.length := by omega
    subst this
    apply vs_SortBraids_28
    simp [bs_SortBraids_28, wrO]
  | succ d ih =>
    intro i o hi ho
    have hs := hB i (by omega)
    have this := ih (i + 1) (o.set (List.getD r i 0).toNat (i : Int)) (by omega) (by simp [ho])
    apply vs_SortBraids_28
    simp (disch := omega) only [bs_SortBraids_28, decide_eq_true, cond_true, Bool.and_true, Int.toNat_natCast, getD_app, wrap_i64]
    rw [show (i : Int) + 1 = ((i + 1 : Nat) : Int) by omega, this]
    rfl
/-- What both say. -/
def sortV (l : BL) : List Int × Int :=
  if l.all isBr then (if 10 < l.length then ([], 2) else if l.all (fun b => decide (b.1 = s0 l)) then
    (match rkOut l l.length 0 (List.replicate l.length 0) with | some r => (wrO r l.length 0 (List.replicate l.length 0), 0) | none => ([], 3)) else ([], 2)) else ([], 1)
theorem Bd0 (n : Nat) : Bd n 0 0 (List.replicate n 0) := by
  refine ⟨by simp, fun j hj => ?_⟩
  have : List.getD (List.replicate n (0 : Int)) j 0 = 0 := by simp [List.getD_eq_getElem?_getD, List.getElem?_replicate, hj]
  rw [this]
  unfold bd
  simp
theorem Bd.last {n : Nat} {r : List Int} (h : Bd n n 0 r) : ∀ j, j < n → 0 ≤ List.getD r j 0 ∧ List.getD r j 0 < (n : Int) := by
  intro j hj
  obtain ⟨a, b⟩ := h.2 j hj
  unfold bd at b
  rw [if_pos hj, if_neg (by omega)] at b
  exact ⟨a, by omega⟩
theorem mkOk_len {α : Type} (l : List α) (h : l.length < 1000000000) : mkOk ((l.length : Nat) : Int) = true := by
  have h2 : ((l.length : Int) ≤ (lim : Int)) := by simp only [lim]; omega
  simp [mkOk, h2]
theorem c_SortBraids_s (l : BL) (hs : Sh l) : R is_SortBraids [tLPILI l] = some [tLI (sortV l).1, tI (sortV l).2] := by
  apply vs_SortBraids
  have h1 := c_SortBraids_2 l [] hs
  have h2 := c_SortBraids_9 l [] hs
  simp only [List.nil_append, List.length_nil, Int.natCast_zero] at h1 h2
  simp only [bs_SortBraids, h1, Option.bind_some, sortV]
  cases ha : l.all isBr with
  | false => simp
  | true =>
    simp only [if_true, getTV_here, getTV_next, beq_self_eq_true, cond_true]
    by_cases hn : 10 < l.length
    · have : decide ((10 : Int) < (l.length : Int)) = true := decide_eq_true (by omega)
      simp only [this, cond_true, if_pos hn]
    · have : decide ((10 : Int) < (l.length : Int)) = false := decide_eq_false (by omega)
      simp only [this, cond_false, if_neg hn, h2, Option.bind_some]
      cases hc : l.all (fun b => decide (b.1 = s0 l)) with
      | false => simp
      | true =>
        have hb : Brs l := ⟨by omega, fun b hm => List.all_eq_true.1 ha b hm⟩
        have h3 := c_SortBraids_15 l hb (List.replicate (10 - l.length) 0) l.length 0 (List.replicate l.length 0) (by omega) (Bd0 _)
        rw [List.replicate_append_replicate, show l.length + (10 - l.length) = 10 by omega] at h3
        simp only [Int.natCast_zero] at h3
        simp only [if_true, getTV_here, getTV_next, beq_self_eq_true, cond_true, h3, Option.bind_some]
        cases hr : rkOut l l.length 0 (List.replicate l.length 0) with
        | none => simp
        | some r =>
          have hB := rkOut_Bd hr (by omega) (Bd0 l.length)
          have h4 := c_SortBraids_28 l (by omega) r (List.replicate (10 - l.length) 0) hB.1 hB.last l.length 0 (List.replicate l.length 0) (by omega) (by simp)
          simp only [Int.natCast_zero] at h4
          simp only [getTV_here, getTV_next, beq_self_eq_true, cond_true, mkOk_len l (by omega), Int.toNat_natCast, h4, Option.bind_some]
/-! ### the program -/
theorem c_SortBraids_11 (l : BL) (hb : Brs l) (o : List Int) (i : Nat) (hi : i < l.length) (x4 x5 : Int) : ∀ (d k : Nat) (r : List Int), k + d = i → Bd l.length i k r →
    R ii_SortBraids_11 [tLPILI l, tLI o, tLI r, tI (i : Int), tI x4, tI x5, tI (i : Int), tI (k : Int)] = some (match rkIn l i d k r with | some r' => [tI 0, tLPILI l, tLI o, tLI r', tI x4, tI x5] | none => [tI 1, tLI [], tI 3]) := by
  intro d
  have hn := hb.1
  induction d with
  | zero =>
    intro k r hk hB
    have : k = i := by omega
    subst this
    apply vi_SortBraids_11
    simp [bi_SortBraids_11, rkIn]
  | succ d ih =>
    intro k r hk hB
    obtain ⟨b1, b2⟩ := hb.at (i := i) hi
    obtain ⟨b3, b4⟩ := hb.at (i := k) (by omega)
    have hst := hB.step (l := l) (by omega) hi
    have hlen := hB.1
    have hsi := hB.small hn (by omega) (by omega) hi
    have hsk := hB.small hn (by omega) (by omega) (j := k) (by omega)
    have this := ih (k + 1) (rk1 l i k r) (by omega) hst
    have hcmp := c_compare (List.getD l k (0, [])) (List.getD l i (0, [])) b3 b1 (show (la l k).length < 4000 by omega) (show (la l i).length < 4000 by omega)
    have ek : (List.getD l k (0, [])).2 = la l k := rfl
    have ei : (List.getD l i (0, [])).2 = la l i := rfl
    rw [ek, ei] at hcmp
    apply vi_SortBraids_11
    simp (disch := omega) only [bi_SortBraids_11, decide_eq_true, cond_true, Bool.and_true, Int.toNat_natCast, pr_eta, hcmp, Option.bind_some, getTV_next, getTV_here, rkIn, bne_dec]
    by_cases hc : (cmpOf (la l k) (la l i)).2 = 0
    · simp only [decide_eq_true hc, Bool.not_true, cond_false, if_pos hc]
      rw [← this]
      by_cases hp : 0 < (cmpOf (la l k) (la l i)).1
      · simp (disch := omega) only [rk1, if_pos hp, decide_eq_true, cond_true, wrap_i64, Int.natCast_add, Int.cast_ofNat_Int]
      · simp (disch := omega) only [rk1, if_neg hp, decide_eq_false, cond_false, decide_eq_true, cond_true, wrap_i64, Int.natCast_add, Int.cast_ofNat_Int]
    · simp only [decide_eq_false hc, Bool.not_false, cond_true, if_neg hc]
      rw [code3 hc]
theorem c_SortBraids_8 (l : BL) (hb : Brs l) (o : List Int) : ∀ (d i : Nat) (r : List Int), i + d = l.length → Bd l.length i 0 r →
    R ii_SortBraids_8 [tLPILI l, tLI o, tLI r, tI (l.length : Int), tI (i : Int)] = some (match rkOut l d i r with | some r' => [tI 0, tLI o, tLI r'] | none => [tI 1, tLI [], tI 3]) := by
  intro d
  have hn := hb.1
  induction d with
  | zero =>
    intro i r hi hB
    have : i = l.length := by omega
    subst this
    apply vi_SortBraids_8
    simp [bi_SortBraids_8, rkOut]
  | succ d ih =>
    intro i r hi hB
    have hin := c_SortBraids_11 l hb o i (by omega) (l.length : Int) (i : Int) i 0 r (by omega) hB
    simp only [Int.natCast_zero] at hin
    apply vi_SortBraids_8
    simp (disch := omega) only [bi_SortBraids_8, decide_eq_true, cond_true, hin, Option.bind_some, rkOut]
    cases h : rkIn l i i 0 r with
    | none => simp
    | some r' =>
      have this := ih (i + 1) r' (by omega) (rkIn_Bd (by omega) h (by omega) hB).next
      simp (disch := omega) only [getTV_here, getTV_next, beq_self_eq_true, cond_true, wrap_i64, Option.bind_some]
      rw [← this]
      simp
theorem c_SortBraids_22 (n : Nat) (hn : n ≤ 10) (r : List Int) (hr : r.length = n) (hB : ∀ j, j < n → 0 ≤ List.getD r j 0 ∧ List.getD r j 0 < (n : Int)) : ∀ (d i : Nat) (o : List Int), i + d = n → o.length = n →
    R ii_SortBraids_22 [tLI o, tLI r, tI (n : Int), tI (i : Int)] = some [tI 0, tLI (wrO r d i o)] := by
  intro d
  induction d with
  | zero =>
    intro i o hi ho
    have : i = n := by omega
    subst this
    apply vi_SortBraids_22
    simp [bi_SortBraids_22, wrO]
  | succ d ih =>
    intro i o hi ho
    have hs := hB i (by omega)
    have this := ih (i + 1) (o.set (List.getD r i 0).toNat (i : Int)) (by omega) (by simp [ho])
    apply vi_SortBraids_22
    simp (disch := omega) only [bi_SortBraids_22, decide_eq_true, cond_true, Bool.and_true, Int.toNat_natCast, wrap_i64]
    rw [show (i : Int) + 1 = ((i + 1 : Nat) : Int) by omega, this]
    rfl
theorem c_SortBraids_i (l : BL) (hs : Sh l) : R ii_SortBraids [tLPILI l] = some [tLI (sortV l).1, tI (sortV l).2] := by
  apply vi_SortBraids
  simp only [bi_SortBraids, c_ContainsB l hs, c_ContainsB2 l hs, Option.bind_some, getTV_here, sortV]
  cases ha : l.all isBr with
  | false => simp
  | true =>
    simp only [if_true, Bool.not_true, cond_false]
    by_cases hn : 10 < l.length
    · have : decide ((10 : Int) < (l.length : Int)) = true := decide_eq_true (by omega)
      simp only [this, cond_true, if_pos hn]
    · have : decide ((10 : Int) < (l.length : Int)) = false := decide_eq_false (by omega)
      simp only [this, cond_false, if_neg hn]
      cases hc : l.all (fun b => decide (b.1 = s0 l)) with
      | false => simp
      | true =>
        have hb : Brs l := ⟨by omega, fun b hm => List.all_eq_true.1 ha b hm⟩
        have h3 := c_SortBraids_8 l hb (List.replicate l.length 0) l.length 0 (List.replicate l.length 0) (by omega) (Bd0 _)
        simp only [Int.natCast_zero] at h3
        simp only [if_true, Bool.not_true, cond_false, mkOk_len l (by omega), cond_true, Int.toNat_natCast, h3, Option.bind_some]
        cases hr : rkOut l l.length 0 (List.replicate l.length 0) with
        | none => simp
        | some r =>
          have hB := rkOut_Bd hr (by omega) (Bd0 l.length)
          have h4 := c_SortBraids_22 l.length (by omega) r hB.1 hB.last l.length 0 (List.replicate l.length 0) (by omega) (by simp)
          simp only [Int.natCast_zero] at h4
          simp only [getTV_here, getTV_next, beq_self_eq_true, cond_true, hB.1, h4, Option.bind_some]
theorem sortV_len (l : BL) : (sortV l).1.length ≤ 10 := by
  unfold sortV
  split
  · split
    · simp
    · split
      · split
        · rw [wrO_len]; simp; omega
        · simp
      · simp
  · simp
theorem totB_mem {l : BL} {b : Int × List Int} (h : b ∈ l) : b.2.length ≤ totB l := by
  induction l with
  | nil => simp at h
  | cons c l ih =>
    simp only [totB]
    rcases List.mem_cons.1 h with rfl | h
    · omega
    · have := ih h
      omega
theorem law_FnExactSortBraids (l : BL) (h : Fit (.slice (.pair (.int .i64) (.slice (.int .i64)))) l) : R iw_FnExactSortBraids [tLPILI l] = some [tB true] := by
  have hf : ∀ b ∈ l, b.2.length ≤ 9223372036854775807 ∧ I64 b.2 := fun b hb => fit_braid (h.2 b hb)
  apply vw_FnExactSortBraids
  obtain ⟨v, h1, h2⟩ := c_szBraidS l h.1 (fun b hb => (hf b hb).1)
  by_cases hv : v < 0
  · simp [bw_FnExactSortBraids, h1, hv]
  · obtain ⟨g1, g2⟩ := h2 (by omega)
    have hs : Sh l := ⟨by omega, fun b hb => ⟨by have := totB_mem hb; omega, (hf b hb).2⟩⟩
    have hl := sortV_len l
    have e2 : ¬ (1 + ((sortV l).1.length : Int) < 0) := by omega
    have e3 : ¬ (1 + (totB l : Int) + (l.length : Int) < 0) := by omega
    simp [bw_FnExactSortBraids, h1, hv, c_toBraidS l hs.1 (fun b hb => (hs.2 b hb).1), c_SortBraids_s l hs, c_SortBraids_i l hs, c_eqInt64S (sortV l).1 _ (by omega), c_eqBraidS l hs.1 (fun b hb => (hs.2 b hb).1),
      c_markBraidS l 1 (by omega) (by omega) hs.1, e3, c_markInt64S (sortV l).1 1 (by omega) (by omega), c_heldInt64S 1 (sortV l).1.length (by omega) (by omega), e2]
end Go.Ev.Ytffepojldjodcaa
