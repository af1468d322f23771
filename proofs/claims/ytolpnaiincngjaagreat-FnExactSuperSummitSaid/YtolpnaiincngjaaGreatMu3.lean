/- Order of normal forms, lists in order. -/
import Derived.Test.YtolpnaiincngjaaGreatMt0
import Derived.Test.YtolpnaiincngjaaGreatMnF
set_option linter.unusedVariables false
set_option linter.unusedSimpArgs false
namespace Go.Ev.YtolpnaiincngjaaGreat
open Go.Ev Go.Gar
abbrev VN := Int × Int × List (List Int)
structure OrdOn {α : Type} (C : α → Prop) (lt : α → α → Bool) : Prop where
  irr : ∀ a, C a → lt a a = false
  trans : ∀ a b c, C a → C b → C c → lt a b = true → lt b c = true → lt a c = true
  total : ∀ a b, C a → C b → lt a b = false → lt b a = false → a = b
theorem OrdOn.ntrans {α : Type} {C : α → Prop} {lt : α → α → Bool} (h : OrdOn C lt) {a b c : α} (ha : C a) (hb : C b) (hc : C c) (h1 : ¬ lt a b = true) (h2 : ¬ lt b c = true) : ¬ lt a c = true := by
  intro g
  by_cases e : lt b a = true
  · exact h2 (h.trans b a c hb ha hc e g)
  · have := h.total a b ha hb (by simpa using h1) (by simpa using e)
    subst this
    exact h2 g
def insO {α : Type} (lt : α → α → Bool) (L : List α) (p : α) : List α := L.takeWhile (fun x => lt x p) ++ p :: L.dropWhile (fun x => lt x p)
theorem insO_perm {α : Type} (lt : α → α → Bool) (L : List α) (p : α) : (insO lt L p).Perm (p :: L) := by
  unfold insO
  refine List.perm_middle.trans ?_
  rw [List.takeWhile_append_dropWhile]
theorem insO_len {α : Type} (lt : α → α → Bool) (L : List α) (p : α) : (insO lt L p).length = L.length + 1 := by
  have := (insO_perm lt L p).length_eq
  simpa using this
theorem ins_key {α : Type} {C : α → Prop} {lt : α → α → Bool} (h : OrdOn C lt) {p : α} (hp : C p) : ∀ L : List α, (∀ x ∈ L, C x) → L.Pairwise (fun a b => ¬ lt b a = true) →
    (∀ x ∈ L.takeWhile (fun x => lt x p), lt x p = true) ∧ (∀ x ∈ L.dropWhile (fun x => lt x p), ¬ lt x p = true) := by
  intro L
  induction L with
  | nil => intro _ _; exact ⟨fun x hx => by simp at hx, fun x hx => by simp at hx⟩
  | cons a L ih =>
    intro hC hs
    rw [List.pairwise_cons] at hs
    obtain ⟨i1, i2⟩ := ih (fun x hx => hC x (by simp [hx])) hs.2
    simp only [List.takeWhile_cons, List.dropWhile_cons]
    cases e : lt a p with
    | true =>
      simp only [if_true]
      refine ⟨fun x hx => ?_, i2⟩
      rcases List.mem_cons.1 hx with rfl | hx
      · exact e
      · exact i1 x hx
    | false =>
      simp only [Bool.false_eq_true, if_false]
      refine ⟨fun x hx => by simp at hx, fun x hx => ?_⟩
      rcases List.mem_cons.1 hx with rfl | hx
      · simp [e]
      · intro hxp
        have hxC := hC x (by simp [hx])
        have haC := hC a (by simp)
        by_cases exa : lt a x = true
        · have := h.trans a x p haC hxC hp exa hxp
          rw [e] at this; simp at this
        · have := h.total a x haC hxC (by simpa using exa) (by simpa using hs.1 x hx)
          subst this
          rw [e] at hxp; simp at hxp
theorem insO_sorted {α : Type} {C : α → Prop} {lt : α → α → Bool} (h : OrdOn C lt) {p : α} (hp : C p) {L : List α} (hC : ∀ x ∈ L, C x) (hs : L.Pairwise (fun a b => ¬ lt b a = true)) : (insO lt L p).Pairwise (fun a b => ¬ lt b a = true) := by
  obtain ⟨k1, k2⟩ := ins_key h hp L hC hs
  unfold insO
  have hL : (L.takeWhile (fun x => lt x p) ++ L.dropWhile (fun x => lt x p)).Pairwise (fun a b => ¬ lt b a = true) := by rw [List.takeWhile_append_dropWhile]; exact hs
  rw [List.pairwise_append] at hL
  rw [List.pairwise_append, List.pairwise_cons]
  refine ⟨hL.1, ⟨fun x hx => k2 x hx, hL.2.1⟩, fun a ha b hb => ?_⟩
  have hap := k1 a ha
  have haC := hC a ((List.takeWhile_sublist _).subset ha)
  rcases List.mem_cons.1 hb with rfl | hb
  · intro hba
    have := h.trans a b a haC hp haC hap hba
    rw [h.irr a haC] at this; simp at this
  · exact hL.2.2 a ha b hb
/-- Is it there: the first that is not less. -/
theorem ins_mem {α : Type} {C : α → Prop} {lt : α → α → Bool} (h : OrdOn C lt) {p : α} (hp : C p) {L : List α} (hC : ∀ x ∈ L, C x) (hs : L.Pairwise (fun a b => ¬ lt b a = true)) : p ∈ L ↔ (L.dropWhile (fun x => lt x p)).head? = some p := by
  obtain ⟨k1, k2⟩ := ins_key h hp L hC hs
  constructor
  · intro hm
    rw [← List.takeWhile_append_dropWhile (p := fun x => lt x p) (l := L), List.mem_append] at hm
    rcases hm with hm | hm
    · have := k1 p hm
      rw [h.irr p hp] at this; simp at this
    · cases hd : L.dropWhile (fun x => lt x p) with
      | nil => rw [hd] at hm; simp at hm
      | cons a r =>
        rw [hd] at hm k2
        rcases List.mem_cons.1 hm with rfl | hm
        · rfl
        · have hsd : (a :: r).Pairwise (fun a b => ¬ lt b a = true) := by
            rw [← hd]; exact hs.sublist (List.dropWhile_sublist _)
          rw [List.pairwise_cons] at hsd
          have haC : C a := hC a ((List.dropWhile_sublist (fun x => lt x p)).subset (by rw [hd]; simp))
          have := h.total a p haC hp (by simpa using k2 a (by simp)) (by simpa using hsd.1 p hm)
          rw [this]; rfl
  · intro hh
    cases hd : L.dropWhile (fun x => lt x p) with
    | nil => rw [hd] at hh; simp at hh
    | cons a r =>
      rw [hd] at hh
      simp only [List.head?_cons, Option.some.injEq] at hh
      subst hh
      exact (List.dropWhile_sublist (fun x => lt x a)).subset (by rw [hd]; simp)
theorem sorted_unique {α : Type} {C : α → Prop} {lt : α → α → Bool} (h : OrdOn C lt) {L M : List α} (hC : ∀ x ∈ L, C x) (hp : L.Perm M) (h1 : L.Pairwise (fun a b => ¬ lt b a = true)) (h2 : M.Pairwise (fun a b => ¬ lt b a = true)) : L = M :=
  List.Perm.eq_of_pairwise (le := fun a b => ¬ lt b a = true) (fun a b ha hb x y => h.total a b (hC a ha) (hC b (hp.mem_iff.2 hb)) (by simpa using y) (by simpa using x)) h1 h2 hp
def befS : List (List Int) → List (List Int) → Bool
  | a :: p, b :: q => if a = b then befS p q else bef a b
  | _, _ => false
def cmpS : List (List Int) → List (List Int) → Int
  | a :: p, b :: q => if cmpL a b = 0 then cmpS p q else cmpL a b
  | _, _ => 0
theorem cmpL_zero : ∀ {p q : List Int}, p.length = q.length → (cmpL p q = 0 ↔ p = q)
  | [], [], _ => by simp [cmpL]
  | a :: p, b :: q, l => by
    simp only [List.length_cons] at l
    simp only [cmpL]
    by_cases h1 : a < b
    · rw [if_pos h1]
      constructor
      · intro h; simp at h
      · intro h
        simp only [List.cons.injEq] at h
        omega
    · rw [if_neg h1]
      by_cases h2 : b < a
      · rw [if_pos h2]
        constructor
        · intro h; simp at h
        · intro h
          simp only [List.cons.injEq] at h
          omega
      · rw [if_neg h2, cmpL_zero (by omega)]
        have : a = b := by omega
        simp [this]
  | [], _ :: _, l => by simp at l
  | _ :: _, [], l => by simp at l
theorem cmpS_befS : ∀ {p q : List (List Int)}, Len8 p → Len8 q → ((cmpS p q < 0) = (befS p q = true))
  | [], [], _, _ => by simp [cmpS, befS]
  | [], _ :: _, _, _ => by simp [cmpS, befS]
  | _ :: _, [], _, _ => by simp [cmpS, befS]
  | a :: p, b :: q, h1, h2 => by
    have ha := h1 a (by simp)
    have hb := h2 b (by simp)
    simp only [cmpS, befS]
    by_cases e : a = b
    · rw [if_pos e, if_pos ((cmpL_zero (by omega)).2 e)]
      exact cmpS_befS (fun x hx => h1 x (by simp [hx])) (fun x hx => h2 x (by simp [hx]))
    · rw [if_neg e, if_neg (fun h => e ((cmpL_zero (by omega)).1 h))]
      exact cmpL_bef a b
theorem befS_irr : ∀ p : List (List Int), befS p p = false
  | [] => rfl
  | a :: p => by simp only [befS, if_true]; exact befS_irr p
theorem befS_trans : ∀ {p q r : List (List Int)}, Len8 p → Len8 q → Len8 r → befS p q = true → befS q r = true → befS p r = true
  | [], _, _, _, _, _, h, _ => by simp [befS] at h
  | a :: p, [], _, _, _, _, h, _ => by simp [befS] at h
  | a :: p, b :: q, [], _, _, _, _, h => by simp [befS] at h
  | a :: p, b :: q, c :: r, l1, l2, l3, h1, h2 => by
    simp only [befS] at h1 h2 ⊢
    have la := l1 a (by simp)
    have lb := l2 b (by simp)
    have lc := l3 c (by simp)
    by_cases e1 : a = b
    · subst e1
      rw [if_pos rfl] at h1
      by_cases e2 : a = c
      · subst e2
        rw [if_pos rfl] at h2
        rw [if_pos rfl]
        exact befS_trans (fun x hx => l1 x (by simp [hx])) (fun x hx => l2 x (by simp [hx])) (fun x hx => l3 x (by simp [hx])) h1 h2
      · rw [if_neg e2] at h2 ⊢; exact h2
    · rw [if_neg e1] at h1
      by_cases e2 : b = c
      · subst e2; rw [if_neg e1]; exact h1
      · rw [if_neg e2] at h2
        have h3 := bef_trans (p := a) (q := b) (r := c) (by omega) (by omega) h1 h2
        rw [if_neg (fun e => by subst e; rw [bef_irr] at h3; simp at h3)]
        exact h3
theorem befS_total : ∀ {p q : List (List Int)}, p.length = q.length → Len8 p → Len8 q → befS p q = false → befS q p = false → p = q
  | [], [], _, _, _, _, _ => rfl
  | a :: p, b :: q, l, l1, l2, h1, h2 => by
    simp only [befS] at h1 h2
    simp only [List.length_cons] at l
    have la := l1 a (by simp)
    have lb := l2 b (by simp)
    by_cases e : a = b
    · subst e
      rw [if_pos rfl] at h1 h2
      rw [befS_total (by omega) (fun x hx => l1 x (by simp [hx])) (fun x hx => l2 x (by simp [hx])) h1 h2]
    · rw [if_neg e] at h1
      rw [if_neg (Ne.symm e)] at h2
      exact absurd (bef_total (p := a) (q := b) (by omega) h1 h2) e
  | [], _ :: _, l, _, _, _, _ => by simp at l
  | _ :: _, [], l, _, _, _, _ => by simp at l
/-- Normal forms of one kind: so many strands, this power, so many factors. -/
def Cls (n p : Int) (k : Nat) (v : VN) : Prop := v.1 = n ∧ v.2.1 = p ∧ v.2.2.length = k ∧ Len8 v.2.2
def befV (v w : VN) : Bool := befS v.2.2 w.2.2
theorem ordV (n p : Int) (k : Nat) : OrdOn (Cls n p k) befV := by
  refine ⟨fun a _ => befS_irr _, fun a b c ha hb hc h1 h2 => befS_trans ha.2.2.2 hb.2.2.2 hc.2.2.2 h1 h2, fun a b ha hb h1 h2 => ?_⟩
  have := befS_total (by rw [ha.2.2.1, hb.2.2.1]) ha.2.2.2 hb.2.2.2 h1 h2
  obtain ⟨a1, a2, a3⟩ := a
  obtain ⟨b1, b2, b3⟩ := b
  obtain ⟨rfl, rfl, _⟩ := ha
  obtain ⟨rfl, rfl, _⟩ := hb
  simp only at this
  rw [this]

theorem getD8' {L : List (List Int)} {i : Nat} {d : List Int} (hi : i < L.length) : List.getD L i d = L[i] := by
  simp [List.getD_eq_getElem?_getD, List.getElem?_eq_getElem hi]
theorem c_l04Before_5 (x0 x1 x3 x4 : Int) (A B : List (List Int)) (hA : Len8 A) (hB : Len8 B) (i : Nat) (hi : i < A.length) (hi' : i < B.length) (hl : A.length < 1000000000) : ∀ j : Nat, j ≤ 8 →
    R is_l04Before_5 [tI x0, tI x1, tLA8 A, tI x3, tI x4, tLA8 B, tI (i : Int), tI (j : Int)] = some (if A[i].drop j = B[i].drop j then [tI 0, tI x0, tI x1, tLA8 A, tI x3, tI x4, tLA8 B, tI (i : Int)] else [tI 1, tB (bef (A[i].drop j) (B[i].drop j))]) := by
  have a8 := hA _ (List.getElem_mem hi)
  have b8 := hB _ (List.getElem_mem hi')
  refine up_loop _ ?_ (fun j hj ih => ?_)
  · apply vs_l04Before_5
    rw [if_pos (by rw [List.drop_of_length_le (by omega), List.drop_of_length_le (by omega)])]
    simp [bs_l04Before_5]
  · apply vs_l04Before_5
    rw [drop_cons8 a8 hj, drop_cons8 b8 hj]
    simp (disch := omega) only [bs_l04Before_5, decide_eq_true, cond_true, Bool.and_true, Int.toNat_natCast, getD8' hi, getD8' hi', bne_dec, wrap_i64]
    by_cases e : List.getD A[i] j 0 = List.getD B[i] j 0
    · simp only [e, decide_true, Bool.not_true, cond_false]
      rw [show (j : Int) + 1 = ((j + 1 : Nat) : Int) by omega, ih]
      simp only [List.cons.injEq, true_and, bef, if_true]
    · simp only [e, decide_false, Bool.not_false, cond_true, List.cons.injEq, false_and, if_false, bef]
theorem c_l04Before_2 (x0 x1 x3 x4 : Int) (A B : List (List Int)) (hA : Len8 A) (hB : Len8 B) (he : B.length = A.length) (hl : A.length < 1000000000) : ∀ i : Nat, i ≤ A.length →
    R is_l04Before_2 [tI x0, tI x1, tLA8 A, tI x3, tI x4, tLA8 B, tI (i : Int)] = some (if A.drop i = B.drop i then [tI 0] else [tI 1, tB (befS (A.drop i) (B.drop i))]) := by
  refine up_loop _ ?_ (fun i hi ih => ?_)
  · apply vs_l04Before_2
    rw [if_pos (by rw [List.drop_of_length_le (by omega), List.drop_of_length_le (by omega)])]
    simp [bs_l04Before_2]
  · apply vs_l04Before_2
    have hi' : i < B.length := by omega
    have h5 := c_l04Before_5 x0 x1 x3 x4 A B hA hB i hi hi' hl 0 (by omega)
    simp only [Int.natCast_zero, List.drop_zero] at h5
    rw [List.drop_eq_getElem_cons hi, List.drop_eq_getElem_cons hi']
    simp (disch := omega) only [bs_l04Before_2, decide_eq_true, cond_true, h5, Option.bind_some]
    by_cases e : A[i] = B[i]
    · simp only [e, if_true, getTV_here, getTV_next, beq_self_eq_true, cond_true, List.cons.injEq, true_and, befS]
      rw [wrap_i64 (by omega) (by omega), show (i : Int) + 1 = ((i + 1 : Nat) : Int) by omega]
      exact ih
    · simp only [e, if_false, getTV_here, getTV_next, List.cons.injEq, false_and, befS]
      rfl
theorem c_l04Before (v w : VN) {n p : Int} {k : Nat} (hv : Cls n p k v) (hw : Cls n p k w) (hk : k < 1000000000) : R is_l04Before [tPIPILA8 v, tPIPILA8 w] = some [tB (befV v w)] := by
  apply vs_l04Before
  have h := c_l04Before_2 v.1 v.2.1 w.1 w.2.1 v.2.2 w.2.2 hv.2.2.2 hw.2.2.2 (by rw [hv.2.2.1, hw.2.2.1]) (by rw [hv.2.2.1]; exact hk) 0 (Nat.zero_le _)
  simp only [Int.natCast_zero, List.drop_zero] at h
  simp only [bs_l04Before, h, Option.bind_some, befV]
  by_cases e : v.2.2 = w.2.2
  · simp [e, befS_irr]
  · simp [e]
theorem getDV {L : List VN} {i : Nat} (hi : i < L.length) : List.getD L i ((0, (0, [])) : VN) = L[i] := by
  simp [List.getD_eq_getElem?_getD, List.getElem?_eq_getElem hi]
theorem c_l04Insert_2 (v : VN) {n p : Int} {k : Nat} (hv : Cls n p k v) (hk : k < 1000000000) (L : List VN) (hL : ∀ x ∈ L, Cls n p k x) (hl : L.length < 10000000) : ∀ i : Nat, i ≤ L.length →
    R is_l04Insert_2 [tLPIPILA8 L, tI v.1, tI v.2.1, tLA8 v.2.2, tI (i : Int)] = some [tI 0, tLPIPILA8 L, tI v.1, tI v.2.1, tLA8 v.2.2, tI ((i + ((L.drop i).takeWhile fun x => befV x v).length : Nat) : Int)] := by
  refine up_loop _ ?_ (fun i hi ih => ?_)
  · apply vs_l04Insert_2
    simp [bs_l04Insert_2]
  · apply vs_l04Insert_2
    rw [List.drop_eq_getElem_cons hi, List.takeWhile_cons]
    have hb := c_l04Before L[i] v (hL _ (List.getElem_mem hi)) hv hk
    simp (disch := omega) only [bs_l04Insert_2, decide_eq_true, cond_true, Bool.and_true, Int.toNat_natCast, getDV hi]
    have e : (L[i].1, L[i].2.1, L[i].2.2) = L[i] := rfl
    have e' : (v.1, v.2.1, v.2.2) = v := rfl
    simp only [e, e', hb, Option.bind_some, getTV_here]
    cases ec : befV L[i] v with
    | true =>
      simp only [cond_true, if_true]
      rw [wrap_i64 (by omega) (by omega), show (i : Int) + 1 = ((i + 1 : Nat) : Int) by omega, ih]
      simp only [List.length_cons]
      rw [show i + 1 + ((L.drop (i + 1)).takeWhile fun x => befV x v).length = i + (((L.drop (i + 1)).takeWhile fun x => befV x v).length + 1) by omega]
    | false => simp
open Classical in
theorem c_l04Insert (v : VN) {n p : Int} {k : Nat} (hv : Cls n p k v) (hk : k < 1000000000) (L : List VN) (hL : ∀ x ∈ L, Cls n p k x) (hl : L.length < 10000000) (hs : L.Pairwise (fun a b => ¬ befV b a = true)) :
    R is_l04Insert [tLPIPILA8 L, tPIPILA8 v] = some (if v ∈ L then [tLPIPILA8 L, tB false] else [tLPIPILA8 (insO befV L v), tB true]) := by
  apply vs_l04Insert
  have h2 := c_l04Insert_2 v hv hk L hL hl 0 (Nat.zero_le _)
  simp only [Int.natCast_zero, List.drop_zero, Nat.zero_add] at h2
  have tl := tw_le (fun x => befV x v) L
  obtain ⟨t1, t2⟩ := take_tw (fun x => befV x v) L
  have hm := ins_mem (ordV n p k) hv hL hs
  have hlen := insO_len befV L v
  unfold insO at hlen
  simp only [List.length_append, List.length_cons] at hlen
  have e' : (v.1, v.2.1, v.2.2) = v := rfl
  have a1 : apOk [v] (L.dropWhile fun x => befV x v) = true := apOk2 (by simp only [List.length_cons, List.length_nil]; omega)
  have a2 : apOk [] (L.takeWhile fun x => befV x v) = true := apOk0 (by omega)
  have a3 : apOk (L.takeWhile fun x => befV x v) ([v] ++ L.dropWhile fun x => befV x v) = true := apOk2 (by simp only [List.length_cons, List.length_nil, List.length_append]; omega)
  simp only [bs_l04Insert, h2, Option.bind_some, getTV_here, getTV_next, e']
  by_cases hlt : (L.takeWhile fun x => befV x v).length < L.length
  · have hg : L[(L.takeWhile fun x => befV x v).length]? = (L.dropWhile fun x => befV x v).head? := by
      rw [← t2, List.head?_drop]
    have hlk := c_l03Like L[(L.takeWhile fun x => befV x v).length] v (by rw [(hL _ (List.getElem_mem hlt)).2.2.1]; exact hk)
    rw [List.getElem?_eq_getElem hlt] at hg
    have eL : ∀ x : VN, (x.1, x.2.1, x.2.2) = x := fun x => rfl
    simp (disch := omega) only [decide_eq_true, cond_true, Bool.and_true, Int.toNat_natCast, getDV hlt, eL, hlk, Option.bind_some, getTV_here, t1, t2, a1, a2, a3]
    by_cases e : L[(L.takeWhile fun x => befV x v).length] = v
    · rw [if_pos (hm.2 (by rw [← hg, e]))]
      simp only [e, decide_true, cond_true]
    · rw [if_neg (fun h => e (by rw [hm.1 h] at hg; exact Option.some.inj hg))]
      simp only [e, decide_false, cond_false, insO]
      rfl
  · have hd : (L.dropWhile fun x => befV x v) = [] := by rw [← t2]; exact List.drop_of_length_le (by omega)
    rw [hd] at hm
    rw [if_neg (fun h => by have := hm.1 h; simp at this)]
    have hn : ¬ (((L.takeWhile fun x => befV x v).length : Int) < (L.length : Int)) := by omega
    simp (disch := omega) only [decide_eq_false hn, decide_eq_true, cond_false, cond_true, Bool.and_true, Int.toNat_natCast, t1, t2, a1, a2, a3]
    simp only [insO]
    rfl

theorem c_IndexFunc_2 (v : VN) (L : List VN) (hL : ∀ x ∈ L, x.2.2.length < 1000000000) (hl : L.length < 10000000) : ∀ i : Nat, i ≤ L.length →
    (v ∈ L.drop i → ∃ j : Nat, R ig_IndexFunc___i_Normal_i_Normal__2 [tLPIPILA8 L, tI v.1, tI v.2.1, tLA8 v.2.2, tI (L.length : Int), tI (i : Int)] = some [tI 1, tI (j : Int)]) ∧
    (v ∉ L.drop i → R ig_IndexFunc___i_Normal_i_Normal__2 [tLPIPILA8 L, tI v.1, tI v.2.1, tLA8 v.2.2, tI (L.length : Int), tI (i : Int)] = some [tI 0]) := by
  have e' : (v.1, v.2.1, v.2.2) = v := rfl
  have eL : ∀ x : VN, (x.1, x.2.1, x.2.2) = x := fun x => rfl
  refine up_loop _ ?_ (fun i hi ih => ?_)
  · rw [List.drop_length]
    refine ⟨fun h => by simp at h, fun _ => ?_⟩
    apply vg_IndexFunc___i_Normal_i_Normal__2
    simp [bg_IndexFunc___i_Normal_i_Normal__2]
  · rw [List.drop_eq_getElem_cons hi]
    have w : wi64 ((i : Int) + 1) = ((i + 1 : Nat) : Int) := by rw [wrap_i64] <;> omega
    have hk : R ii_superSummitK1 [tPIPILA8 L[i], tPIPILA8 v] = some [tB (decide (L[i] = v))] := by
      apply vi_superSummitK1
      simp only [bi_superSummitK1, eL, c_sameNormal L[i] v (hL _ (List.getElem_mem hi)), Option.bind_some, getTV_here]
    by_cases e : L[i] = v
    · refine ⟨fun _ => ⟨i, ?_⟩, fun h => (h (by rw [e]; exact List.mem_cons_self)).elim⟩
      apply vg_IndexFunc___i_Normal_i_Normal__2
      simp (disch := omega) only [bg_IndexFunc___i_Normal_i_Normal__2, decide_eq_true, cond_true, Bool.and_true, Int.toNat_natCast, getDV hi, eL, e', hk, Option.bind_some, getTV_here, decide_eq_true e]
    · have st : ∀ o, R ig_IndexFunc___i_Normal_i_Normal__2 [tLPIPILA8 L, tI v.1, tI v.2.1, tLA8 v.2.2, tI (L.length : Int), tI ((i + 1 : Nat) : Int)] = some o → R ig_IndexFunc___i_Normal_i_Normal__2 [tLPIPILA8 L, tI v.1, tI v.2.1, tLA8 v.2.2, tI (L.length : Int), tI (i : Int)] = some o := by
        intro o ho
        apply vg_IndexFunc___i_Normal_i_Normal__2
        simp (disch := omega) only [bg_IndexFunc___i_Normal_i_Normal__2, decide_eq_true, cond_true, cond_false, Bool.and_true, Int.toNat_natCast, getDV hi, eL, e', hk, Option.bind_some, getTV_here, decide_eq_false e, w, ho]
      refine ⟨fun h => ?_, fun h => ?_⟩
      · obtain ⟨j, hj⟩ := ih.1 ((List.mem_cons.1 h).resolve_left (fun g => e g.symm))
        exact ⟨j, st _ hj⟩
      · exact st _ (ih.2 fun h' => h (List.mem_cons_of_mem _ h'))
open Classical in
theorem c_ContainsFunc (v : VN) (L : List VN) (hL : ∀ x ∈ L, x.2.2.length < 1000000000) (hl : L.length < 10000000) : R ig_ContainsFunc___i_Normal_i_Normal_ [tLPIPILA8 L, tPIPILA8 v] = some [tB (decide (v ∈ L))] := by
  have e' : (v.1, v.2.1, v.2.2) = v := rfl
  apply vg_ContainsFunc___i_Normal_i_Normal_
  have h := c_IndexFunc_2 v L hL hl 0 (Nat.zero_le _)
  rw [List.drop_zero] at h
  simp only [Int.natCast_zero] at h
  by_cases e : v ∈ L
  · obtain ⟨j, hj⟩ := h.1 e
    have hI : R ig_IndexFunc___i_Normal_i_Normal_ [tLPIPILA8 L, tPIPILA8 v] = some [tI (j : Int)] := by
      apply vg_IndexFunc___i_Normal_i_Normal_
      simp [bg_IndexFunc___i_Normal_i_Normal_, hj]
    simp [bg_ContainsFunc___i_Normal_i_Normal_, e', hI, e]
  · have hI : R ig_IndexFunc___i_Normal_i_Normal_ [tLPIPILA8 L, tPIPILA8 v] = some [tI (-1)] := by
      apply vg_IndexFunc___i_Normal_i_Normal_
      simp [bg_IndexFunc___i_Normal_i_Normal_, h.2 e]
    simp [bg_ContainsFunc___i_Normal_i_Normal_, e', hI, e]
theorem c_compareSimple (a b : List Int) (ha : a.length = 8) (hb : b.length = 8) : R ii_compareSimple [tA8 a, tA8 b] = some [tI (cmpL a b)] := by
  apply vi_compareSimple
  simp only [bi_compareSimple, c_Compare_b a b ha hb, Option.bind_some, getTV_here]
theorem c_CompareFunc_2 (A B : List (List Int)) (hA : Len8 A) (hB : Len8 B) (he : B.length = A.length) (hl : A.length < 1000000000) : ∀ i : Nat, i ≤ A.length → R ig_CompareFunc___i_Simple___i_Simple_i_Simple_i_Simple__2 [tLA8 A, tLA8 B, tI (A.length : Int), tI (i : Int)] =
    some (if cmpS (A.drop i) (B.drop i) = 0 then [tI 0, tLA8 A, tLA8 B] else [tI 1, tI (cmpS (A.drop i) (B.drop i))]) := by
  refine up_loop _ ?_ (fun i hi ih => ?_)
  · apply vg_CompareFunc___i_Simple___i_Simple_i_Simple_i_Simple__2
    rw [List.drop_of_length_le (by omega), List.drop_of_length_le (by omega)]
    simp [bg_CompareFunc___i_Simple___i_Simple_i_Simple_i_Simple__2, cmpS]
  · apply vg_CompareFunc___i_Simple___i_Simple_i_Simple_i_Simple__2
    have hi' : i < B.length := by omega
    rw [List.drop_eq_getElem_cons hi, List.drop_eq_getElem_cons hi']
    have h1 : ¬ ((B.length : Int) ≤ (i : Int)) := by omega
    simp (disch := omega) only [bg_CompareFunc___i_Simple___i_Simple_i_Simple_i_Simple__2, decide_eq_true, decide_eq_false h1, cond_true, cond_false, Bool.and_true, Int.toNat_natCast, getD8' hi, getD8' hi', c_compareSimple _ _ (hA _ (List.getElem_mem hi)) (hB _ (List.getElem_mem hi')), Option.bind_some, getTV_here, bne_dec, wrap_i64, cmpS]
    by_cases e1 : cmpL A[i] B[i] = 0
    · simp only [e1, decide_true, Bool.not_true, cond_false, if_true]
      rw [show (i : Int) + 1 = ((i + 1 : Nat) : Int) by omega, ih]
    · simp only [e1, decide_false, Bool.not_false, cond_true, if_false]
theorem c_compareFactors (v w : VN) {n p : Int} {k : Nat} (hv : Cls n p k v) (hw : Cls n p k w) (hk : k < 1000000000) : R ii_compareFactors [tPIPILA8 v, tPIPILA8 w] = some [tI (cmpS v.2.2 w.2.2)] := by
  apply vi_compareFactors
  have h := c_CompareFunc_2 v.2.2 w.2.2 hv.2.2.2 hw.2.2.2 (by rw [hv.2.2.1, hw.2.2.1]) (by rw [hv.2.2.1]; exact hk) 0 (Nat.zero_le _)
  simp only [Int.natCast_zero, List.drop_zero] at h
  have h2 : R ig_CompareFunc___i_Simple___i_Simple_i_Simple_i_Simple_ [tLA8 v.2.2, tLA8 w.2.2] = some [tI (cmpS v.2.2 w.2.2)] := by
    apply vg_CompareFunc___i_Simple___i_Simple_i_Simple_i_Simple_
    simp only [bg_CompareFunc___i_Simple___i_Simple_i_Simple_i_Simple_, h, Option.bind_some]
    have hl : w.2.2.length = v.2.2.length := by rw [hv.2.2.1, hw.2.2.1]
    by_cases e : cmpS v.2.2 w.2.2 = 0
    · simp [e, hl]
    · simp [e]
  simp only [bi_compareFactors, h2, Option.bind_some, getTV_here]
theorem c_sortNormals {n p : Int} {k : Nat} (hk : k < 1000000000) (xs : List VN) (hC : ∀ x ∈ xs, Cls n p k x) (hl : xs.length < 10000000) : ∃ ys, R ig_SortFunc___i_Normal_i_Normal_ [tLPIPILA8 xs] = some [tLPIPILA8 ys] ∧ ys.Perm xs ∧ ys.Pairwise (fun a b => ¬ befV b a = true) := by
  have cb : ∀ a ∈ xs, ∀ b ∈ xs, (cmpS a.2.2 b.2.2 < 0) = (befV a b = true) := fun a ha b hb => cmpS_befS (hC a ha).2.2.2 (hC b hb).2.2.2
  obtain ⟨ys, h1, h2, h3⟩ := sortE_ok (call := R) (cmp := ii_compareFactors) (t := .pair (.int .i64) (.pair (.int .i64) (.slice (.arr .u8 8)))) (fun a b : VN => cmpS a.2.2 b.2.2) xs (by omega) (fun a ha b hb => c_compareFactors a b (hC a ha) (hC b hb) hk)
    (fun a ha => by rw [cb a ha a ha, (ordV n p k).irr a (hC a ha)]; simp) (fun a ha b hb c hc x y => by
      rw [cb a ha b hb] at x
      rw [cb b hb c hc] at y
      rw [cb a ha c hc]
      exact (ordV n p k).trans a b c (hC a ha) (hC b hb) (hC c hc) x y) (fun a ha b hb c hc x y => by
      rw [cb a ha b hb] at x
      rw [cb b hb c hc] at y
      rw [cb a ha c hc]
      exact (ordV n p k).ntrans (hC a ha) (hC b hb) (hC c hc) x y)
  refine ⟨ys, ?_, h2, ?_⟩
  · apply vg_SortFunc___i_Normal_i_Normal_
    exact h1
  · refine h3.imp_of_mem fun {a b} ha hb h => ?_
    rw [cb b (h2.mem_iff.1 hb) a (h2.mem_iff.1 ha)] at h
    exact h
end Go.Ev.YtolpnaiincngjaaGreat
