/- All parts: both packages go through the same labels; one inserts, the other sorts. -/
import Derived.Test.YtadjhggdddbicaaMp4
import Derived.Test.YtadjhggdddbicaaMs2
import Derived.Test.YtadjhggdddbicaaMt1
set_option linter.unusedVariables false
set_option linter.unusedSimpArgs false
namespace Go.Ev.Ytadjhggdddbicaa
open Go.Ev Go.Gar

/-! ### order of arrays -/
def bef : List Int → List Int → Bool
  | a :: p, b :: q => if a = b then bef p q else decide (a < b)
  | _, _ => false
def cmpL : List Int → List Int → Int
  | a :: p, b :: q => if a < b then -1 else if b < a then 1 else cmpL p q
  | _, _ => 0
theorem cmpL_bef : ∀ p q : List Int, (cmpL p q < 0) = (bef p q = true)
  | [], [] => by simp [cmpL, bef]
  | [], _ :: _ => by simp [cmpL, bef]
  | _ :: _, [] => by simp [cmpL, bef]
  | a :: p, b :: q => by
    simp only [cmpL, bef]
    by_cases h1 : a < b
    · rw [if_pos h1, if_neg (by omega), decide_eq_true h1]; simp
    · rw [if_neg h1]
      by_cases h2 : b < a
      · rw [if_pos h2, if_neg (by omega), decide_eq_false h1]; simp
      · rw [if_neg h2, if_pos (by omega)]
        exact cmpL_bef p q
theorem bef_irr : ∀ p : List Int, bef p p = false
  | [] => rfl
  | a :: p => by simp only [bef, if_true]; exact bef_irr p
theorem bef_trans : ∀ {p q r : List Int}, p.length = q.length → q.length = r.length → bef p q = true → bef q r = true → bef p r = true
  | [], _, _, _, _, h, _ => by simp [bef] at h
  | a :: p, [], _, _, _, h, _ => by simp [bef] at h
  | a :: p, b :: q, [], _, _, _, h => by simp [bef] at h
  | a :: p, b :: q, c :: r, l1, l2, h1, h2 => by
    simp only [bef] at h1 h2 ⊢
    simp only [List.length_cons] at l1 l2
    by_cases e1 : a = b
    · subst e1
      rw [if_pos rfl] at h1
      by_cases e2 : a = c
      · subst e2
        rw [if_pos rfl] at h2
        rw [if_pos rfl]
        exact bef_trans (by omega) (by omega) h1 h2
      · rw [if_neg e2] at h2 ⊢; exact h2
    · rw [if_neg e1] at h1
      simp only [decide_eq_true_eq] at h1
      by_cases e2 : b = c
      · subst e2; rw [if_neg e1]; simpa using h1
      · rw [if_neg e2] at h2
        simp only [decide_eq_true_eq] at h2
        rw [if_neg (by omega)]
        simp only [decide_eq_true_eq]; omega
theorem bef_total : ∀ {p q : List Int}, p.length = q.length → bef p q = false → bef q p = false → p = q
  | [], [], _, _, _ => rfl
  | a :: p, b :: q, l, h1, h2 => by
    simp only [bef] at h1 h2
    simp only [List.length_cons] at l
    by_cases e : a = b
    · subst e
      rw [if_pos rfl] at h1 h2
      rw [bef_total (by omega) h1 h2]
    · rw [if_neg e] at h1
      rw [if_neg (Ne.symm e)] at h2
      simp only [decide_eq_false_iff_not] at h1 h2
      omega
  | [], _ :: _, l, _, _ => by simp at l
  | _ :: _, [], l, _, _ => by simp at l
theorem bef_ntrans {p q r : List Int} (l1 : p.length = q.length) (l2 : q.length = r.length) (h1 : ¬ bef p q = true) (h2 : ¬ bef q r = true) : ¬ bef p r = true := by
  intro h
  by_cases e : bef q p = true
  · exact h2 (bef_trans l1.symm (by omega) e h)
  · have := bef_total l1 (by simpa using h1) (by simpa using e)
    subst this
    exact h2 h

theorem drop_cons8 {x : List Int} (h : x.length = 8) {i : Nat} (hi : i < 8) : x.drop i = List.getD x i 0 :: x.drop (i + 1) := by
  rw [List.drop_eq_getElem_cons (by omega), List.getD_eq_getElem?_getD, List.getElem?_eq_getElem (by omega)]
  rfl
theorem c_l07Before_2 (a b : List Int) (ha : a.length = 8) (hb : b.length = 8) : ∀ i : Nat, i ≤ 8 → R is_l07Before_2 [tA8 a, tA8 b, tI (i : Int)] = some (if a.drop i = b.drop i then [tI 0] else [tI 1, tB (bef (a.drop i) (b.drop i))]) := by
  refine up_loop _ ?_ (fun i hi ih => ?_)
  · apply vs_l07Before_2
    rw [if_pos (by rw [List.drop_of_length_le (by omega), List.drop_of_length_le (by omega)])]
    simp [bs_l07Before_2]
  · apply vs_l07Before_2
    rw [drop_cons8 ha hi, drop_cons8 hb hi]
    simp (disch := omega) only [bs_l07Before_2, decide_eq_true, cond_true, Bool.and_true, Int.toNat_natCast, bne_dec, wrap_i64]
    by_cases e : List.getD a i 0 = List.getD b i 0
    · simp only [e, decide_true, Bool.not_true, cond_false]
      rw [show (i : Int) + 1 = ((i + 1 : Nat) : Int) by omega, ih]
      simp only [List.cons.injEq, true_and, bef, if_true]
    · simp only [e, decide_false, Bool.not_false, cond_true, List.cons.injEq, false_and, if_false, bef]
theorem c_l07Before (a b : List Int) (ha : a.length = 8) (hb : b.length = 8) : R is_l07Before [tA8 a, tA8 b] = some [tB (bef a b)] := by
  apply vs_l07Before
  have h := c_l07Before_2 a b ha hb 0 (by omega)
  simp only [Int.natCast_zero, List.drop_zero] at h
  simp only [bs_l07Before, h, Option.bind_some]
  by_cases e : a = b
  · subst e
    simp [bef_irr]
  · simp [e]

/-! ### insertion -/
def insP (L : List (List Int)) (p : List Int) : List (List Int) := L.takeWhile (fun x => bef x p) ++ p :: L.dropWhile (fun x => bef x p)
theorem take_tw {α : Type} (f : α → Bool) : ∀ L : List α, L.take (L.takeWhile f).length = L.takeWhile f ∧ L.drop (L.takeWhile f).length = L.dropWhile f
  | [] => ⟨rfl, rfl⟩
  | a :: L => by
    simp only [List.takeWhile_cons, List.dropWhile_cons]
    cases f a with
    | true => exact ⟨by simp [(take_tw f L).1], by simp [(take_tw f L).2]⟩
    | false => exact ⟨rfl, rfl⟩
theorem tw_le {α : Type} (f : α → Bool) (L : List α) : (L.takeWhile f).length ≤ L.length := (List.takeWhile_sublist _).length_le
theorem insP_len (L : List (List Int)) (p : List Int) : (insP L p).length = L.length + 1 := by
  unfold insP
  have : (L.takeWhile (fun x => bef x p)).length + (L.dropWhile (fun x => bef x p)).length = L.length := by
    rw [← List.length_append, List.takeWhile_append_dropWhile]
  simp only [List.length_append, List.length_cons]
  omega
theorem insP_perm (L : List (List Int)) (p : List Int) : (insP L p).Perm (p :: L) := by
  unfold insP
  refine List.perm_middle.trans ?_
  rw [List.takeWhile_append_dropWhile]
theorem insP_sorted {L : List (List Int)} {p : List Int} (h8 : Len8 L) (hp : p.length = 8) (h : L.Pairwise (fun a b => ¬ bef b a = true)) : (insP L p).Pairwise (fun a b => ¬ bef b a = true) := by
  have key : ∀ L : List (List Int), Len8 L → L.Pairwise (fun a b => ¬ bef b a = true) → (∀ x ∈ L.takeWhile (fun x => bef x p), bef x p = true) ∧ (∀ x ∈ L.dropWhile (fun x => bef x p), ¬ bef x p = true) := by
    intro L
    induction L with
    | nil => intro _ _; exact ⟨fun x hx => by simp at hx, fun x hx => by simp at hx⟩
    | cons a L ih =>
      intro h8 hs
      rw [List.pairwise_cons] at hs
      obtain ⟨i1, i2⟩ := ih (fun x hx => h8 x (by simp [hx])) hs.2
      simp only [List.takeWhile_cons, List.dropWhile_cons]
      cases e : bef a p with
      | true =>
        simp only [if_true]
        refine ⟨fun x hx => ?_, i2⟩
        rcases List.mem_cons.1 hx with rfl | hx
        · exact e
        · exact i1 x hx
      | false =>
        simp only [Bool.false_eq_true, if_false]
        refine ⟨fun x hx => by simp at hx, fun x hx => ?_⟩
        rcases List.mem_cons.1 hx with rfl | hx
        · simp [e]
        · intro hxp
          have hx8 := h8 x (by simp [hx])
          have ha8 := h8 a (by simp)
          by_cases exa : bef a x = true
          · have := bef_trans (by omega) (by omega) exa hxp
            rw [e] at this; simp at this
          · have := bef_total (p := a) (q := x) (by omega) (by simpa using exa) (by simpa using hs.1 x hx)
            subst this
            rw [e] at hxp; simp at hxp
  obtain ⟨k1, k2⟩ := key L h8 h
  unfold insP
  have hL : (L.takeWhile (fun x => bef x p) ++ L.dropWhile (fun x => bef x p)).Pairwise (fun a b => ¬ bef b a = true) := by rw [List.takeWhile_append_dropWhile]; exact h
  rw [List.pairwise_append] at hL
  rw [List.pairwise_append, List.pairwise_cons]
  refine ⟨hL.1, ⟨fun x hx => k2 x hx, hL.2.1⟩, fun a ha b hb => ?_⟩
  have hap := k1 a ha
  have ha8 := h8 a ((List.takeWhile_sublist _).subset ha)
  rcases List.mem_cons.1 hb with rfl | hb
  · intro hba
    have := bef_trans (by omega) (by omega) hap hba
    rw [bef_irr] at this; simp at this
  · exact hL.2.2 a ha b hb

/-! ### the labels -/
def upd (g : Nat → Nat) (a k : Nat) : Nat → Nat := fun x => if x = a then k else g x
def lvs : Nat → Nat → (Nat → Nat) → List (Nat → Nat)
  | 0, _, g => [g]
  | d + 1, a, g => (List.range (a + 1)).flatMap fun k => if k < a ∧ g k ≠ k then [] else lvs d (a + 1) (upd g a k)
def lvk (d a : Nat) (g : Nat → Nat) (k : Nat) : List (Nat → Nat) := ((List.range (a + 1)).drop k).flatMap fun k => if k < a ∧ g k ≠ k then [] else lvs d (a + 1) (upd g a k)
theorem lvs_succ (d a : Nat) (g : Nat → Nat) : lvs (d + 1) a g = lvk d a g 0 := rfl
theorem lvk_step {d a : Nat} {g : Nat → Nat} {k : Nat} (h : k ≤ a) : lvk d a g k = (if k < a ∧ g k ≠ k then [] else lvs d (a + 1) (upd g a k)) ++ lvk d a g (k + 1) := by
  unfold lvk
  rw [List.drop_eq_getElem_cons (by simp; omega)]
  simp
theorem lvk_end (d a : Nat) (g : Nat → Nat) : lvk d a g (a + 1) = [] := by
  unfold lvk
  rw [List.drop_of_length_le (by simp)]
  rfl
theorem lvs_len : ∀ (d a : Nat) (g : Nat → Nat), a + d ≤ 8 → (lvs d a g).length ≤ 8 ^ d
  | 0, _, _, _ => by simp [lvs]
  | d + 1, a, g, h => by
    have key : ∀ l : List Nat, (l.flatMap fun k => if k < a ∧ g k ≠ k then [] else lvs d (a + 1) (upd g a k)).length ≤ l.length * 8 ^ d := by
      intro l
      induction l with
      | nil => simp
      | cons k l ih =>
        rw [List.flatMap_cons, List.length_append, List.length_cons, Nat.add_mul, Nat.one_mul]
        have : (if k < a ∧ g k ≠ k then [] else lvs d (a + 1) (upd g a k)).length ≤ 8 ^ d := by
          split
          · simp
          · exact lvs_len d (a + 1) _ (by omega)
        omega
    have := key (List.range (a + 1))
    rw [List.length_range] at this
    simp only [lvs]
    refine Nat.le_trans this ?_
    rw [Nat.pow_succ, Nat.mul_comm]
    exact Nat.mul_le_mul_left _ (by omega)
/-- Labels so far. -/
def CanTo (a : Nat) (g : Nat → Nat) : Prop := ∀ x, x < a → g x ≤ x ∧ g (g x) = g x
theorem CanTo.upd {a : Nat} {g : Nat → Nat} (h : CanTo a g) {k : Nat} (hk : k ≤ a) (hg : k < a → g k = k) : CanTo (a + 1) (upd g a k) := by
  intro x hx
  unfold Ytadjhggdddbicaa.upd
  by_cases e : x = a
  · subst e
    rw [if_pos rfl]
    refine ⟨hk, ?_⟩
    by_cases e2 : k = x
    · rw [if_pos e2]
    · rw [if_neg e2]; exact hg (by omega)
  · rw [if_neg e]
    obtain ⟨h1, h2⟩ := h x (by omega)
    exact ⟨h1, by rw [if_neg (by omega)]; exact h2⟩
theorem A8_upd {n a : Nat} (ha : a < n) (hn : n ≤ 8) (g : Nat → Nat) (k : Nat) : List.set (A8 n g) a (k : Int) = A8 n (upd g a k) := by
  apply List.ext_getElem?
  intro x
  by_cases hx : x < 8
  · rw [A8_get? _ _ hx, List.getElem?_set]
    by_cases e : a = x
    · subst e
      rw [if_pos rfl, if_pos (by rw [A8_len]; exact hx), if_pos ha]
      simp [Ytadjhggdddbicaa.upd]
    · rw [if_neg e, A8_get? _ _ hx]
      simp [Ytadjhggdddbicaa.upd, Ne.symm e]
  · rw [List.getElem?_eq_none (by rw [List.length_set, A8_len]; omega), List.getElem?_eq_none (by rw [A8_len]; omega)]
/-- What is kept of labels. -/
def keepP (n : Nat) (g : Nat → Nat) : Option (List Int) := if crs n g then none else some (A8 n (mdf n g))
def insG (n : Nat) (L : List (List Int)) (g : Nat → Nat) : List (List Int) := match keepP n g with
  | some p => insP L p
  | none => L
theorem insG_len (n : Nat) (L : List (List Int)) (g : Nat → Nat) : (insG n L g).length ≤ L.length + 1 := by
  unfold insG
  cases keepP n g with
  | none => simp
  | some p => simp only [insP_len]; omega
theorem foldG_len (n : Nat) : ∀ (l : List (Nat → Nat)) (L : List (List Int)), (l.foldl (insG n) L).length ≤ L.length + l.length
  | [], L => by simp
  | g :: l, L => by
    have := foldG_len n l (insG n L g)
    have := insG_len n L g
    simp only [List.foldl_cons, List.length_cons]
    omega
theorem Len8.insG {n : Nat} {L : List (List Int)} (h : Len8 L) (g : Nat → Nat) : Len8 (insG n L g) := by
  unfold Ytadjhggdddbicaa.insG keepP
  by_cases e : crs n g = true
  · rw [if_pos e]; exact h
  · rw [if_neg e]
    intro x hx
    rcases List.mem_cons.1 ((insP_perm _ _).mem_iff.1 hx) with rfl | hx
    · exact A8_len _ _
    · exact h x hx
theorem Len8.foldG {n : Nat} : ∀ (l : List (Nat → Nat)) {L : List (List Int)}, Len8 L → Len8 (l.foldl (Ytadjhggdddbicaa.insG n) L)
  | [], L, h => h
  | g :: l, L, h => Len8.foldG l (h.insG g)

/-! ### the reference -/
theorem c_l07All_5 (p : List Int) (hp : p.length = 8) : ∀ (L : List (List Int)), Len8 L → L.length < 10000000 → ∀ i, i ≤ L.length →
    R is_l07All_5 [tLA8 L, tA8 p, tI (i : Int)] = some [tI 0, tLA8 L, tA8 p, tI ((i + ((L.drop i).takeWhile fun x => bef x p).length : Nat) : Int)] := by
  intro L h8 hl
  refine up_loop _ ?_ (fun i hi ih => ?_)
  · apply vs_l07All_5
    simp [bs_l07All_5]
  · apply vs_l07All_5
    rw [List.drop_eq_getElem_cons hi, List.takeWhile_cons]
    simp (disch := omega) only [bs_l07All_5, decide_eq_true, cond_true, Bool.and_true, Int.toNat_natCast, getD8 hi, c_l07Before _ _ (h8.at hi) hp, Option.bind_some, getTV_here, wrap_i64]
    cases e : bef L[i] p with
    | true =>
      simp only [cond_true, if_true]
      rw [show (i : Int) + 1 = ((i + 1 : Nat) : Int) by omega, ih]
      simp only [List.length_cons]
      rw [show i + 1 + ((L.drop (i + 1)).takeWhile fun x => bef x p).length = i + (((L.drop (i + 1)).takeWhile fun x => bef x p).length + 1) by omega]
    | false => simp

theorem c_l07All (n : Nat) (hn : n ≤ 7) : ∀ (d a : Nat) (g : Nat → Nat) (L : List (List Int)), a + d = n → CanTo a g → Len8 L → L.length + (lvs d a g).length < 10000000 →
    R is_l07All [tAi8 (A8 n g), tI (a : Int), tI (n : Int), tLA8 L] = some [tLA8 ((lvs d a g).foldl (insG n) L)] := by
  intro d
  induction d with
  | zero =>
    intro a g L ha hg h8 hl
    have e : a = n := by omega
    subst e
    apply vs_l07All
    have hcan : Can a g := hg
    simp only [bs_l07All, beq_self_eq_true, cond_true, c_l07Crossing a (by omega) g, Option.bind_some, getTV_here, lvs, List.foldl_cons, List.foldl_nil, insG, keepP]
    cases ec : crs a g with
    | true => simp
    | false =>
      have h5 := c_l07All_5 (A8 a (mdf a g)) (A8_len _ _) L h8 (by omega) 0 (Nat.zero_le _)
      simp only [Int.natCast_zero, List.drop_zero, Nat.zero_add] at h5
      have tl := tw_le (fun x => bef x (A8 a (mdf a g))) L
      obtain ⟨t1, t2⟩ := take_tw (fun x => bef x (A8 a (mdf a g))) L
      simp only [cond_false, c_l07Made a (by omega) g hcan, Option.bind_some, getTV_here, h5, getTV_next, Int.toNat_natCast, t1, t2]
      have hl2 := insP_len L (A8 a (mdf a g))
      unfold insP at hl2
      simp only [List.length_append, List.length_cons] at hl2
      have a1 : apOk [A8 a (mdf a g)] (L.dropWhile fun x => bef x (A8 a (mdf a g))) = true := apOk2 (by simp only [List.length_cons, List.length_nil]; omega)
      have a2 : apOk [] (L.takeWhile fun x => bef x (A8 a (mdf a g))) = true := apOk0 (by omega)
      have a3 : apOk (L.takeWhile fun x => bef x (A8 a (mdf a g))) ([A8 a (mdf a g)] ++ L.dropWhile fun x => bef x (A8 a (mdf a g))) = true := apOk2 (by simp only [List.length_cons, List.length_nil, List.length_append]; omega)
      simp (disch := omega) only [decide_eq_true, Bool.and_true, cond_true, a1, a2, a3]
      simp [insP]
  | succ d ihd =>
    intro a g L ha hg h8 hl
    have hne : ((a : Int) == (n : Int)) = false := by rw [beq_dec, decide_eq_false (by omega)]
    rw [lvs_succ] at hl ⊢
    have loop : ∀ m k, k + m = a + 1 → ∀ L, Len8 L → L.length + (lvk d a g k).length < 10000000 →
        R is_l07All_10 [tLA8 L, tAi8 (A8 n g), tI (a : Int), tI (n : Int), tI (k : Int)] = some [tI 0, tLA8 ((lvk d a g k).foldl (insG n) L)] := by
      intro m
      induction m with
      | zero =>
        intro k hk L h8 hl
        have e : k = a + 1 := by omega
        subst e
        apply vs_l07All_10
        have h1 : ¬ (((a + 1 : Nat) : Int) ≤ (a : Int)) := by omega
        simp only [bs_l07All_10, decide_eq_false h1, cond_false, lvk_end, List.foldl_nil]
      | succ m ihm =>
        intro k hk L h8 hl
        have hka : k ≤ a := by omega
        rw [lvk_step hka] at hl ⊢
        rw [List.length_append] at hl
        apply vs_l07All_10
        have w : wi64 ((k : Int) + 1) = ((k + 1 : Nat) : Int) := by rw [wrap_i64] <;> omega
        have w2 : wi64 ((a : Int) + 1) = ((a + 1 : Nat) : Int) := by rw [wrap_i64] <;> omega
        have hset : List.set (A8 n g) a (k : Int) = A8 n (Ytadjhggdddbicaa.upd g a k) := A8_upd (by omega) (by omega) g k
        have rec1 : (k < a → g k = k) → ∀ hl', R is_l07All [tAi8 (A8 n (Ytadjhggdddbicaa.upd g a k)), tI ((a + 1 : Nat) : Int), tI (n : Int), tLA8 L] = some [tLA8 ((lvs d (a + 1) (Ytadjhggdddbicaa.upd g a k)).foldl (insG n) L)] :=
          fun hgk hl' => ihd (a + 1) _ L (by omega) (hg.upd hka hgk) h8 hl'
        by_cases e1 : k < a
        · have hk8 : List.getD (A8 n g) k 0 = (g k : Int) := by
            rw [List.getD_eq_getElem?_getD, A8_get? _ _ (by omega), if_pos (by omega)]; rfl
          simp (disch := omega) only [bs_l07All_10, decide_eq_true, Bool.and_true, cond_true, Int.toNat_natCast, hk8, bne_dec, w, w2, hset]
          by_cases e2 : g k = k
          · have e3 : ((g k : Nat) : Int) = (k : Int) := by omega
            rw [if_neg (by simp [e2])] at hl ⊢
            simp only [e3, decide_true, Bool.not_true, cond_false, rec1 (fun _ => e2) (by omega), Option.bind_some, getTV_here]
            have := foldG_len n (lvs d (a + 1) (Ytadjhggdddbicaa.upd g a k)) L
            rw [ihm (k + 1) (by omega) _ (Len8.foldG _ h8) (by omega), List.foldl_append]
          · have e3 : ¬ ((g k : Nat) : Int) = (k : Int) := by omega
            rw [if_pos ⟨e1, e2⟩] at hl ⊢
            simp only [e3, decide_false, Bool.not_false, cond_true]
            rw [ihm (k + 1) (by omega) L h8 (by simpa using hl)]
            simp
        · have e0 : k = a := by omega
          have h3 : ¬ ((k : Int) < (a : Int)) := by omega
          rw [if_neg (by omega)] at hl ⊢
          simp (disch := omega) only [bs_l07All_10, decide_eq_true, decide_eq_false h3, Bool.and_true, cond_true, cond_false, Int.toNat_natCast, w, w2, hset, rec1 (fun h => absurd h e1) (by omega), Option.bind_some, getTV_here]
          have := foldG_len n (lvs d (a + 1) (Ytadjhggdddbicaa.upd g a k)) L
          rw [ihm (k + 1) (by omega) _ (Len8.foldG _ h8) (by omega), List.foldl_append]
    apply vs_l07All
    have h10 := loop (a + 1) 0 (by omega) L h8 hl
    simp only [Int.natCast_zero] at h10
    simp only [bs_l07All, hne, cond_false, h10, Option.bind_some, getTV_next, getTV_here]
end Go.Ev.Ytadjhggdddbicaa
