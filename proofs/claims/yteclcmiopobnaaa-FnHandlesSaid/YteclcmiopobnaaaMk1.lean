/- Words up to the braid relations; a handle's reduction keeps the braid. -/
import Derived.Test.YteclcmiopobnaaaMh4
set_option linter.unusedVariables false
set_option linter.unusedSimpArgs false
namespace Go.Ev.Yteclcmiopobnaaa
open Go.Ev
/-- A letter of n strands. -/
def Lr (n : Nat) (x : Int) : Prop := x ≠ 0 ∧ 1 - (n : Int) ≤ x ∧ x ≤ (n : Int) - 1
theorem Lr.neg {n : Nat} {x : Int} (h : Lr n x) : Lr n (-x) := by unfold Lr at *; omega
inductive BE (n : Nat) : List Int → List Int → Prop
  | re (w : List Int) : BE n w w
  | sy {a b : List Int} : BE n a b → BE n b a
  | tr {a b c : List Int} : BE n a b → BE n b c → BE n a c
  | fr (u v : List Int) (x : Int) (h : Lr n x) : BE n (u ++ x :: -x :: v) (u ++ v)
  | fa (u v : List Int) (i j : Nat) (h : i + 2 ≤ j) (hj : j + 1 < n) : BE n (u ++ ((i + 1 : Nat) : Int) :: ((j + 1 : Nat) : Int) :: v) (u ++ ((j + 1 : Nat) : Int) :: ((i + 1 : Nat) : Int) :: v)
  | br (u v : List Int) (i : Nat) (h : i + 2 < n) : BE n (u ++ ((i + 1 : Nat) : Int) :: ((i + 2 : Nat) : Int) :: ((i + 1 : Nat) : Int) :: v) (u ++ ((i + 2 : Nat) : Int) :: ((i + 1 : Nat) : Int) :: ((i + 2 : Nat) : Int) :: v)
theorem BE.ctx {n : Nat} {a b : List Int} (h : BE n a b) (p q : List Int) : BE n (p ++ (a ++ q)) (p ++ (b ++ q)) := by
  induction h with
  | re w => exact .re _
  | sy _ ih => exact ih.sy
  | tr _ _ i1 i2 => exact i1.tr i2
  | fr u v x hx =>
    have := BE.fr (p ++ u) (v ++ q) x hx
    simp only [List.append_assoc, List.cons_append] at this ⊢
    exact this
  | fa u v i j h hj =>
    have := BE.fa (p ++ u) (v ++ q) i j h hj
    simp only [List.append_assoc, List.cons_append] at this ⊢
    exact this
  | br u v i h =>
    have := BE.br (p ++ u) (v ++ q) i h
    simp only [List.append_assoc, List.cons_append] at this ⊢
    exact this
theorem BE.left {n : Nat} {a b : List Int} (h : BE n a b) (p : List Int) : BE n (p ++ a) (p ++ b) := by
  have := h.ctx p []
  simpa using this
theorem BE.right {n : Nat} {a b : List Int} (h : BE n a b) (q : List Int) : BE n (a ++ q) (b ++ q) := by
  have := h.ctx [] q
  simpa using this
theorem BE.frL {n : Nat} {x : Int} (h : Lr n x) (w : List Int) : BE n (x :: -x :: w) w := .fr [] w x h
theorem BE.frL' {n : Nat} {x : Int} (h : Lr n x) (w : List Int) : BE n (-x :: x :: w) w := by
  have := BE.frL h.neg w
  rw [Int.neg_neg] at this
  exact this
/-- What a fold keeps. -/
theorem BE.fold {n : Nat} {α : Type} {f : α → Int → α} {P : α → Prop} (hP : ∀ s x, P s → P (f s x)) (h1 : ∀ s x, P s → Lr n x → f (f s x) (-x) = s)
    (h2 : ∀ s (i j : Nat), P s → i + 2 ≤ j → j + 1 < n → f (f s ((i + 1 : Nat) : Int)) ((j + 1 : Nat) : Int) = f (f s ((j + 1 : Nat) : Int)) ((i + 1 : Nat) : Int))
    (h3 : ∀ s (i : Nat), P s → i + 2 < n → f (f (f s ((i + 1 : Nat) : Int)) ((i + 2 : Nat) : Int)) ((i + 1 : Nat) : Int) = f (f (f s ((i + 2 : Nat) : Int)) ((i + 1 : Nat) : Int)) ((i + 2 : Nat) : Int))
    {a b : List Int} (h : BE n a b) : ∀ s, P s → a.foldl f s = b.foldl f s := by
  have hf : ∀ (u : List Int) s, P s → P (u.foldl f s) := by
    intro u
    induction u with
    | nil => intro s h; exact h
    | cons x u ih => intro s h; exact ih _ (hP s x h)
  induction h with
  | re w => intro s _; rfl
  | sy _ ih => intro s hs; exact (ih s hs).symm
  | tr _ _ i1 i2 => intro s hs; exact (i1 s hs).trans (i2 s hs)
  | fr u v x hx =>
    intro s hs
    rw [List.foldl_append, List.foldl_append]
    show v.foldl f (f (f (u.foldl f s) x) (-x)) = _
    rw [h1 _ x (hf u s hs) hx]
  | fa u v i j hh hj =>
    intro s hs
    rw [List.foldl_append, List.foldl_append]
    show v.foldl f (f (f (u.foldl f s) _) _) = v.foldl f (f (f (u.foldl f s) _) _)
    rw [h2 _ i j (hf u s hs) hh hj]
  | br u v i hh =>
    intro s hs
    rw [List.foldl_append, List.foldl_append]
    show v.foldl f (f (f (f (u.foldl f s) _) _) _) = v.foldl f (f (f (f (u.foldl f s) _) _) _)
    rw [h3 _ i (hf u s hs) hh]
/-! ### inverses -/
theorem invL_cons (x : Int) (w : List Int) : invL (x :: w) = invL w ++ [-x] := by simp [invL]
theorem BE.inv_r {n : Nat} : ∀ (w : List Int), (∀ x ∈ w, Lr n x) → BE n (w ++ invL w) []
  | [], _ => .re _
  | x :: w, h => by
    have hx := h x List.mem_cons_self
    have ih := (BE.inv_r w (fun y hy => h y (List.mem_cons_of_mem _ hy))).ctx [x] [-x]
    rw [invL_cons]
    have e : x :: w ++ (invL w ++ [-x]) = [x] ++ (w ++ invL w ++ [-x]) := by simp
    rw [e]
    exact ih.tr (BE.frL hx [])
theorem invL_invL (w : List Int) : invL (invL w) = w := by
  simp only [invL, List.map_reverse, List.reverse_reverse, List.map_map]
  have : ((fun x : Int => -x) ∘ fun x => -x) = id := by funext x; simp
  rw [this, List.map_id]
theorem invL_Lr {n : Nat} {w : List Int} (h : ∀ x ∈ w, Lr n x) : ∀ x ∈ invL w, Lr n x := fun x hx => by
  simp only [invL, List.mem_map, List.mem_reverse] at hx
  obtain ⟨y, hy, rfl⟩ := hx
  exact (h y hy).neg
theorem BE.inv_l {n : Nat} (w : List Int) (h : ∀ x ∈ w, Lr n x) : BE n (invL w ++ w) [] := by
  have := BE.inv_r (invL w) (invL_Lr h)
  rw [invL_invL] at this
  exact this
theorem BE.inv {n : Nat} {a b : List Int} (h : BE n a b) (ha : ∀ x ∈ a, Lr n x) (hb : ∀ x ∈ b, Lr n x) : BE n (invL a) (invL b) := by
  have s1 : BE n (invL a) (invL a ++ (b ++ invL b)) := by
    have := (BE.inv_r b hb).sy.left (invL a)
    simpa using this
  have s2 : BE n (invL a ++ (b ++ invL b)) (invL a ++ (a ++ invL b)) := h.sy.ctx _ _
  have s3 : BE n (invL a ++ (a ++ invL b)) (invL b) := by
    have := (BE.inv_l a ha).right (invL b)
    simpa using this
  exact s1.tr (s2.tr s3)
/-! ### letters that commute -/
theorem BE.com_neg {n : Nat} {x y : Int} (hx : Lr n x) (h : BE n [x, y] [y, x]) : BE n [-x, y] [y, -x] := by
  have s1 : BE n [-x, y] [-x, y, x, -x] := (BE.fr [-x, y] [] x hx).sy
  have s2 : BE n [-x, y, x, -x] [-x, x, y, -x] := h.sy.ctx [-x] [-x]
  have s3 : BE n [-x, x, y, -x] [y, -x] := BE.frL' hx [y, -x]
  exact s1.tr (s2.tr s3)
theorem BE.com {n : Nat} {x y : Int} (hx : Lr n x) (hy : Lr n y) (h : x.natAbs + 2 ≤ y.natAbs ∨ y.natAbs + 2 ≤ x.natAbs) : BE n [x, y] [y, x] := by
  have pp : BE n [((x.natAbs : Nat) : Int), ((y.natAbs : Nat) : Int)] [((y.natAbs : Nat) : Int), ((x.natAbs : Nat) : Int)] := by
    unfold Lr at hx hy
    rcases h with h | h
    · have := BE.fa (n := n) [] [] (x.natAbs - 1) (y.natAbs - 1) (by omega) (by omega)
      rw [show x.natAbs - 1 + 1 = x.natAbs by omega, show y.natAbs - 1 + 1 = y.natAbs by omega] at this
      exact this
    · have := BE.fa (n := n) [] [] (y.natAbs - 1) (x.natAbs - 1) (by omega) (by omega)
      rw [show x.natAbs - 1 + 1 = x.natAbs by omega, show y.natAbs - 1 + 1 = y.natAbs by omega] at this
      exact this.sy
  have ax : Lr n ((x.natAbs : Nat) : Int) := by unfold Lr at *; omega
  have ay : Lr n ((y.natAbs : Nat) : Int) := by unfold Lr at *; omega
  have hxy : BE n [x, ((y.natAbs : Nat) : Int)] [((y.natAbs : Nat) : Int), x] := by
    by_cases h0 : 0 < x
    · rw [show ((x.natAbs : Nat) : Int) = x by omega] at pp
      exact pp
    · have := BE.com_neg ax pp
      rw [show -((x.natAbs : Nat) : Int) = x by omega] at this
      exact this
  by_cases h0 : 0 < y
  · rw [show ((y.natAbs : Nat) : Int) = y by omega] at hxy
    exact hxy
  · have := BE.com_neg ay hxy.sy
    rw [show -((y.natAbs : Nat) : Int) = y by omega] at this
    exact this.sy
/-! ### neighbours -/
theorem BE.con1 {n i : Nat} (h : i + 2 < n) : BE n [((i + 1 : Nat) : Int), ((i + 2 : Nat) : Int), -((i + 1 : Nat) : Int)] [-((i + 2 : Nat) : Int), ((i + 1 : Nat) : Int), ((i + 2 : Nat) : Int)] := by
  have ha : Lr n ((i + 1 : Nat) : Int) := by unfold Lr; omega
  have hb : Lr n ((i + 2 : Nat) : Int) := by unfold Lr; omega
  have hbr := BE.br (n := n) [] [] i h
  simp only [List.nil_append] at hbr
  generalize ((i + 1 : Nat) : Int) = a at *
  generalize ((i + 2 : Nat) : Int) = b at *
  have s1 : BE n [a, b, -a] [-b, b, a, b, -a] := (BE.frL' hb [a, b, -a]).sy
  have s2 : BE n [-b, b, a, b, -a] [-b, a, b, a, -a] := hbr.sy.ctx [-b] [-a]
  have s3 : BE n [-b, a, b, a, -a] [-b, a, b] := BE.fr [-b, a, b] [] a ha
  exact s1.tr (s2.tr s3)
theorem BE.con2 {n i : Nat} (h : i + 2 < n) : BE n [((i + 2 : Nat) : Int), ((i + 1 : Nat) : Int), -((i + 2 : Nat) : Int)] [-((i + 1 : Nat) : Int), ((i + 2 : Nat) : Int), ((i + 1 : Nat) : Int)] := by
  have ha : Lr n ((i + 1 : Nat) : Int) := by unfold Lr; omega
  have hb : Lr n ((i + 2 : Nat) : Int) := by unfold Lr; omega
  have hbr := BE.br (n := n) [] [] i h
  simp only [List.nil_append] at hbr
  generalize ((i + 1 : Nat) : Int) = a at *
  generalize ((i + 2 : Nat) : Int) = b at *
  have s1 : BE n [b, a, -b] [-a, a, b, a, -b] := (BE.frL' ha [b, a, -b]).sy
  have s2 : BE n [-a, a, b, a, -b] [-a, b, a, b, -b] := hbr.ctx [-a] [-b]
  have s3 : BE n [-a, b, a, b, -b] [-a, b, a] := BE.fr [-a, b, a] [] b hb
  exact s1.tr (s2.tr s3)
theorem lr3 {n : Nat} {a b c : Int} (ha : Lr n a) (hb : Lr n b) (hc : Lr n c) : ∀ x ∈ [a, b, c], Lr n x := fun x hx => by
  simp only [List.mem_cons, List.not_mem_nil, or_false] at hx
  rcases hx with rfl | rfl | rfl
  · exact ha
  · exact hb
  · exact hc
/-- A letter within a handle. -/
theorem BE.rd1 {n : Nat} {z x : Int} (hz : Lr n z) (hx : Lr n x) (h1 : x.natAbs ≠ z.natAbs) (h2 : x.natAbs + 1 ≠ z.natAbs) : BE n [-z, x, z] (rd1 z.natAbs (yOf z) x) := by
  unfold Go.Ev.Yteclcmiopobnaaa.rd1
  by_cases h : x.natAbs = z.natAbs + 1
  · rw [if_pos h]
    have hz0 := hz
    have hx0 := hx
    unfold Lr at hz0 hx0
    obtain ⟨i, hi⟩ : ∃ i : Nat, z.natAbs = i + 1 := ⟨z.natAbs - 1, by omega⟩
    have hn : i + 2 < n := by omega
    have ha : Lr n ((i + 1 : Nat) : Int) := by unfold Lr; omega
    have hb : Lr n ((i + 2 : Nat) : Int) := by unfold Lr; omega
    have c1 := BE.con1 hn
    have c2 := BE.con2 hn
    unfold yOf
    by_cases hzp : 0 < z
    · rw [if_pos hzp]
      have ez : z = ((i + 1 : Nat) : Int) := by omega
      have ey : ((z.natAbs : Nat) : Int) + 1 = ((i + 2 : Nat) : Int) := by omega
      have ei : ((z.natAbs : Nat) : Int) = ((i + 1 : Nat) : Int) := by omega
      rw [ey, ei]
      by_cases hxp : 0 < x
      · have exx : x = ((i + 2 : Nat) : Int) := by omega
        rw [if_pos hxp, ez, exx]
        exact c2.sy
      · have exx : x = -((i + 2 : Nat) : Int) := by omega
        rw [if_neg hxp, ez, exx]
        have c3 := c2.inv (lr3 hb ha hb.neg) (lr3 ha.neg hb ha)
        simp only [invL, List.reverse_cons, List.reverse_nil, List.nil_append, List.cons_append, List.map_cons, List.map_nil, Int.neg_neg] at c3
        exact c3.sy
    · rw [if_neg hzp]
      have ez : z = -((i + 1 : Nat) : Int) := by omega
      have ey : -(((z.natAbs : Nat) : Int) + 1) = -((i + 2 : Nat) : Int) := by omega
      have ei : ((z.natAbs : Nat) : Int) = ((i + 1 : Nat) : Int) := by omega
      rw [ey, ei]
      by_cases hxp : 0 < x
      · have exx : x = ((i + 2 : Nat) : Int) := by omega
        rw [if_pos hxp, ez, exx, Int.neg_neg, Int.neg_neg]
        exact c1
      · have exx : x = -((i + 2 : Nat) : Int) := by omega
        rw [if_neg hxp, ez, exx, Int.neg_neg, Int.neg_neg]
        have c3 := c1.inv (lr3 ha hb ha.neg) (lr3 hb.neg ha hb)
        simp only [invL, List.reverse_cons, List.reverse_nil, List.nil_append, List.cons_append, List.map_cons, List.map_nil, Int.neg_neg] at c3
        exact c3
  · rw [if_neg h]
    have hc := BE.com hz.neg hx (by rw [Int.natAbs_neg]; omega)
    have s1 : BE n [-z, x, z] [x, -z, z] := hc.right [z]
    have s2 : BE n [x, -z, z] [x] := (BE.frL' hz []).left [x]
    exact s1.tr s2
theorem BE.seg {n : Nat} {z : Int} (hz : Lr n z) : ∀ (s : List Int), (∀ x ∈ s, Lr n x ∧ x.natAbs ≠ z.natAbs ∧ x.natAbs + 1 ≠ z.natAbs) → BE n (-z :: (s ++ [z])) (s.flatMap (Go.Ev.Yteclcmiopobnaaa.rd1 z.natAbs (yOf z)))
  | [], _ => BE.frL' hz []
  | x :: s, h => by
    obtain ⟨hx, h1, h2⟩ := h x List.mem_cons_self
    have ih := BE.seg hz s (fun y hy => h y (List.mem_cons_of_mem _ hy))
    have s1 : BE n (-z :: (x :: s ++ [z])) ([-z, x, z] ++ (-z :: (s ++ [z]))) := by
      have := (BE.fr [-z, x] (s ++ [z]) z hz).sy
      simpa using this
    have s2 := (BE.rd1 hz hx h1 h2).right (-z :: (s ++ [z]))
    have s3 := ih.left (Go.Ev.Yteclcmiopobnaaa.rd1 z.natAbs (yOf z) x)
    rw [List.flatMap_cons]
    exact s1.tr (s2.tr s3)
/-! ### handles -/
theorem hb_clear {w : List Int} {z : Int} : ∀ {p k : Nat}, hb w z p = some k → ∀ i, k < i → i < p → (List.getD w i 0).natAbs ≠ z.natAbs ∧ (List.getD w i 0).natAbs + 1 ≠ z.natAbs
  | 0, k, h => by simp [hb] at h
  | p + 1, k, h => by
    intro i hi hip
    unfold hb at h
    split at h
    · split at h
      · simp only [Option.some.injEq] at h
        omega
      · simp at h
    · rename_i n1
      split at h
      · simp at h
      · rename_i n2
        by_cases e : i = p
        · subst e
          exact ⟨n1, n2⟩
        · exact hb_clear h i hi (by omega)
theorem fhk_hb {w : List Int} : ∀ {k : Nat} {r : Nat × Nat}, fhk w k = some r → hb w (List.getD w r.2 0) r.2 = some r.1
  | 0, r, h => by simp [fhk] at h
  | k + 1, r, h => by
    unfold fhk at h
    split at h
    · rename_i p hp
      simp only [Option.some.injEq] at h
      subst h
      exact hp
    · exact fhk_hb h
theorem fhk_none {w : List Int} : ∀ {k : Nat}, k ≤ w.length → fhk w k = none → ∀ q, w.length - k ≤ q → q < w.length → hb w (List.getD w q 0) q = none
  | 0, _, _ => fun q h1 h2 => by omega
  | k + 1, hk, h => by
    intro q h1 h2
    unfold fhk at h
    split at h
    · simp at h
    · rename_i hn
      by_cases e : q = w.length - (k + 1)
      · subst e
        exact hn
      · exact fhk_none (by omega) h q (by omega) h2
/-- A word and the word whose first handle has been reduced. -/
theorem BE.step {n : Nat} {w : List Int} (hw : ∀ x ∈ w, Lr n x) {r : Nat × Nat} (h : fh w = some r) : BE n w (rdl w r.1 r.2) := by
  obtain ⟨h1, h2, h3⟩ := fh_lt h
  have hb := hb_clear (fhk_hb h)
  obtain ⟨p, q⟩ := r
  simp only at h1 h2 h3 hb
  have hp : p < w.length := by omega
  rw [getD_at h2] at h3 hb
  rw [getD_at hp] at h3
  unfold rdl
  rw [getD_at h2]
  have hz : Lr n w[q] := hw _ (List.getElem_mem h2)
  have e : w = w.take p ++ (-w[q] :: ((w.take q).drop (p + 1) ++ [w[q]])) ++ w.drop (q + 1) := by
    have e1 : w = w.take q ++ (w[q] :: w.drop (q + 1)) := by rw [← List.drop_eq_getElem_cons h2, List.take_append_drop]
    have e2 : w.take q = w.take p ++ (w[p] :: (w.take q).drop (p + 1)) := by
      have hpq : p < (w.take q).length := by rw [List.length_take]; omega
      have e3 : w[p] = (w.take q)[p] := by rw [List.getElem_take]
      have e4 : w.take p = (w.take q).take p := by rw [List.take_take, show min p q = p by omega]
      rw [e3, e4, ← List.drop_eq_getElem_cons hpq, List.take_append_drop]
    rw [h3] at e2
    have e5 : w.take p ++ (-w[q] :: ((w.take q).drop (p + 1) ++ [w[q]])) ++ w.drop (q + 1) = (w.take p ++ (-w[q] :: (w.take q).drop (p + 1))) ++ (w[q] :: w.drop (q + 1)) := by simp
    rw [e5, ← e2]
    exact e1
  have hs := BE.seg hz ((w.take q).drop (p + 1)) (fun x hx => by
    obtain ⟨k, hk, rfl⟩ := List.getElem_of_mem hx
    have hk' := hk
    rw [List.length_drop, List.length_take] at hk'
    have e6 : ((w.take q).drop (p + 1))[k] = w[p + 1 + k]'(by omega) := by rw [List.getElem_drop, List.getElem_take]
    rw [e6]
    have := hb (p + 1 + k) (by omega) (by omega)
    rw [getD_at (show p + 1 + k < w.length by omega)] at this
    exact ⟨hw _ (List.getElem_mem _), this.1, this.2⟩)
  have := hs.ctx (w.take p) (w.drop (q + 1))
  rw [← List.append_assoc, ← List.append_assoc] at this
  rw [← e] at this
  exact this
theorem rdl_Lr {n : Nat} {w : List Int} (hw : ∀ x ∈ w, Lr n x) {p q : Nat} (hq : q < w.length) : ∀ x ∈ rdl w p q, Lr n x := by
  intro x hx
  unfold rdl at hx
  rw [getD_at hq] at hx
  have hz := hw _ (List.getElem_mem hq)
  simp only [List.mem_append, List.mem_flatMap] at hx
  rcases hx with (hx | ⟨a, ha, hx⟩) | hx
  · exact hw x (List.mem_of_mem_take hx)
  · have hla := hw a (List.mem_of_mem_take (List.mem_of_mem_drop ha))
    unfold rd1 at hx
    split at hx
    · rename_i e
      unfold Lr yOf at *
      simp only [List.mem_cons, List.not_mem_nil, or_false] at hx
      rcases hx with rfl | rfl | rfl
      · split <;> omega
      · split <;> omega
      · split <;> omega
    · rw [List.mem_singleton.1 hx]
      exact hla
  · exact hw x (List.mem_of_mem_drop hx)
theorem BE.rdc {n : Nat} : ∀ {k : Nat} {w v : List Int}, Go.Ev.Yteclcmiopobnaaa.rdc k w = some v → (∀ x ∈ w, Lr n x) → BE n w v ∧ (∀ x ∈ v, Lr n x) ∧ fh v = none
  | 0, w, v, h, hw => by
    unfold Go.Ev.Yteclcmiopobnaaa.rdc at h
    split at h
    · simp at h
    · split at h
      · rename_i hf
        simp only [Option.some.injEq] at h
        subst h
        exact ⟨.re _, hw, hf⟩
      · simp at h
  | k + 1, w, v, h, hw => by
    unfold Go.Ev.Yteclcmiopobnaaa.rdc at h
    split at h
    · simp at h
    · split at h
      · rename_i hf
        simp only [Option.some.injEq] at h
        subst h
        exact ⟨.re _, hw, hf⟩
      · rename_i r hr
        have h1 := BE.step hw hr
        have h2 := rdl_Lr hw (p := r.1) (fh_lt hr).2.1
        obtain ⟨a, b, c⟩ := BE.rdc h h2
        exact ⟨h1.tr a, b, c⟩
/-! ### words without handles -/
theorem hb_none {w : List Int} {z : Int} : ∀ {p : Nat}, (∀ i, i < p → z.natAbs ≤ (List.getD w i 0).natAbs) → hb w z p = none →
    (∀ i, i < p → (List.getD w i 0).natAbs ≠ z.natAbs) ∨ (∃ i, i < p ∧ List.getD w i 0 = z ∧ ∀ j, i < j → j < p → (List.getD w j 0).natAbs ≠ z.natAbs)
  | 0, _, _ => .inl (fun i h => by omega)
  | p + 1, hm, h => by
    unfold hb at h
    split at h
    · rename_i e
      split at h
      · simp at h
      · rename_i e2
        exact .inr ⟨p, by omega, by omega, fun j h1 h2 => by omega⟩
    · rename_i e
      split at h
      · rename_i e2
        have := hm p (by omega)
        omega
      · rcases hb_none (fun i hi => hm i (by omega)) h with h1 | ⟨i, h1, h2, h3⟩
        · refine .inl (fun i hi => ?_)
          by_cases e4 : i = p
          · subst e4; exact e
          · exact h1 i (by omega)
        · refine .inr ⟨i, by omega, h2, fun j h4 h5 => ?_⟩
          by_cases e4 : j = p
          · subst e4; exact e
          · exact h3 j h4 (by omega)
theorem one_sign {w : List Int} (hf : fh w = none) {m : Nat} (hm : ∀ i, i < w.length → m ≤ (List.getD w i 0).natAbs) : ∀ (q : Nat), q < w.length → (List.getD w q 0).natAbs = m → ∀ i, i ≤ q → (List.getD w i 0).natAbs = m → List.getD w i 0 = List.getD w q 0 := by
  intro q
  induction q using Nat.strongRecOn with
  | _ q ih =>
    intro hq hqm i hi him
    by_cases e : i = q
    · rw [e]
    · have hn := fhk_none (Nat.le_refl _) hf q (by omega) hq
      rcases hb_none (fun j hj => by rw [hqm]; exact hm j (by omega)) hn with h1 | ⟨j, h1, h2, h3⟩
      · exact absurd (him.trans hqm.symm) (h1 i (by omega))
      · have hij : i ≤ j := by
          by_cases h4 : i ≤ j
          · exact h4
          · exact absurd (him.trans hqm.symm) (h3 i (by omega) (by omega))
        rw [ih j h1 (by omega) (by rw [h2]; exact hqm) i hij him, h2]
theorem main_free {w : List Int} (hw : Lt w) (hf : fh w = none) (hn : w ≠ []) : mainL w ≠ 0 := by
  have S := sinv hw hn
  unfold mainL
  have h0 := (hw _ S.mem).1
  cases hb : (w.foldl stp (0, false)).2 with
  | false => simpa using h0
  | true =>
    exfalso
    have h1 := S.both.1 hb
    obtain ⟨i, hi, ei⟩ := List.getElem_of_mem S.mem
    obtain ⟨j, hj, ej⟩ := List.getElem_of_mem h1
    have hm : ∀ k, k < w.length → (w.foldl stp (0, false)).1.natAbs ≤ (List.getD w k 0).natAbs := fun k hk => by
      rw [getD_at hk]
      exact S.le _ (List.getElem_mem hk)
    have gi := getD_at hi
    have gj := getD_at hj
    rw [ei] at gi
    rw [ej] at gj
    rcases Nat.le_total i j with h | h
    · have := one_sign hf hm j hj (by rw [gj]; omega) i h (by rw [gi])
      rw [gi, gj] at this
      omega
    · have := one_sign hf hm i hi (by rw [gi]) j h (by rw [gj]; omega)
      rw [gi, gj] at this
      omega
theorem mainL_zero {w : List Int} (hw : Lt w) (hf : fh w = none) : mainL w = 0 ↔ w = [] := by
  constructor
  · intro h
    by_cases hn : w = []
    · exact hn
    · exact absurd h (main_free hw hf hn)
  · rintro rfl
    rfl
end Go.Ev.Yteclcmiopobnaaa
