/- Words up to the braid relations. -/
import Derived.Test.YtffepojldjodcaaMb2
set_option linter.unusedVariables false
set_option linter.unusedSimpArgs false
namespace Go.Ev.Ytffepojldjodcaa
open Go.Ev
def invL (w : List Int) : List Int := w.reverse.map fun x => -x
theorem invL_len (w : List Int) : (invL w).length = w.length := by simp [invL]
/-- A letter of n strands. -/
def Lr (n : Nat) (x : Int) : Prop := x ≠ 0 ∧ 1 - (n : Int) ≤ x ∧ x ≤ (n : Int) - 1
theorem Lr.neg {n : Nat} {x : Int} (h : Lr n x) : Lr n (-x) := by unfold Lr at *; omega
inductive BE (n : Nat) : List Int → List Int → Prop
  | re (w : List Int) : BE n w w
  | sy {a b : List Int} : BE n a b → BE n b a
  | tr {a b c : List Int} : BE n a b → BE n b c → BE n a c
  | fr (u v : List Int) (x : Int) (h : Lr n x) : BE n (u ++ x :: -x :: v) (u ++ v)
  | fa (u v : List Int) (i j : Nat) (h : i + 2 ≤ j) (hj : j + 1 < n) : BE n (u ++ ((i + 1 : Nat) : Int) :: ((j + 1 : Nat) : Int) :: v) (u ++ ((j + 1 : Nat) : Int) :: ((i + 1 : Nat) : Int) :: v)
  | br (u v : List Int) (i : Nat) (h : i + 2 < n) : BE n (u ++ ((i + 1 : Nat) : Int) :: ((i + 2 : Nat) : Int) :: ((i + 1 : Nat) : Int) :: v) (u ++ ((i + 2 : Nat) : Int) :: ((i + 1 : Nat) : Int) :: ((i + 2 : Nat) : Int) :: v)
theorem BE.ctx {n : Nat} {a b : List Int} (h : BE n a b) (p q : List Int) : BE n (p ++ (a ++ q)) (p ++ (b ++ q)) := by
  induction h with
  | re w => exact .re _
  | sy _ ih => exact ih.sy
  | tr _ _ i1 i2 => exact i1.tr i2
  | fr u v x hx =>
    have := BE.fr (p ++ u) (v ++ q) x hx
    simp only [List.append_assoc, List.cons_append] at this ⊢
    exact this
  | fa u v i j h hj =>
    have := BE.fa (p ++ u) (v ++ q) i j h hj
    simp only [List.append_assoc, List.cons_append] at this ⊢
    exact this
  | br u v i h =>
    have := BE.br (p ++ u) (v ++ q) i h
    simp only [List.append_assoc, List.cons_append] at this ⊢
    exact this
theorem BE.left {n : Nat} {a b : List Int} (h : BE n a b) (p : List Int) : BE n (p ++ a) (p ++ b) := by
  have := h.ctx p []
  simpa using this
theorem BE.right {n : Nat} {a b : List Int} (h : BE n a b) (q : List Int) : BE n (a ++ q) (b ++ q) := by
  have := h.ctx [] q
  simpa using this
theorem BE.frL {n : Nat} {x : Int} (h : Lr n x) (w : List Int) : BE n (x :: -x :: w) w := .fr [] w x h
theorem BE.frL' {n : Nat} {x : Int} (h : Lr n x) (w : List Int) : BE n (-x :: x :: w) w := by
  have := BE.frL h.neg w
  rw [Int.neg_neg] at this
  exact this
/-- What a fold keeps. -/
theorem BE.fold {n : Nat} {α : Type} {f : α → Int → α} {P : α → Prop} (hP : ∀ s x, P s → P (f s x)) (h1 : ∀ s x, P s → Lr n x → f (f s x) (-x) = s)
    (h2 : ∀ s (i j : Nat), P s → i + 2 ≤ j → j + 1 < n → f (f s ((i + 1 : Nat) : Int)) ((j + 1 : Nat) : Int) = f (f s ((j + 1 : Nat) : Int)) ((i + 1 : Nat) : Int))
    (h3 : ∀ s (i : Nat), P s → i + 2 < n → f (f (f s ((i + 1 : Nat) : Int)) ((i + 2 : Nat) : Int)) ((i + 1 : Nat) : Int) = f (f (f s ((i + 2 : Nat) : Int)) ((i + 1 : Nat) : Int)) ((i + 2 : Nat) : Int))
    {a b : List Int} (h : BE n a b) : ∀ s, P s → a.foldl f s = b.foldl f s := by
  have hf : ∀ (u : List Int) s, P s → P (u.foldl f s) := by
    intro u
    induction u with
    | nil => intro s h; exact h
    | cons x u ih => intro s h; exact ih _ (hP s x h)
  induction h with
  | re w => intro s _; rfl
  | sy _ ih => intro s hs; exact (ih s hs).symm
  | tr _ _ i1 i2 => intro s hs; exact (i1 s hs).trans (i2 s hs)
  | fr u v x hx =>
    intro s hs
    rw [List.foldl_append, List.foldl_append]
    show v.foldl f (f (f (u.foldl f s) x) (-x)) = _
    rw [h1 _ x (hf u s hs) hx]
  | fa u v i j hh hj =>
    intro s hs
    rw [List.foldl_append, List.foldl_append]
    show v.foldl f (f (f (u.foldl f s) _) _) = v.foldl f (f (f (u.foldl f s) _) _)
    rw [h2 _ i j (hf u s hs) hh hj]
  | br u v i hh =>
    intro s hs
    rw [List.foldl_append, List.foldl_append]
    show v.foldl f (f (f (f (u.foldl f s) _) _) _) = v.foldl f (f (f (f (u.foldl f s) _) _) _)
    rw [h3 _ i (hf u s hs) hh]
/-! ### inverses -/
theorem invL_cons (x : Int) (w : List Int) : invL (x :: w) = invL w ++ [-x] := by simp [invL]
theorem BE.inv_r {n : Nat} : ∀ (w : List Int), (∀ x ∈ w, Lr n x) → BE n (w ++ invL w) []
  | [], _ => .re _
  | x :: w, h => by
    have hx := h x List.mem_cons_self
    have ih := (BE.inv_r w (fun y hy => h y (List.mem_cons_of_mem _ hy))).ctx [x] [-x]
    rw [invL_cons]
    have e : x :: w ++ (invL w ++ [-x]) = [x] ++ (w ++ invL w ++ [-x]) := by simp
    rw [e]
    exact ih.tr (BE.frL hx [])
theorem invL_invL (w : List Int) : invL (invL w) = w := by
  simp only [invL, List.map_reverse, List.reverse_reverse, List.map_map]
  have : ((fun x : Int => -x) ∘ fun x => -x) = id := by funext x; simp
  rw [this, List.map_id]
theorem invL_Lr {n : Nat} {w : List Int} (h : ∀ x ∈ w, Lr n x) : ∀ x ∈ invL w, Lr n x := fun x hx => by
  simp only [invL, List.mem_map, List.mem_reverse] at hx
  obtain ⟨y, hy, rfl⟩ := hx
  exact (h y hy).neg
theorem BE.inv_l {n : Nat} (w : List Int) (h : ∀ x ∈ w, Lr n x) : BE n (invL w ++ w) [] := by
  have := BE.inv_r (invL w) (invL_Lr h)
  rw [invL_invL] at this
  exact this
theorem BE.inv {n : Nat} {a b : List Int} (h : BE n a b) (ha : ∀ x ∈ a, Lr n x) (hb : ∀ x ∈ b, Lr n x) : BE n (invL a) (invL b) := by
  have s1 : BE n (invL a) (invL a ++ (b ++ invL b)) := by
    have := (BE.inv_r b hb).sy.left (invL a)
    simpa using this
  have s2 : BE n (invL a ++ (b ++ invL b)) (invL a ++ (a ++ invL b)) := h.sy.ctx _ _
  have s3 : BE n (invL a ++ (a ++ invL b)) (invL b) := by
    have := (BE.inv_l a ha).right (invL b)
    simpa using this
  exact s1.tr (s2.tr s3)
/-! ### letters that commute -/
theorem BE.com_neg {n : Nat} {x y : Int} (hx : Lr n x) (h : BE n [x, y] [y, x]) : BE n [-x, y] [y, -x] := by
  have s1 : BE n [-x, y] [-x, y, x, -x] := (BE.fr [-x, y] [] x hx).sy
  have s2 : BE n [-x, y, x, -x] [-x, x, y, -x] := h.sy.ctx [-x] [-x]
  have s3 : BE n [-x, x, y, -x] [y, -x] := BE.frL' hx [y, -x]
  exact s1.tr (s2.tr s3)
theorem BE.com {n : Nat} {x y : Int} (hx : Lr n x) (hy : Lr n y) (h : x.natAbs + 2 ≤ y.natAbs ∨ y.natAbs + 2 ≤ x.natAbs) : BE n [x, y] [y, x] := by
  have pp : BE n [((x.natAbs : Nat) : Int), ((y.natAbs : Nat) : Int)] [((y.natAbs : Nat) : Int), ((x.natAbs : Nat) : Int)] := by
    unfold Lr at hx hy
    rcases h with h | h
    · have := BE.fa (n := n) [] [] (x.natAbs - 1) (y.natAbs - 1) (by omega) (by omega)
      rw [show x.natAbs - 1 + 1 = x.natAbs by omega, show y.natAbs - 1 + 1 = y.natAbs by omega] at this
      exact this
    · have := BE.fa (n := n) [] [] (y.natAbs - 1) (x.natAbs - 1) (by omega) (by omega)
      rw [show x.natAbs - 1 + 1 = x.natAbs by omega, show y.natAbs - 1 + 1 = y.natAbs by omega] at this
      exact this.sy
  have ax : Lr n ((x.natAbs : Nat) : Int) := by unfold Lr at *; omega
  have ay : Lr n ((y.natAbs : Nat) : Int) := by unfold Lr at *; omega
  have hxy : BE n [x, ((y.natAbs : Nat) : Int)] [((y.natAbs : Nat) : Int), x] := by
    by_cases h0 : 0 < x
    · rw [show ((x.natAbs : Nat) : Int) = x by omega] at pp
      exact pp
    · have := BE.com_neg ax pp
      rw [show -((x.natAbs : Nat) : Int) = x by omega] at this
      exact this
  by_cases h0 : 0 < y
  · rw [show ((y.natAbs : Nat) : Int) = y by omega] at hxy
    exact hxy
  · have := BE.com_neg ay hxy.sy
    rw [show -((y.natAbs : Nat) : Int) = y by omega] at this
    exact this.sy
/-! ### neighbours -/
theorem BE.con1 {n i : Nat} (h : i + 2 < n) : BE n [((i + 1 : Nat) : Int), ((i + 2 : Nat) : Int), -((i + 1 : Nat) : Int)] [-((i + 2 : Nat) : Int), ((i + 1 : Nat) : Int), ((i + 2 : Nat) : Int)] := by
  have ha : Lr n ((i + 1 : Nat) : Int) := by unfold Lr; omega
  have hb : Lr n ((i + 2 : Nat) : Int) := by unfold Lr; omega
  have hbr := BE.br (n := n) [] [] i h
  simp only [List.nil_append] at hbr
  generalize ((i + 1 : Nat) : Int) = a at *
  generalize ((i + 2 : Nat) : Int) = b at *
  have s1 : BE n [a, b, -a] [-b, b, a, b, -a] := (BE.frL' hb [a, b, -a]).sy
  have s2 : BE n [-b, b, a, b, -a] [-b, a, b, a, -a] := hbr.sy.ctx [-b] [-a]
  have s3 : BE n [-b, a, b, a, -a] [-b, a, b] := BE.fr [-b, a, b] [] a ha
  exact s1.tr (s2.tr s3)
theorem BE.con2 {n i : Nat} (h : i + 2 < n) : BE n [((i + 2 : Nat) : Int), ((i + 1 : Nat) : Int), -((i + 2 : Nat) : Int)] [-((i + 1 : Nat) : Int), ((i + 2 : Nat) : Int), ((i + 1 : Nat) : Int)] := by
  have ha : Lr n ((i + 1 : Nat) : Int) := by unfold Lr; omega
  have hb : Lr n ((i + 2 : Nat) : Int) := by unfold Lr; omega
  have hbr := BE.br (n := n) [] [] i h
  simp only [List.nil_append] at hbr
  generalize ((i + 1 : Nat) : Int) = a at *
  generalize ((i + 2 : Nat) : Int) = b at *
  have s1 : BE n [b, a, -b] [-a, a, b, a, -b] := (BE.frL' ha [b, a, -b]).sy
  have s2 : BE n [-a, a, b, a, -b] [-a, b, a, b, -b] := hbr.ctx [-a] [-b]
  have s3 : BE n [-a, b, a, b, -b] [-a, b, a] := BE.fr [-a, b, a] [] b hb
  exact s1.tr (s2.tr s3)
theorem lr3 {n : Nat} {a b c : Int} (ha : Lr n a) (hb : Lr n b) (hc : Lr n c) : ∀ x ∈ [a, b, c], Lr n x := fun x hx => by
  simp only [List.mem_cons, List.not_mem_nil, or_false] at hx
  rcases hx with rfl | rfl | rfl
  · exact ha
  · exact hb
  · exact hc
end Go.Ev.Ytffepojldjodcaa
