/- MeetOfParts: the law. -/
import Derived.Test.YteclcmiopobnaaaMp5
set_option linter.unusedVariables false
set_option linter.unusedSimpArgs false
namespace Go.Ev.Yteclcmiopobnaaa.P
open Go.Ev.Yteclcmiopobnaaa
open Go.Ev Go.Gar
/-- In the same groups of both. -/
def sm (a b : Nat → Nat) (x y : Nat) : Bool := decide (a x = a y) && decide (b x = b y)
theorem sm_iff {a b : Nat → Nat} {x y : Nat} : sm a b x y = true ↔ a x = a y ∧ b x = b y := by simp [sm]
/-- The least of the common group. -/
def ls (a b : Nat → Nat) (i : Nat) : Nat → Nat → Nat
  | 0, _ => i
  | d + 1, j => if sm a b j i then j else ls a b i d (j + 1)
def lst (a b : Nat → Nat) (i : Nat) : Nat := ls a b i i 0
theorem ls_spec (a b : Nat → Nat) (i : Nat) : ∀ d j, j + d = i → (∀ y, y < j → sm a b y i = false) → ls a b i d j ≤ i ∧ sm a b (ls a b i d j) i = true ∧ ∀ y, y < ls a b i d j → sm a b y i = false := by
  intro d
  induction d with
  | zero =>
    intro j hj h
    have : j = i := by omega
    subst this
    exact ⟨Nat.le_refl _, sm_iff.2 ⟨rfl, rfl⟩, h⟩
  | succ d ih =>
    intro j hj h
    rw [ls]
    by_cases h1 : sm a b j i = true
    · rw [if_pos h1]
      exact ⟨by omega, h1, h⟩
    · rw [if_neg h1]
      refine ih (j + 1) (by omega) (fun y hy => ?_)
      by_cases h2 : y = j
      · rw [h2]; simpa using h1
      · exact h y (by omega)
theorem lst_spec (a b : Nat → Nat) (i : Nat) : lst a b i ≤ i ∧ sm a b (lst a b i) i = true ∧ ∀ y, y < lst a b i → sm a b y i = false := ls_spec a b i i 0 (by omega) (fun y hy => by omega)
theorem lst_eq {a b : Nat → Nat} {x y : Nat} (h : sm a b x y = true) : lst a b x = lst a b y := by
  have hx := lst_spec a b x
  have hy := lst_spec a b y
  rw [sm_iff] at h
  apply Classical.byContradiction
  intro hne
  rcases Nat.lt_or_gt_of_ne hne with h1 | h1
  · have := hy.2.2 _ h1
    have h2 := sm_iff.1 hx.2.1
    rw [sm_iff.2 ⟨by omega, by omega⟩] at this
    exact Bool.noConfusion this
  · have := hx.2.2 _ h1
    have h2 := sm_iff.1 hy.2.1
    rw [sm_iff.2 ⟨by omega, by omega⟩] at this
    exact Bool.noConfusion this
theorem lst_can (n : Nat) (a b : Nat → Nat) : Can n (lst a b) := fun x _ => ⟨(lst_spec a b x).1, lst_eq (lst_spec a b x).2.1⟩
theorem lst_of {a b : Nat → Nat} {i c : Nat} (h1 : sm a b c i = true) (h2 : ∀ y, y < c → sm a b y i = false) : c = lst a b i := by
  have hs := lst_spec a b i
  apply Classical.byContradiction
  intro hne
  rcases Nat.lt_or_gt_of_ne hne with h | h
  · rw [hs.2.2 c h] at h1; exact Bool.noConfusion h1
  · have := h2 _ h
    rw [hs.2.1] at this
    exact Bool.noConfusion this
/-! ### the reference -/
/-- The least from c on, or v. -/
def us (n : Nat) (a b : Nat → Nat) (i v : Nat) : Nat → Nat → Nat
  | 0, _ => v
  | d + 1, c => if c < n ∧ sm a b c i = true then c else us n a b i v d (c + 1)
theorem us_lst {n : Nat} {a b : Nat → Nat} {i v : Nat} (hi : i < n) : ∀ d c, c ≤ lst a b i → n ≤ c + d → us n a b i v d c = lst a b i := by
  have hs := lst_spec a b i
  intro d
  induction d with
  | zero => intro c h1 h2; omega
  | succ d ih =>
    intro c h1 h2
    rw [us]
    by_cases h : c = lst a b i
    · rw [if_pos ⟨by omega, by rw [h]; exact hs.2.1⟩, h]
    · have hf := hs.2.2 c (by omega)
      rw [if_neg (by rw [hf]; simp), ih (c + 1) (by omega) (by omega)]
/-! ### the program -/
/-- Labels after the first j of row i. -/
def mi (a b : Nat → Nat) (i j x : Nat) : Nat := if x < i then lst a b x else if x = i then (if lst a b i < j then lst a b i else i) else x
theorem mi_step {n : Nat} {a b : Nat → Nat} {i j : Nat} (hi : i < n) (hj : j < i) (h : sm a b j i = true) : Gl n (mrg (mi a b i j) j i) = Gl n (mi a b i (j + 1)) := by
  have hl := lst_eq h
  have hsi := lst_spec a b i
  have hsj := lst_spec a b j
  have e1 : mi a b i j j = lst a b i := by
    unfold mi
    rw [if_pos hj, hl]
  have hji : lst a b i ≤ j := by omega
  apply Gl_congr
  intro x hx
  have hsx := lst_spec a b x
  unfold mrg
  by_cases hlt : lst a b i < j
  · have e2 : mi a b i j i = lst a b i := by
      unfold mi
      rw [if_neg (by omega), if_pos rfl, if_pos hlt]
    rw [e1, e2, Nat.max_self, Nat.min_self]
    have e3 : mi a b i (j + 1) x = mi a b i j x := by
      unfold mi
      rw [if_pos hlt, if_pos (show lst a b i < j + 1 by omega)]
    rw [e3]
    split
    · rename_i h; exact h.symm
    · rfl
  · have e2 : mi a b i j i = i := by
      unfold mi
      rw [if_neg (by omega), if_pos rfl, if_neg hlt]
    rw [e1, e2, Nat.max_eq_right (by omega), Nat.min_eq_left (by omega)]
    unfold mi
    by_cases h1 : x < i
    · rw [if_pos h1, if_pos h1, if_neg (by omega)]
    · rw [if_neg h1, if_neg h1]
      by_cases h2 : x = i
      · rw [if_pos h2, if_pos h2, if_neg hlt, if_pos rfl, if_pos (by omega)]
      · rw [if_neg h2, if_neg h2, if_neg h2]
theorem mi_same {n : Nat} {a b : Nat → Nat} {i j : Nat} (h : sm a b j i = false) : Gl n (mi a b i j) = Gl n (mi a b i (j + 1)) := by
  apply Gl_congr
  intro x _
  have hs := (lst_spec a b i).2.1
  have hne : lst a b i ≠ j := fun h1 => by rw [h1, h] at hs; exact Bool.noConfusion hs
  unfold mi
  by_cases h1 : lst a b i < j
  · rw [if_pos h1, if_pos (show lst a b i < j + 1 by omega)]
  · rw [if_neg h1, if_neg (show ¬ lst a b i < j + 1 by omega)]
theorem mi_next {n : Nat} (a b : Nat → Nat) (i : Nat) : Gl n (mi a b i i) = Gl n (mi a b (i + 1) 0) := by
  apply Gl_congr
  intro x _
  have hs := (lst_spec a b i).1
  unfold mi
  by_cases h1 : x < i
  · rw [if_pos h1, if_pos (by omega)]
  · rw [if_neg h1]
    by_cases h2 : x = i
    · subst h2
      rw [if_pos rfl, if_pos (show x < x + 1 by omega)]
      split
      · rfl
      · omega
    · rw [if_neg h2, if_neg (show ¬ x < i + 1 by omega)]
      split
      · rename_i h3
        rw [if_neg (Nat.not_lt_zero _), h3]
      · rfl
theorem c_meetParts_8 (n : Nat) (hn : n ≤ 8) (a b : Nat → Nat) (x0 : List Int) (i : Nat) (hi : i < n) (x5 x6 : Int) : ∀ (j : Nat), j ≤ i →
    R ii_meetParts_8 [tA8 x0, tLI (Gl n a), tLI (Gl n b), tLI (Gl n (mi a b i j)), tI (i : Int), tI x5, tI x6, tI (i : Int), tI (j : Int)] = some [tI 0, tA8 x0, tLI (Gl n a), tLI (Gl n b), tLI (Gl n (mi a b i i)), tI x5, tI x6] := by
  refine up_loop _ ?_ (fun j hj ih => ?_)
  · apply vi_meetParts_8
    have h1 : ¬ ((i : Int) < (i : Int)) := by omega
    simp only [bi_meetParts_8, decide_eq_false h1, cond_false]
  · apply vi_meetParts_8
    have hjn : j < n := by omega
    have w : wi64 ((j : Int) + 1) = ((j + 1 : Nat) : Int) := by rw [wrap_i64] <;> omega
    have v1 : decide ((j : Int) < (i : Int)) = true := decide_eq_true (by omega)
    have v2 : decide ((0 : Int) ≤ (j : Int)) = true := decide_eq_true (by omega)
    have v3 : decide ((0 : Int) ≤ (i : Int)) = true := decide_eq_true (by omega)
    have v4 : decide ((i : Int) < (n : Int)) = true := decide_eq_true (by omega)
    have v5 : decide ((j : Int) < (n : Int)) = true := decide_eq_true (by omega)
    simp only [bi_meetParts_8, Gl_len, v1, v2, v3, v4, v5, cond_true, Bool.and_true, Int.toNat_natCast, Gl_get hjn, Gl_get hi, beq_nn, w, c_merge n hn _ j i hjn hi, Option.bind_some, getTV_here]
    by_cases e1 : a j = a i
    · by_cases e2 : b j = b i
      · simp only [decide_eq_true e1, decide_eq_true e2, cond_true, mi_step hi hj (sm_iff.2 ⟨e1, e2⟩), ih]
      · have hs : sm a b j i = false := by
          rw [Bool.eq_false_iff]
          exact fun h => e2 (sm_iff.1 h).2
        simp only [decide_eq_true e1, decide_eq_false e2, cond_true, cond_false, mi_same hs, ih]
    · have hs : sm a b j i = false := by
        rw [Bool.eq_false_iff]
        exact fun h => e1 (sm_iff.1 h).1
      simp only [decide_eq_false e1, cond_false, mi_same hs, ih]
theorem c_meetParts_5 (n : Nat) (hn : n ≤ 8) (a b : Nat → Nat) (x0 : List Int) : ∀ (i : Nat), i ≤ n →
    R ii_meetParts_5 [tA8 x0, tLI (Gl n a), tLI (Gl n b), tLI (Gl n (mi a b i 0)), tI (n : Int), tI (i : Int)] = some [tI 0, tA8 x0, tLI (Gl n (lst a b))] := by
  refine up_loop _ ?_ (fun i hi ih => ?_)
  · apply vi_meetParts_5
    have h1 : ¬ ((n : Int) < (n : Int)) := by omega
    have e : Gl n (mi a b n 0) = Gl n (lst a b) := Gl_congr (fun x hx => if_pos hx)
    simp only [bi_meetParts_5, decide_eq_false h1, cond_false, e]
  · apply vi_meetParts_5
    have w : wi64 ((i : Int) + 1) = ((i + 1 : Nat) : Int) := by rw [wrap_i64] <;> omega
    have v1 : decide ((i : Int) < (n : Int)) = true := decide_eq_true (by omega)
    have h8 := c_meetParts_8 n hn a b x0 i hi (n : Int) (i : Int) 0 (Nat.zero_le _)
    rw [mi_next] at h8
    simp only [Int.natCast_zero] at h8
    simp only [bi_meetParts_5, v1, cond_true, h8, Option.bind_some, getTV_here, getTV_next, w, ih]
theorem c_meetParts (n : Nat) (hn1 : 1 ≤ n) (hn : n ≤ 8) (a b : Nat → Nat) (ha : Can n a) (hb : Can n b) : R ii_meetParts [tA8 (A8 n (mdf n a)), tA8 (A8 n (mdf n b)), tI (n : Int)] = some [tA8 (A8 n (mdf n (lst a b)))] := by
  have h5 := c_meetParts_5 n hn a b (List.replicate 8 0) 0 (Nat.zero_le _)
  have e : Gl n (mi a b 0 0) = Gl n id := by
    apply Gl_congr
    intro x _
    unfold mi
    rw [if_neg (by omega)]
    by_cases h : x = 0
    · rw [if_pos h, if_neg (by omega), h]; rfl
    · rw [if_neg h]; rfl
  rw [e] at h5
  simp only [Int.natCast_zero] at h5
  apply vi_meetParts
  simp only [bi_meetParts, c_groupsOf n hn a ha, c_groupsOf n hn b hb, c_fineGroups n hn, Option.bind_some, getTV_here, getTV_next, h5, c_part n hn _ (lst_can n a b)]
end Go.Ev.Yteclcmiopobnaaa.P
