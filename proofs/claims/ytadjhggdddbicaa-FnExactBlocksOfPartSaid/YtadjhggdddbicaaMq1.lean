/- Blocks of parts, their ranks and their words: the laws RankOf and WordOfPart. -/
import Derived.Test.YtadjhggdddbicaaMp1
import Derived.Test.YtadjhggdddbicaaMp5
set_option linter.unusedVariables false
set_option linter.unusedSimpArgs false
namespace Go.Ev.Ytadjhggdddbicaa
open Go.Ev
/-- The numbers with label x, from y on, d of them looked at. -/
def bk (g : Nat → Nat) (x : Nat) : Nat → Nat → List Int
  | 0, _ => []
  | d + 1, y => if g y = x then (y : Int) :: bk g x d (y + 1) else bk g x d (y + 1)
theorem bk_len (g : Nat → Nat) (x : Nat) : ∀ d y, (bk g x d y).length ≤ d
  | 0, _ => Nat.le_refl _
  | d + 1, y => by
    have := bk_len g x d (y + 1)
    simp only [bk]
    split
    · simp; omega
    · omega
theorem bk_mem {g : Nat → Nat} {x : Nat} : ∀ {d y : Nat} {z : Int}, z ∈ bk g x d y → ∃ k : Nat, z = (k : Int) ∧ y ≤ k ∧ k < y + d ∧ g k = x
  | 0, _, _, h => by simp [bk] at h
  | d + 1, y, z, h => by
    simp only [bk] at h
    split at h
    · rename_i e
      rcases List.mem_cons.1 h with rfl | h
      · exact ⟨y, rfl, Nat.le_refl _, by omega, e⟩
      · obtain ⟨k, k1, k2, k3, k4⟩ := bk_mem h
        exact ⟨k, k1, by omega, by omega, k4⟩
    · obtain ⟨k, k1, k2, k3, k4⟩ := bk_mem h
      exact ⟨k, k1, by omega, by omega, k4⟩
theorem bk_sorted {g : Nat → Nat} {x : Nat} : ∀ {d y : Nat}, (bk g x d y).Pairwise (· < ·)
  | 0, _ => by simp [bk]
  | d + 1, y => by
    simp only [bk]
    split
    · refine List.Pairwise.cons (fun z hz => ?_) bk_sorted
      obtain ⟨k, rfl, k2, _⟩ := bk_mem hz
      omega
    · exact bk_sorted
/-- The blocks, from x on. -/
def bks (n : Nat) (g : Nat → Nat) : Nat → Nat → List (List Int)
  | 0, _ => []
  | d + 1, x => if g x = x then bk g x (n - x) x :: bks n g d (x + 1) else bks n g d (x + 1)
theorem bks_len (n : Nat) (g : Nat → Nat) : ∀ d x, (bks n g d x).length ≤ d
  | 0, _ => Nat.le_refl _
  | d + 1, x => by
    have := bks_len n g d (x + 1)
    simp only [bks]
    split
    · simp; omega
    · omega
theorem bks_mem {n : Nat} {g : Nat → Nat} : ∀ {d x : Nat} {b : List Int}, b ∈ bks n g d x → ∃ k, x ≤ k ∧ k < x + d ∧ g k = k ∧ b = bk g k (n - k) k
  | 0, _, _, h => by simp [bks] at h
  | d + 1, x, b, h => by
    simp only [bks] at h
    split at h
    · rename_i e
      rcases List.mem_cons.1 h with rfl | h
      · exact ⟨x, Nat.le_refl _, by omega, e, rfl⟩
      · obtain ⟨k, k1, k2, k3, k4⟩ := bks_mem h
        exact ⟨k, by omega, by omega, k3, k4⟩
    · obtain ⟨k, k1, k2, k3, k4⟩ := bks_mem h
      exact ⟨k, by omega, by omega, k3, k4⟩
theorem beq_nn' (a b : Nat) : (((a : Int)) == (b : Int)) = decide (a = b) := by
  by_cases e : a = b
  · subst e; simp
  · have : ¬ ((a : Int) = b) := by omega
    rw [decide_eq_false e]
    exact beq_eq_false_iff_ne.2 this
theorem bne_nn' (a b : Nat) : (((a : Int)) != (b : Int)) = !decide (a = b) := by rw [← beq_nn']; rfl
theorem c_l07Blocks_9 (n : Nat) (hn : n ≤ 8) (g : Nat → Nat) (x1 : List (List Int)) (x : Nat) : ∀ (d y : Nat) (acc : List Int), y + d = n → acc.length + d ≤ 1000 →
    R is_l07Blocks_9 [tAi8 (A8 n g), tLLI x1, tLI acc, tI (n : Int), tI (x : Int), tI (y : Int)] = some [tI 0, tAi8 (A8 n g), tLLI x1, tLI (acc ++ bk g x d y), tI (n : Int), tI (x : Int)] := by
  intro d
  induction d with
  | zero =>
    intro y acc hy _
    apply vs_l07Blocks_9
    have h1 : ¬ ((y : Int) < n) := by omega
    simp [bs_l07Blocks_9, h1, bk]
  | succ d ih =>
    intro y acc hy ha
    apply vs_l07Blocks_9
    have ap : apOk acc [(y : Int)] = true := apOk1 (by omega)
    have w : wi64 ((y : Int) + 1) = ((y + 1 : Nat) : Int) := by rw [wrap_i64] <;> omega
    have hg : List.getD (A8 n g) y 0 = (g y : Int) := A8_get (by omega) hn
    simp (disch := omega) only [bs_l07Blocks_9, decide_eq_true, cond_true, Bool.and_true, Int.toNat_natCast, hg, beq_nn', ap, w]
    by_cases e : g y = x
    · simp only [decide_eq_true e, cond_true, bk, if_pos e]
      rw [ih (y + 1) _ (by omega) (by simp; omega), List.append_assoc]
      rfl
    · simp only [decide_eq_false e, cond_false, bk, if_neg e]
      exact ih (y + 1) _ (by omega) (by omega)
theorem c_l07Blocks_4 (n : Nat) (hn : n ≤ 8) (g : Nat → Nat) : ∀ (d x : Nat) (acc : List (List Int)), x + d = n → acc.length + d ≤ 1000 →
    R is_l07Blocks_4 [tAi8 (A8 n g), tLLI acc, tI (n : Int), tI (x : Int)] = some [tI 0, tLLI (acc ++ bks n g d x)] := by
  intro d
  induction d with
  | zero =>
    intro x acc hy _
    apply vs_l07Blocks_4
    have h1 : ¬ ((x : Int) < n) := by omega
    simp [bs_l07Blocks_4, h1, bks]
  | succ d ih =>
    intro x acc hx ha
    apply vs_l07Blocks_4
    have ap : apOk acc [bk g x (n - x) x] = true := apOk1 (by omega)
    have w : wi64 ((x : Int) + 1) = ((x + 1 : Nat) : Int) := by rw [wrap_i64] <;> omega
    have hg : List.getD (A8 n g) x 0 = (g x : Int) := A8_get (by omega) hn
    simp (disch := omega) only [bs_l07Blocks_4, decide_eq_true, cond_true, Bool.and_true, Int.toNat_natCast, hg, bne_nn']
    by_cases e : g x = x
    · have h9 := c_l07Blocks_9 n hn g acc x (n - x) x [] (by omega) (by simp; omega)
      simp only [List.nil_append] at h9
      simp only [decide_eq_true e, Bool.not_true, cond_false, h9, Option.bind_some, getTV_here, getTV_next, ap, cond_true, w, bks, if_pos e]
      rw [ih (x + 1) _ (by omega) (by simp; omega), List.append_assoc]
      rfl
    · simp only [decide_eq_false e, Bool.not_false, cond_true, w, bks, if_neg e]
      exact ih (x + 1) _ (by omega) (by omega)
theorem c_l07Blocks (n : Nat) (hn : n ≤ 8) (g : Nat → Nat) (hg : Can n g) : R is_l07Blocks [tA8 (A8 n (mdf n g)), tI (n : Int)] = some [tLLI (bks n g n 0)] := by
  apply vs_l07Blocks
  have h4 := c_l07Blocks_4 n hn g n 0 [] (by omega) (by simp; omega)
  simp only [Int.natCast_zero, List.nil_append] at h4
  simp only [bs_l07Blocks, c_l07Least n hn g hg, Option.bind_some, getTV_here, getTV_next, h4]
theorem c_blocksOf_9 (n : Nat) (hn : n ≤ 8) (g : Nat → Nat) (x1 : List (List Int)) (x : Nat) (p q : Int) : ∀ (d y : Nat) (acc : List Int), y + d = n → acc.length + d ≤ 1000 →
    R ii_blocksOf_9 [tLI (Gl n g), tLLI x1, tLI acc, tI (n : Int), tI (x : Int), tI (y : Int), tI p, tI q] = some [tI 0, tLI (Gl n g), tLLI x1, tLI (acc ++ bk g x d y), tI (n : Int), tI p, tI q] := by
  intro d
  induction d with
  | zero =>
    intro y acc hy _
    apply vi_blocksOf_9
    have h1 : ¬ ((y : Int) < n) := by omega
    simp [bi_blocksOf_9, h1, bk]
  | succ d ih =>
    intro y acc hy ha
    apply vi_blocksOf_9
    have ap : apOk acc [(y : Int)] = true := apOk1 (by omega)
    have w : wi64 ((y : Int) + 1) = ((y + 1 : Nat) : Int) := by rw [wrap_i64] <;> omega
    have hg : List.getD (Gl n g) y 0 = (g y : Int) := Gl_get (by omega)
    simp (disch := omega) only [bi_blocksOf_9, decide_eq_true, cond_true, Bool.and_true, Int.toNat_natCast, hg, beq_nn', ap, w, Gl_len]
    by_cases e : g y = x
    · simp only [decide_eq_true e, cond_true, bk, if_pos e]
      rw [ih (y + 1) _ (by omega) (by simp; omega), List.append_assoc]
      rfl
    · simp only [decide_eq_false e, cond_false, bk, if_neg e]
      exact ih (y + 1) _ (by omega) (by omega)
theorem c_blocksOf_4 (n : Nat) (hn : n ≤ 8) (g : Nat → Nat) : ∀ (d x : Nat) (acc : List (List Int)), x + d = n → acc.length + d ≤ 1000 →
    R ii_blocksOf_4 [tLI (Gl n g), tLLI acc, tI (n : Int), tI (n : Int), tI (x : Int)] = some [tI 0, tLLI (acc ++ bks n g d x)] := by
  intro d
  induction d with
  | zero =>
    intro x acc hy _
    apply vi_blocksOf_4
    have h1 : ¬ ((x : Int) < n) := by omega
    simp [bi_blocksOf_4, h1, bks]
  | succ d ih =>
    intro x acc hx ha
    apply vi_blocksOf_4
    have ap : apOk acc [bk g x (n - x) x] = true := apOk1 (by omega)
    have w : wi64 ((x : Int) + 1) = ((x + 1 : Nat) : Int) := by rw [wrap_i64] <;> omega
    have hg : List.getD (Gl n g) x 0 = (g x : Int) := Gl_get (by omega)
    simp (disch := omega) only [bi_blocksOf_4, decide_eq_true, cond_true, Bool.and_true, Int.toNat_natCast, hg, bne_nn', Gl_len]
    by_cases e : g x = x
    · have h9 := c_blocksOf_9 n hn g acc x (n : Int) (x : Int) (n - x) x [] (by omega) (by simp; omega)
      simp only [List.nil_append] at h9
      simp only [decide_eq_true e, Bool.not_true, cond_false, h9, Option.bind_some, getTV_here, getTV_next, ap, cond_true, w, bks, if_pos e]
      rw [ih (x + 1) _ (by omega) (by simp; omega), List.append_assoc]
      rfl
    · simp only [decide_eq_false e, Bool.not_false, cond_true, w, bks, if_neg e]
      exact ih (x + 1) _ (by omega) (by omega)
theorem c_blocksOf (n : Nat) (hn : n ≤ 8) (g : Nat → Nat) (hg : Can n g) : R ii_blocksOf [tA8 (A8 n (mdf n g)), tI (n : Int)] = some [tLLI (bks n g n 0)] := by
  apply vi_blocksOf
  have h4 := c_blocksOf_4 n hn g n 0 [] (by omega) (by simp; omega)
  simp only [Int.natCast_zero, List.nil_append] at h4
  simp only [bi_blocksOf, c_groupsOf n hn g hg, Option.bind_some, getTV_here, getTV_next, h4]
/-- A part, its number of strands and its labels. -/
theorem isPt_ok {a : List Int} {k : Int} (h : isPt a k = true) : ∃ (n : Nat) (g : Nat → Nat), k = (n : Int) ∧ 1 ≤ n ∧ n ≤ 8 ∧ Can n g ∧ crs n g = false ∧ a = A8 n (mdf n g) := by
  rcases isPt_cases a k with h1 | ⟨_, n, g, _, h1, h2, h3, h4, h5, h6, _⟩
  · rw [h] at h1; simp at h1
  · exact ⟨n, g, h3, h1, h2, h4, h5, h6⟩
/-- Both ways to the blocks answer alike. -/
theorem blocks_both (a : List Int) (k : Int) (h : isPt a k = true) : ∃ (n : Nat) (g : Nat → Nat), k = (n : Int) ∧ 1 ≤ n ∧ n ≤ 8 ∧ Can n g ∧ R is_l07Blocks [tA8 a, tI k] = some [tLLI (bks n g n 0)] ∧ R ii_blocksOf [tA8 a, tI k] = some [tLLI (bks n g n 0)] := by
  obtain ⟨n, g, rfl, h1, h2, h3, h4, rfl⟩ := isPt_ok h
  exact ⟨n, g, rfl, h1, h2, h3, c_l07Blocks n h2 g h3, c_blocksOf n h2 g h3⟩
/-! ### words -/
/-- The bands of the first i + 1 numbers of a block, the last first. -/
def wb (b : List Int) : Nat → List Int
  | 0 => []
  | i + 1 => bandL (List.getD b (i + 1) 0) (List.getD b i 0) ++ wb b i
def wbs : List (List Int) → List Int
  | [] => []
  | b :: r => wb b (b.length - 1) ++ wbs r
/-- a block of numbers below 8 -/
def Blk (b : List Int) : Prop := b ≠ [] ∧ b.length ≤ 8 ∧ ∀ i, i + 1 < b.length → 0 ≤ List.getD b i 0 ∧ List.getD b i 0 < List.getD b (i + 1) 0 ∧ List.getD b (i + 1) 0 ≤ 7
theorem wb_len {b : List Int} (hb : Blk b) : ∀ i, i < b.length → (wb b i).length ≤ 200 * i
  | 0, _ => by simp [wb]
  | i + 1, h => by
    have h1 := wb_len hb i (by omega)
    obtain ⟨k1, k2, k3⟩ := hb.2.2 i h
    have h2 := bandL_len _ _ k2 (by omega) k1
    simp only [wb, List.length_append]
    omega
theorem wbs_len : ∀ {l : List (List Int)}, (∀ b ∈ l, Blk b) → (wbs l).length ≤ 1600 * l.length
  | [], _ => by simp [wbs]
  | b :: r, h => by
    have hb := h b (by simp)
    have h1 := wb_len hb (b.length - 1) (by have := List.length_pos_iff.2 hb.1; omega)
    have h2 := wbs_len (l := r) (fun b hb => h b (by simp [hb]))
    have h3 := hb.2.1
    simp only [wbs, List.length_append, List.length_cons]
    omega
theorem bks_Blk {n : Nat} (hn : n ≤ 8) {g : Nat → Nat} : ∀ b ∈ bks n g n 0, Blk b := by
  intro b hb
  obtain ⟨k, k1, k2, k3, rfl⟩ := bks_mem hb
  have hk : n - k = (n - k - 1) + 1 := by omega
  have hl := bk_len g k (n - k) k
  have hs := bk_sorted (g := g) (x := k) (d := n - k) (y := k)
  refine ⟨?_, by omega, fun i hi => ?_⟩
  · rw [hk]; simp [bk, k3]
  · have e1 := getD_at (l := bk g k (n - k) k) (i := i) (by omega)
    have e2 := getD_at (l := bk g k (n - k) k) (i := i + 1) hi
    rw [e1, e2]
    have m1 := List.getElem_mem (l := bk g k (n - k) k) (n := i) (by omega)
    have m2 := List.getElem_mem (l := bk g k (n - k) k) (n := i + 1) hi
    obtain ⟨p, p1, _⟩ := bk_mem m1
    obtain ⟨q, q1, q2, q3, _⟩ := bk_mem m2
    refine ⟨by omega, ?_, by omega⟩
    exact (List.pairwise_iff_getElem.1 hs) i (i + 1) (by omega) hi (by omega)
/-- The word of a part, told by its labels. -/
def wPart (n : Nat) (g : Nat → Nat) : List Int := wbs (bks n g n 0)
theorem wPart_len {n : Nat} (hn : n ≤ 8) (g : Nat → Nat) : (wPart n g).length ≤ 12800 := by
  have h1 := wbs_len (bks_Blk hn (g := g))
  have h2 := bks_len n g n 0
  unfold wPart
  omega
end Go.Ev.Ytadjhggdddbicaa
