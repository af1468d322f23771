/- MeetOfParts: the law. -/
import Derived.Test.YtadjhggdddbicaaMp5
set_option linter.unusedVariables false
set_option linter.unusedSimpArgs false
namespace Go.Ev.Ytadjhggdddbicaa
open Go.Ev Go.Gar
/-- In the same groups of both. -/
def sm (a b : Nat → Nat) (x y : Nat) : Bool := decide (a x = a y) && decide (b x = b y)
theorem sm_iff {a b : Nat → Nat} {x y : Nat} : sm a b x y = true ↔ a x = a y ∧ b x = b y := by simp [sm]
/-- The least of the common group. -/
def ls (a b : Nat → Nat) (i : Nat) : Nat → Nat → Nat
  | 0, _ => i
  | d + 1, j => if sm a b j i then j else ls a b i d (j + 1)
def lst (a b : Nat → Nat) (i : Nat) : Nat := ls a b i i 0
theorem ls_spec (a b : Nat → Nat) (i : Nat) : ∀ d j, j + d = i → (∀ y, y < j → sm a b y i = false) → ls a b i d j ≤ i ∧ sm a b (ls a b i d j) i = true ∧ ∀ y, y < ls a b i d j → sm a b y i = false := by
  intro d
  induction d with
  | zero =>
    intro j hj h
    have : j = i := by omega
    subst this
    exact ⟨Nat.le_refl _, sm_iff.2 ⟨rfl, rfl⟩, h⟩
  | succ d ih =>
    intro j hj h
    rw [ls]
    by_cases h1 : sm a b j i = true
    · rw [if_pos h1]
      exact ⟨by omega, h1, h⟩
    · rw [if_neg h1]
      refine ih (j + 1) (by omega) (fun y hy => ?_)
      by_cases h2 : y = j
      · rw [h2]; simpa using h1
      · exact h y (by omega)
theorem lst_spec (a b : Nat → Nat) (i : Nat) : lst a b i ≤ i ∧ sm a b (lst a b i) i = true ∧ ∀ y, y < lst a b i → sm a b y i = false := ls_spec a b i i 0 (by omega) (fun y hy => by omega)
theorem lst_eq {a b : Nat → Nat} {x y : Nat} (h : sm a b x y = true) : lst a b x = lst a b y := by
  have hx := lst_spec a b x
  have hy := lst_spec a b y
  rw [sm_iff] at h
  apply Classical.byContradiction
  intro hne
  rcases Nat.lt_or_gt_of_ne hne with h1 | h1
  · have := hy.2.2 _ h1
    have h2 := sm_iff.1 hx.2.1
    rw [sm_iff.2 ⟨by omega, by omega⟩] at this
    exact Bool.noConfusion this
  · have := hx.2.2 _ h1
    have h2 := sm_iff.1 hy.2.1
    rw [sm_iff.2 ⟨by omega, by omega⟩] at this
    exact Bool.noConfusion this
theorem lst_can (n : Nat) (a b : Nat → Nat) : Can n (lst a b) := fun x _ => ⟨(lst_spec a b x).1, lst_eq (lst_spec a b x).2.1⟩
theorem lst_of {a b : Nat → Nat} {i c : Nat} (h1 : sm a b c i = true) (h2 : ∀ y, y < c → sm a b y i = false) : c = lst a b i := by
  have hs := lst_spec a b i
  apply Classical.byContradiction
  intro hne
  rcases Nat.lt_or_gt_of_ne hne with h | h
  · rw [hs.2.2 c h] at h1; exact Bool.noConfusion h1
  · have := h2 _ h
    rw [hs.2.1] at this
    exact Bool.noConfusion this
/-! ### the reference -/
/-- The least from c on, or v. -/
def us (n : Nat) (a b : Nat → Nat) (i v : Nat) : Nat → Nat → Nat
  | 0, _ => v
  | d + 1, c => if c < n ∧ sm a b c i = true then c else us n a b i v d (c + 1)
theorem us_lst {n : Nat} {a b : Nat → Nat} {i v : Nat} (hi : i < n) : ∀ d c, c ≤ lst a b i → n ≤ c + d → us n a b i v d c = lst a b i := by
  have hs := lst_spec a b i
  intro d
  induction d with
  | zero => intro c h1 h2; omega
  | succ d ih =>
    intro c h1 h2
    rw [us]
    by_cases h : c = lst a b i
    · rw [if_pos ⟨by omega, by rw [h]; exact hs.2.1⟩, h]
    · have hf := hs.2.2 c (by omega)
      rw [if_neg (by rw [hf]; simp), ih (c + 1) (by omega) (by omega)]
theorem c_l07Meet_8 (n : Nat) (hn : n ≤ 8) (a b : Nat → Nat) (x0 : List Int) (i : Nat) (hi : i < n) (v : Nat) : ∀ (c : Nat) (h : Nat → Nat), c ≤ 8 → h i = us n a b i v (8 - c) c →
    R is_l07Meet_8 [tA8 x0, tAi8 (A8 n a), tAi8 (A8 n b), tAi8 (A8 n h), tI (n : Int), tI (i : Int), tI ((c : Int) - 1)] = some [tI 0, tA8 x0, tAi8 (A8 n a), tAi8 (A8 n b), tAi8 (A8 n (fun x => if x = i then lst a b i else h x)), tI (n : Int), tI (i : Int)] := by
  intro c
  induction c with
  | zero =>
    intro h _ hh
    apply vs_l07Meet_8
    have h1 : ¬ ((0 : Int) ≤ ((0 : Nat) : Int) - 1) := by omega
    have e : A8 n h = A8 n (fun x => if x = i then lst a b i else h x) := by
      apply A8_congr
      intro x _
      by_cases hx : x = i
      · rw [if_pos hx, hx, hh, us_lst hi 8 0 (Nat.zero_le _) (by omega)]
      · rw [if_neg hx]
    rw [← e]
    simp only [bs_l07Meet_8, decide_eq_false h1, cond_false]
  | succ c ih =>
    intro h hc hh
    have e8 : 8 - c = (8 - (c + 1)) + 1 := by omega
    have hu : us n a b i v (8 - c) c = if c < n ∧ sm a b c i = true then c else us n a b i v (8 - (c + 1)) (c + 1) := by rw [e8, us]
    have e0 : ((c + 1 : Nat) : Int) - 1 = (c : Int) := by omega
    have w : wi64 ((c : Int) - 1) = (c : Int) - 1 := by rw [wrap_i64] <;> omega
    have v1 : decide ((0 : Int) ≤ (c : Int)) = true := decide_eq_true (by omega)
    have v2 : decide ((c : Int) < 8) = true := decide_eq_true (by omega)
    have v3 : decide ((0 : Int) ≤ (i : Int)) = true := decide_eq_true (by omega)
    have v4 : decide ((i : Int) < 8) = true := decide_eq_true (by omega)
    apply vs_l07Meet_8
    rw [e0]
    by_cases hcn : c < n
    · have v5 : decide ((c : Int) < (n : Int)) = true := decide_eq_true (by omega)
      simp only [bs_l07Meet_8, v1, v2, v3, v4, v5, cond_true, Bool.and_true, Int.toNat_natCast, A8_get hcn hn, A8_get hi hn, beq_nn, w, A8_set hi hn]
      by_cases e1 : a c = a i
      · by_cases e2 : b c = b i
        · rw [if_pos ⟨hcn, sm_iff.2 ⟨e1, e2⟩⟩] at hu
          have ih' := ih (fun x => if x = i then c else h x) (by omega) (by simp only [if_true]; exact hu.symm)
          have e : A8 n (fun x => if x = i then lst a b i else if x = i then c else h x) = A8 n (fun x => if x = i then lst a b i else h x) := by
            apply A8_congr
            intro x _
            by_cases hx : x = i
            · rw [if_pos hx, if_pos hx]
            · rw [if_neg hx, if_neg hx, if_neg hx]
          rw [e] at ih'
          simp only [decide_eq_true e1, decide_eq_true e2, cond_true, ih']
        · rw [if_neg (fun h => e2 (sm_iff.1 h.2).2)] at hu
          simp only [decide_eq_true e1, decide_eq_false e2, cond_true, cond_false, ih h (by omega) (by rw [hh, hu])]
      · rw [if_neg (fun h => e1 (sm_iff.1 h.2).1)] at hu
        simp only [decide_eq_false e1, cond_false, ih h (by omega) (by rw [hh, hu])]
    · have v5 : decide ((c : Int) < (n : Int)) = false := decide_eq_false (by omega)
      rw [if_neg (fun h => hcn h.1)] at hu
      simp only [bs_l07Meet_8, v1, v5, cond_true, cond_false, w, ih h (by omega) (by rw [hh, hu])]
theorem c_l07Meet_5 (n : Nat) (hn : n ≤ 8) (a b : Nat → Nat) (x0 : List Int) : ∀ (c : Nat), c ≤ n →
    R is_l07Meet_5 [tA8 x0, tAi8 (A8 n a), tAi8 (A8 n b), tAi8 (A8 n (fun x => if c ≤ x then lst a b x else 0)), tI (n : Int), tI ((c : Int) - 1)] = some [tI 0, tA8 x0, tAi8 (A8 n (lst a b)), tI (n : Int)] := by
  intro c
  induction c with
  | zero =>
    intro _
    apply vs_l07Meet_5
    have h1 : ¬ ((0 : Int) ≤ ((0 : Nat) : Int) - 1) := by omega
    have e : A8 n (fun x => if 0 ≤ x then lst a b x else 0) = A8 n (lst a b) := A8_congr (fun x _ => if_pos (Nat.zero_le _))
    simp only [bs_l07Meet_5, decide_eq_false h1, cond_false]
    rw [e]
  | succ c ih =>
    intro hc
    have hi : c < n := by omega
    have e0 : ((c + 1 : Nat) : Int) - 1 = (c : Int) := by omega
    have w : wi64 ((c : Int) - 1) = (c : Int) - 1 := by rw [wrap_i64] <;> omega
    have v1 : decide ((0 : Int) ≤ (c : Int)) = true := decide_eq_true (by omega)
    have h8 := c_l07Meet_8 n hn a b x0 c hi 0 8 (fun x => if c + 1 ≤ x then lst a b x else 0) (Nat.le_refl _) (by
      show (if c + 1 ≤ c then lst a b c else 0) = 0
      rw [if_neg (by omega)])
    have e : A8 n (fun x => if x = c then lst a b c else if c + 1 ≤ x then lst a b x else 0) = A8 n (fun x => if c ≤ x then lst a b x else 0) := by
      apply A8_congr
      intro x _
      by_cases hx : x = c
      · rw [if_pos hx, if_pos (by omega), hx]
      · rw [if_neg hx]
        by_cases hx' : c + 1 ≤ x
        · rw [if_pos hx', if_pos (by omega)]
        · rw [if_neg hx', if_neg (by omega)]
    rw [e] at h8
    have e7 : ((8 : Nat) : Int) - 1 = 7 := rfl
    rw [e7] at h8
    apply vs_l07Meet_5
    rw [e0]
    simp only [bs_l07Meet_5, v1, cond_true, h8, Option.bind_some, getTV_here, getTV_next, w, ih (by omega)]
theorem c_l07Meet (n : Nat) (hn1 : 1 ≤ n) (hn : n ≤ 8) (a b : Nat → Nat) (ha : Can n a) (hb : Can n b) : R is_l07Meet [tA8 (A8 n (mdf n a)), tA8 (A8 n (mdf n b)), tI (n : Int)] = some [tA8 (A8 n (mdf n (lst a b)))] := by
  have h5 := c_l07Meet_5 n hn a b (List.replicate 8 0) n (Nat.le_refl _)
  have e : A8 n (fun x => if n ≤ x then lst a b x else 0) = List.replicate 8 0 := by
    rw [A8_zero n]
    apply A8_congr
    intro x hx
    rw [if_neg (by omega)]
  have w : wi64 ((n : Int) - 1) = (n : Int) - 1 := by rw [wrap_i64] <;> omega
  rw [e] at h5
  apply vs_l07Meet
  simp only [bs_l07Meet, c_l07Least n hn a ha, c_l07Least n hn b hb, Option.bind_some, getTV_here, getTV_next, w, h5, c_l07Made n hn _ (lst_can n a b)]
/-! ### the program -/
/-- Labels after the first j of row i. -/
def mi (a b : Nat → Nat) (i j x : Nat) : Nat := if x < i then lst a b x else if x = i then (if lst a b i < j then lst a b i else i) else x
theorem mi_step {n : Nat} {a b : Nat → Nat} {i j : Nat} (hi : i < n) (hj : j < i) (h : sm a b j i = true) : Gl n (mrg (mi a b i j) j i) = Gl n (mi a b i (j + 1)) := by
  have hl := lst_eq h
  have hsi := lst_spec a b i
  have hsj := lst_spec a b j
  have e1 : mi a b i j j = lst a b i := by
    unfold mi
    rw [if_pos hj, hl]
  have hji : lst a b i ≤ j := by omega
  apply Gl_congr
  intro x hx
  have hsx := lst_spec a b x
  unfold mrg
  by_cases hlt : lst a b i < j
  · have e2 : mi a b i j i = lst a b i := by
      unfold mi
      rw [if_neg (by omega), if_pos rfl, if_pos hlt]
    rw [e1, e2, Nat.max_self, Nat.min_self]
    have e3 : mi a b i (j + 1) x = mi a b i j x := by
      unfold mi
      rw [if_pos hlt, if_pos (show lst a b i < j + 1 by omega)]
    rw [e3]
    split
    · rename_i h; exact h.symm
    · rfl
  · have e2 : mi a b i j i = i := by
      unfold mi
      rw [if_neg (by omega), if_pos rfl, if_neg hlt]
    rw [e1, e2, Nat.max_eq_right (by omega), Nat.min_eq_left (by omega)]
    unfold mi
    by_cases h1 : x < i
    · rw [if_pos h1, if_pos h1, if_neg (by omega)]
    · rw [if_neg h1, if_neg h1]
      by_cases h2 : x = i
      · rw [if_pos h2, if_pos h2, if_neg hlt, if_pos rfl, if_pos (by omega)]
      · rw [if_neg h2, if_neg h2, if_neg h2]
theorem mi_same {n : Nat} {a b : Nat → Nat} {i j : Nat} (h : sm a b j i = false) : Gl n (mi a b i j) = Gl n (mi a b i (j + 1)) := by
  apply Gl_congr
  intro x _
  have hs := (lst_spec a b i).2.1
  have hne : lst a b i ≠ j := fun h1 => by rw [h1, h] at hs; exact Bool.noConfusion hs
  unfold mi
  by_cases h1 : lst a b i < j
  · rw [if_pos h1, if_pos (show lst a b i < j + 1 by omega)]
  · rw [if_neg h1, if_neg (show ¬ lst a b i < j + 1 by omega)]
theorem mi_next {n : Nat} (a b : Nat → Nat) (i : Nat) : Gl n (mi a b i i) = Gl n (mi a b (i + 1) 0) := by
  apply Gl_congr
  intro x _
  have hs := (lst_spec a b i).1
  unfold mi
  by_cases h1 : x < i
  · rw [if_pos h1, if_pos (by omega)]
  · rw [if_neg h1]
    by_cases h2 : x = i
    · subst h2
      rw [if_pos rfl, if_pos (show x < x + 1 by omega)]
      split
      · rfl
      · omega
    · rw [if_neg h2, if_neg (show ¬ x < i + 1 by omega)]
      split
      · rename_i h3
        rw [if_neg (Nat.not_lt_zero _), h3]
      · rfl
theorem c_meetParts_8 (n : Nat) (hn : n ≤ 8) (a b : Nat → Nat) (x0 : List Int) (i : Nat) (hi : i < n) (x5 x6 : Int) : ∀ (j : Nat), j ≤ i →
    R ii_meetParts_8 [tA8 x0, tLI (Gl n a), tLI (Gl n b), tLI (Gl n (mi a b i j)), tI (i : Int), tI x5, tI x6, tI (i : Int), tI (j : Int)] = some [tI 0, tA8 x0, tLI (Gl n a), tLI (Gl n b), tLI (Gl n (mi a b i i)), tI x5, tI x6] := by
  refine up_loop _ ?_ (fun j hj ih => ?_)
  · apply vi_meetParts_8
    have h1 : ¬ ((i : Int) < (i : Int)) := by omega
    simp only [bi_meetParts_8, decide_eq_false h1, cond_false]
  · apply vi_meetParts_8
    have hjn : j < n := by omega
    have w : wi64 ((j : Int) + 1) = ((j + 1 : Nat) : Int) := by rw [wrap_i64] <;> omega
    have v1 : decide ((j : Int) < (i : Int)) = true := decide_eq_true (by omega)
    have v2 : decide ((0 : Int) ≤ (j : Int)) = true := decide_eq_true (by omega)
    have v3 : decide ((0 : Int) ≤ (i : Int)) = true := decide_eq_true (by omega)
    have v4 : decide ((i : Int) < (n : Int)) = true := decide_eq_true (by omega)
    have v5 : decide ((j : Int) < (n : Int)) = true := decide_eq_true (by omega)
    simp only [bi_meetParts_8, Gl_len, v1, v2, v3, v4, v5, cond_true, Bool.and_true, Int.toNat_natCast, Gl_get hjn, Gl_get hi, beq_nn, w, c_merge n hn _ j i hjn hi, Option.bind_some, getTV_here]
    by_cases e1 : a j = a i
    · by_cases e2 : b j = b i
      · simp only [decide_eq_true e1, decide_eq_true e2, cond_true, mi_step hi hj (sm_iff.2 ⟨e1, e2⟩), ih]
      · have hs : sm a b j i = false := by
          rw [Bool.eq_false_iff]
          exact fun h => e2 (sm_iff.1 h).2
        simp only [decide_eq_true e1, decide_eq_false e2, cond_true, cond_false, mi_same hs, ih]
    · have hs : sm a b j i = false := by
        rw [Bool.eq_false_iff]
        exact fun h => e1 (sm_iff.1 h).1
      simp only [decide_eq_false e1, cond_false, mi_same hs, ih]
theorem c_meetParts_5 (n : Nat) (hn : n ≤ 8) (a b : Nat → Nat) (x0 : List Int) : ∀ (i : Nat), i ≤ n →
    R ii_meetParts_5 [tA8 x0, tLI (Gl n a), tLI (Gl n b), tLI (Gl n (mi a b i 0)), tI (n : Int), tI (i : Int)] = some [tI 0, tA8 x0, tLI (Gl n (lst a b))] := by
  refine up_loop _ ?_ (fun i hi ih => ?_)
  · apply vi_meetParts_5
    have h1 : ¬ ((n : Int) < (n : Int)) := by omega
    have e : Gl n (mi a b n 0) = Gl n (lst a b) := Gl_congr (fun x hx => if_pos hx)
    simp only [bi_meetParts_5, decide_eq_false h1, cond_false, e]
  · apply vi_meetParts_5
    have w : wi64 ((i : Int) + 1) = ((i + 1 : Nat) : Int) := by rw [wrap_i64] <;> omega
    have v1 : decide ((i : Int) < (n : Int)) = true := decide_eq_true (by omega)
    have h8 := c_meetParts_8 n hn a b x0 i hi (n : Int) (i : Int) 0 (Nat.zero_le _)
    rw [mi_next] at h8
    simp only [Int.natCast_zero] at h8
    simp only [bi_meetParts_5, v1, cond_true, h8, Option.bind_some, getTV_here, getTV_next, w, ih]
theorem c_meetParts (n : Nat) (hn1 : 1 ≤ n) (hn : n ≤ 8) (a b : Nat → Nat) (ha : Can n a) (hb : Can n b) : R ii_meetParts [tA8 (A8 n (mdf n a)), tA8 (A8 n (mdf n b)), tI (n : Int)] = some [tA8 (A8 n (mdf n (lst a b)))] := by
  have h5 := c_meetParts_5 n hn a b (List.replicate 8 0) 0 (Nat.zero_le _)
  have e : Gl n (mi a b 0 0) = Gl n id := by
    apply Gl_congr
    intro x _
    unfold mi
    rw [if_neg (by omega)]
    by_cases h : x = 0
    · rw [if_pos h, if_neg (by omega), h]; rfl
    · rw [if_neg h]; rfl
  rw [e] at h5
  simp only [Int.natCast_zero] at h5
  apply vi_meetParts
  simp only [bi_meetParts, c_groupsOf n hn a ha, c_groupsOf n hn b hb, c_fineGroups n hn, Option.bind_some, getTV_here, getTV_next, h5, c_part n hn _ (lst_can n a b)]
theorem law_FnExactMeetOfParts (a : List Int) (h : Fit (.arr .u8 8) a) (b : List Int) (h' : Fit (.arr .u8 8) b) (k : Int) (h'' : Fit (.int .i64) k) : R iw_FnExactMeetOfParts [tA8 a, tA8 b, tI k] = some [tB true] := by
  have ha := fit_part h
  have hb := fit_part h'
  apply vw_FnExactMeetOfParts
  have c0 : ((0 : Int) != 0) = false := rfl
  have c1 : ((1 : Int) != 0) = true := rfl
  obtain ⟨r, c, h8, hss, hii⟩ : ∃ (r : List Int) (c : Int), r.length = 8 ∧ R is_MeetOfParts [tA8 a, tA8 b, tI k] = some [tA8 r, tI c] ∧ R ii_MeetOfParts [tA8 a, tA8 b, tI k] = some [tA8 r, tI c] := by
    rcases isPt_cases a k with h1 | ⟨h1, n, g, s, q1, q2, rfl, hg, _, e, _⟩
    · refine ⟨List.replicate 8 0, 1, zero8, ?_, ?_⟩
      · have e2 : R is_l07Two [tA8 a, tA8 b, tI k] = some [tI 1] := by
          apply vs_l07Two
          simp only [bs_l07Two, c_l07Is a ha, h1, Option.bind_some, getTV_here, Bool.not_false, cond_true]
        apply vs_MeetOfParts
        simp only [bs_MeetOfParts, e2, Option.bind_some, getTV_here, c1, cond_true]
      · apply vi_MeetOfParts
        simp only [bi_MeetOfParts, c_IsPart a ha, h1, Option.bind_some, getTV_here, Bool.not_false, cond_true]
    · rcases isPt_cases b n with h2 | ⟨h2, m, g', s', _, _, hm, hg', _, e', _⟩
      · refine ⟨List.replicate 8 0, 1, zero8, ?_, ?_⟩
        · have e2 : R is_l07Two [tA8 a, tA8 b, tI (n : Int)] = some [tI 1] := by
            apply vs_l07Two
            simp only [bs_l07Two, c_l07Is a ha, c_l07Is b hb, h1, h2, Option.bind_some, getTV_here, Bool.not_true, Bool.not_false, cond_true, cond_false]
          apply vs_MeetOfParts
          simp only [bs_MeetOfParts, e2, Option.bind_some, getTV_here, c1, cond_true]
        · apply vi_MeetOfParts
          simp only [bi_MeetOfParts, c_IsPart a ha, c_IsPart b hb, h1, h2, Option.bind_some, getTV_here, Bool.not_true, Bool.not_false, cond_true, cond_false]
      · have hnm : n = m := by omega
        subst hnm
        refine ⟨A8 n (mdf n (lst g g')), 0, A8_len _ _, ?_, ?_⟩
        · have e2 : R is_l07Two [tA8 a, tA8 b, tI (n : Int)] = some [tI 0] := by
            apply vs_l07Two
            simp only [bs_l07Two, c_l07Is a ha, c_l07Is b hb, h1, h2, Option.bind_some, getTV_here, Bool.not_true, cond_false]
          have e3 := c_l07Meet n q1 q2 g g' hg hg'
          rw [← e, ← e'] at e3
          apply vs_MeetOfParts
          simp only [bs_MeetOfParts, e2, Option.bind_some, getTV_here, c0, cond_false, e3]
        · have e3 := c_meetParts n q1 q2 g g' hg hg'
          rw [← e, ← e'] at e3
          apply vi_MeetOfParts
          simp only [bi_MeetOfParts, c_IsPart a ha, c_IsPart b hb, h1, h2, Option.bind_some, getTV_here, Bool.not_true, cond_false, e3]
  simp [bw_FnExactMeetOfParts, c_toPart a ha.1, c_toPart b hb.1, hss, hii, c_eqPart r r h8 h8]
end Go.Ev.Ytadjhggdddbicaa
