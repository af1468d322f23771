/- Ends and sums of a word: the walk, and that the braid relations keep them. -/
import Derived.Test.YteclcmiopobnaaaMk1
import Derived.Test.YteclcmiopobnaaaG4
import Derived.Test.YteclcmiopobnaaaMb2
set_option linter.unusedVariables false
set_option linter.unusedSimpArgs false
namespace Go.Ev.Yteclcmiopobnaaa
open Go.Ev Go.Gar
/-- A row of n values. -/
def Lf (n : Nat) (g : Nat → Int) : List Int := (List.range n).map g
theorem Lf_len (n : Nat) (g : Nat → Int) : (Lf n g).length = n := by simp [Lf]
theorem Lf_get {n : Nat} {g : Nat → Int} {i : Nat} (h : i < n) : List.getD (Lf n g) i 0 = g i := by
  rw [getD_at (by rw [Lf_len]; exact h)]
  simp [Lf]
theorem Lf_set {n : Nat} {g : Nat → Int} {k : Nat} {v : Int} (h : k < n) : List.set (Lf n g) k v = Lf n (fun i => if i = k then v else g i) := by
  apply List.ext_getElem
  · rw [List.length_set, Lf_len, Lf_len]
  · intro i h1 h2
    rw [List.getElem_set]
    simp only [Lf, List.getElem_map, List.getElem_range]
    by_cases e : k = i
    · simp [e]
    · have : ¬ i = k := fun h => e h.symm
      simp [e, this]
theorem Lf_congr {n : Nat} {g h : Nat → Int} (e : ∀ i, i < n → g i = h i) : Lf n g = Lf n h := by
  apply List.ext_getElem
  · rw [Lf_len, Lf_len]
  · intro i h1 h2
    simp only [Lf, List.getElem_map, List.getElem_range]
    exact e i (by rw [Lf_len] at h1; exact h1)
theorem Lf_swap {n : Nat} {g : Nat → Int} {k : Nat} (h : k + 1 < n) : List.set (List.set (Lf n g) k (List.getD (Lf n g) (k + 1) 0)) (k + 1) (List.getD (Lf n g) k 0) = Lf n (fun i => g (Pm.sf k i)) := by
  rw [Lf_get h, Lf_get (show k < n by omega), Lf_set (show k < n by omega), Lf_set h]
  apply Lf_congr
  intro i hi
  unfold Pm.sf
  by_cases h1 : i = k + 1
  · rw [if_pos h1, if_neg (show ¬ i = k by omega), if_pos h1]
  · rw [if_neg h1]
    by_cases h2 : i = k
    · rw [if_pos h2, if_pos h2]
    · rw [if_neg h2, if_neg h2, if_neg h1]
/-- One letter's exchange. -/
def xch (g : Nat → Int) (x : Int) : Nat → Int := fun i => g (Pm.sf (x.natAbs - 1) i)
theorem xch_BE {n : Nat} {a b : List Int} (h : BE n a b) (g : Nat → Int) : a.foldl xch g = b.foldl xch g := by
  refine h.fold (P := fun _ => True) (f := xch) (fun _ _ _ => trivial) ?_ ?_ ?_ g trivial
  · intro s x _ _
    funext i
    show s (Pm.sf (x.natAbs - 1) (Pm.sf ((-x).natAbs - 1) i)) = s i
    rw [Int.natAbs_neg, Pm.sf_sf]
  · intro s i j _ hij _
    funext k
    show s (Pm.sf _ (Pm.sf _ k)) = s (Pm.sf _ (Pm.sf _ k))
    rw [show (((i + 1 : Nat) : Int)).natAbs - 1 = i by omega, show (((j + 1 : Nat) : Int)).natAbs - 1 = j by omega]
    congr 1
    unfold Pm.sf
    repeat' split
    all_goals omega
  · intro s i _ _
    funext k
    show s (Pm.sf _ (Pm.sf _ (Pm.sf _ k))) = s (Pm.sf _ (Pm.sf _ (Pm.sf _ k)))
    rw [show (((i + 1 : Nat) : Int)).natAbs - 1 = i by omega, show (((i + 2 : Nat) : Int)).natAbs - 1 = i + 1 by omega]
    congr 1
    have g1 : Pm.sf i i = i + 1 := by simp [Pm.sf]
    have g2 : Pm.sf (i + 1) i = i := by unfold Pm.sf; rw [if_neg (by omega), if_neg (by omega)]
    have g3 : Pm.sf i (i + 1) = i := by unfold Pm.sf; rw [if_neg (by omega), if_pos rfl]
    have g4 : Pm.sf (i + 1) (i + 1) = i + 2 := by simp [Pm.sf]
    have g5 : Pm.sf (i + 1) (i + 2) = i + 1 := by unfold Pm.sf; rw [if_neg (by omega), if_pos rfl]
    have g6 : Pm.sf i (i + 2) = i + 2 := by unfold Pm.sf; rw [if_neg (by omega), if_neg (by omega)]
    by_cases x1 : k = i
    · subst x1; simp only [g1, g2, g3, g4, g5, g6]
    · by_cases x2 : k = i + 1
      · subst x2; simp only [g1, g2, g3, g4, g5, g6]
      · by_cases x3 : k = i + 2
        · subst x3; simp only [g1, g2, g3, g4, g5, g6]
        · have g7 : Pm.sf i k = k := by unfold Pm.sf; rw [if_neg x1, if_neg x2]
          have g8 : Pm.sf (i + 1) k = k := by unfold Pm.sf; rw [if_neg x2, if_neg x3]
          simp only [g7, g8]
theorem c_follow_3 (n : Nat) (hn : n ≤ 8) (w : List Int) (hw : ∀ x ∈ w, Lr n x) (hl : w.length ≤ 1000) : ∀ (d i : Nat) (g : Nat → Int), i + d = w.length → R ii_follow_3 [tLI (Lf n g), tLI w, tI (w.length : Int), tI (i : Int)] = some [tI 0, tLI (Lf n ((w.drop i).foldl xch g))] := by
  intro d
  induction d with
  | zero =>
    intro i g h
    apply vi_follow_3
    have p1 : decide ((i : Int) < ((w.length : Nat) : Int)) = false := decide_eq_false (by omega)
    rw [List.drop_eq_nil_of_le (by omega)]
    simp only [bi_follow_3, p1, cond_false, List.foldl_nil]
  | succ d ih =>
    intro i g h
    have hi : i < w.length := by omega
    have hx := hw _ (List.getElem_mem hi)
    unfold Lr at hx
    have hk : w[i].natAbs - 1 + 1 < n := by omega
    have p1 : decide ((i : Int) < ((w.length : Nat) : Int)) = true := decide_eq_true (by omega)
    have p2 : decide (0 ≤ (i : Int)) = true := decide_eq_true (by omega)
    have w1 : wi64 ((i : Int) + 1) = ((i + 1 : Nat) : Int) := by rw [wrap_i64] <;> omega
    have sz := c_size w[i] (by omega) (by omega)
    have w2 : wi64 ((w[i].natAbs : Int) - 1) = ((w[i].natAbs - 1 : Nat) : Int) := by rw [wrap_i64] <;> omega
    have q1 : decide (0 ≤ ((w[i].natAbs - 1 : Nat) : Int)) = true := decide_eq_true (by omega)
    have q2 : decide (((w[i].natAbs - 1 : Nat) : Int) < ((n : Nat) : Int)) = true := decide_eq_true (by omega)
    have q3 : decide (0 ≤ (w[i].natAbs : Int)) = true := decide_eq_true (by omega)
    have q4 : decide ((w[i].natAbs : Int) < ((n : Nat) : Int)) = true := decide_eq_true (by omega)
    have eo : ∀ a b c : Int, R ii_endsOfK1 [tI a, tI b, tI c] = some [] := fun a b c => by
      apply vi_endsOfK1
      simp only [bi_endsOfK1]
    have t1 : (((w[i].natAbs - 1 : Nat) : Int)).toNat = w[i].natAbs - 1 := Int.toNat_natCast _
    have t2 : ((w[i].natAbs : Int)).toNat = w[i].natAbs - 1 + 1 := by omega
    apply vi_follow_3
    simp only [bi_follow_3, p1, p2, cond_true, Bool.and_true, Int.toNat_natCast, getD_at hi, sz, Option.bind_some, getTV_here, w2, Lf_len, List.length_set, q1, q2, q3, q4, eo, w1]
    have t3 : w[i].natAbs = w[i].natAbs - 1 + 1 := by omega
    rw [show List.set (List.set (Lf n g) (w[i].natAbs - 1) (List.getD (Lf n g) w[i].natAbs 0)) w[i].natAbs (List.getD (Lf n g) (w[i].natAbs - 1) 0) = Lf n (xch g w[i]) by
      have := Lf_swap (g := g) hk
      rw [← t3] at this
      exact this]
    rw [ih (i + 1) _ (by omega)]
    have da : w.drop i = w[i] :: w.drop (i + 1) := List.drop_eq_getElem_cons _
    rw [da, List.foldl_cons]
theorem c_strandsOf_3 (n : Nat) (hn : n ≤ 8) : ∀ (d i : Nat), i + d = n → R ii_strandsOf_3 [tLI (Lf i fun x => (x : Int)), tI (n : Int), tI (i : Int)] = some [tI 0, tLI (Lf n fun x => (x : Int))] := by
  intro d
  induction d with
  | zero =>
    intro i h
    obtain rfl : i = n := by omega
    apply vi_strandsOf_3
    have p1 : decide ((i : Int) < (i : Int)) = false := decide_eq_false (by omega)
    simp only [bi_strandsOf_3, p1, cond_false]
  | succ d ih =>
    intro i h
    apply vi_strandsOf_3
    have p1 : decide ((i : Int) < (n : Int)) = true := decide_eq_true (by omega)
    have w1 : wi64 ((i : Int) + 1) = ((i + 1 : Nat) : Int) := by rw [wrap_i64] <;> omega
    have ap : apOk (Lf i fun x => (x : Int)) [(i : Int)] = true := apOk1 (by rw [Lf_len]; omega)
    have e : (Lf i fun x => (x : Int)) ++ [(i : Int)] = Lf (i + 1) fun x => (x : Int) := by
      simp only [Lf, List.range_succ, List.map_append, List.map_cons, List.map_nil]
    simp only [bi_strandsOf_3, p1, cond_true, ap, e, w1, ih (i + 1) (by omega)]
theorem c_follow (n : Nat) (hn : n ≤ 8) (w : List Int) (hw : ∀ x ∈ w, Lr n x) (hl : w.length ≤ 1000) : R ii_follow [tPILI ((n : Int), w)] = some [tLI (Lf n (w.foldl xch fun x => (x : Int)))] := by
  have s : R ii_strandsOf [tI (n : Int)] = some [tLI (Lf n fun x => (x : Int))] := by
    apply vi_strandsOf
    have h := c_strandsOf_3 n hn n 0 (by omega)
    have e : (Lf 0 fun x => (x : Int)) = [] := rfl
    rw [e] at h
    simp only [Int.natCast_zero] at h
    simp only [bi_strandsOf, h, Option.bind_some, getTV_here, getTV_next]
  have f := c_follow_3 n hn w hw hl w.length 0 (fun x => (x : Int)) (by omega)
  simp only [Int.natCast_zero, List.drop_zero] at f
  apply vi_follow
  simp only [bi_follow, s, f, Option.bind_some, getTV_here, getTV_next]
theorem xch_rng {n : Nat} : ∀ (w : List Int) (g : Nat → Int), (∀ x ∈ w, Lr n x) → (∀ i, i < n → 0 ≤ g i ∧ g i < n) → ∀ i, i < n → 0 ≤ (w.foldl xch g) i ∧ (w.foldl xch g) i < n
  | [], g, _, hg => hg
  | x :: w, g, hw, hg => xch_rng w _ (fun y hy => hw y (List.mem_cons_of_mem _ hy)) (fun i hi => by
      have hx := hw x List.mem_cons_self
      unfold Lr at hx
      apply hg
      show Pm.sf (x.natAbs - 1) i < n
      unfold Pm.sf
      split
      · omega
      · split <;> omega)
theorem c_endsOf_3 (n : Nat) (hn : n ≤ 8) (g : Nat → Int) (hg : ∀ i, i < n → 0 ≤ g i ∧ g i < n) : ∀ (d i : Nat) (o : List Int), i + d = n → o.length = n → ∃ o' : List Int, o'.length = n ∧ R ii_endsOf_3 [tLI o, tLI (Lf n g), tI (n : Int), tI (i : Int)] = some [tI 0, tLI o'] := by
  intro d
  induction d with
  | zero =>
    intro i o h ho
    refine ⟨o, ho, ?_⟩
    apply vi_endsOf_3
    have p1 : decide ((i : Int) < (n : Int)) = false := decide_eq_false (by omega)
    simp only [bi_endsOf_3, p1, cond_false]
  | succ d ih =>
    intro i o h ho
    have hi := hg i (by omega)
    obtain ⟨o', h1, h2⟩ := ih (i + 1) (List.set o (g i).toNat (i : Int)) (by omega) (by rw [List.length_set]; exact ho)
    refine ⟨o', h1, ?_⟩
    apply vi_endsOf_3
    have p1 : decide ((i : Int) < (n : Int)) = true := decide_eq_true (by omega)
    have p2 : decide (0 ≤ (i : Int)) = true := decide_eq_true (by omega)
    have w1 : wi64 ((i : Int) + 1) = ((i + 1 : Nat) : Int) := by rw [wrap_i64] <;> omega
    have q1 : decide (0 ≤ g i) = true := decide_eq_true hi.1
    have q2 : decide (g i < (n : Int)) = true := decide_eq_true hi.2
    simp only [bi_endsOf_3, p1, p2, cond_true, Bool.and_true, Lf_len, ho, Int.toNat_natCast, Lf_get (show i < n by omega), q1, q2, w1, h2]
/-- The ends, as the permutation says. -/
theorem ends_ex {n : Nat} (hn : n ≤ 8) (g : Nat → Int) (hg : ∀ i, i < n → 0 ≤ g i ∧ g i < n) : ∃ o : List Int, o.length = n ∧ ∀ w : List Int, isBr ((n : Int), w) = true → w.foldl xch (fun x => (x : Int)) = g → R ii_EndsOf [tPILI ((n : Int), w)] = some [tLI o, tI 0] := by
  obtain ⟨o, ho, h3⟩ := c_endsOf_3 n hn g hg n 0 (List.replicate n 0) (by omega) (by simp)
  refine ⟨o, ho, fun w hw e => ?_⟩
  have ok := isBr_ok hw
  have hL : ∀ x ∈ w, Lr n x := ok.2.2.2
  have hl : w.length ≤ 200 := ok.2.2.1
  have f := c_follow n hn w hL (by omega)
  rw [e] at f
  have hb := c_IsBraid ((n : Int), w) (by show w.length < _; omega)
  rw [hw] at hb
  have mk : mkOk (n : Int) = true := by
    have h2 : ((n : Int) ≤ (lim : Int)) := by simp only [lim]; omega
    simp [mkOk, h2]
  simp only [Int.natCast_zero] at h3
  have E : R ii_endsOf [tPILI ((n : Int), w)] = some [tLI o] := by
    apply vi_endsOf
    simp only [bi_endsOf, mk, cond_true, f, Lf_len, Int.toNat_natCast, h3, Option.bind_some, getTV_here, getTV_next]
  apply vi_EndsOf
  simp only [bi_EndsOf, hb, E, Option.bind_some, getTV_here, Bool.not_true, cond_false]
/-- Two words of one braid have the same ends. -/
theorem ends_BE {n : Nat} (hn : n ≤ 8) {a b : List Int} (ha : isBr ((n : Int), a) = true) (hb : isBr ((n : Int), b) = true) (h : BE n a b) : ∃ o : List Int, o.length = n ∧ R ii_EndsOf [tPILI ((n : Int), a)] = some [tLI o, tI 0] ∧ R ii_EndsOf [tPILI ((n : Int), b)] = some [tLI o, tI 0] := by
  have hL : ∀ x ∈ a, Lr n x := (isBr_ok ha).2.2.2
  obtain ⟨o, ho, H⟩ := ends_ex hn _ (xch_rng a (fun x => (x : Int)) hL (fun i hi => by omega))
  exact ⟨o, ho, H a ha rfl, H b hb (xch_BE h.sy _)⟩
/-! ### sums -/
def addS (s : Int) (x : Int) : Int := s + (if 0 < x then 1 else -1)
theorem addS_BE {n : Nat} {a b : List Int} (h : BE n a b) (s : Int) : a.foldl addS s = b.foldl addS s := by
  refine h.fold (P := fun _ => True) (f := addS) (fun _ _ _ => trivial) ?_ ?_ ?_ s trivial
  · intro s x _ hx
    unfold Lr at hx
    unfold addS
    by_cases h : 0 < x
    · rw [if_pos h, if_neg (by omega)]; omega
    · rw [if_neg h, if_pos (by omega)]; omega
  · intro s i j _ _ _
    unfold addS
    rw [if_pos (by omega), if_pos (by omega)]
  · intro s i _ _
    unfold addS
    rw [if_pos (by omega), if_pos (by omega)]
theorem c_SumOf_5 (w : List Int) (hl : w.length ≤ 200) : ∀ (d i : Nat) (acc : Int), i + d = w.length → -1000 + d ≤ acc → acc + d ≤ 1000 → R ii_SumOf_5 [tLI w, tI acc, tI (w.length : Int), tI (i : Int)] = some [tI 0, tI ((w.drop i).foldl addS acc)] := by
  intro d
  induction d with
  | zero =>
    intro i acc h _ _
    apply vi_SumOf_5
    have p1 : decide ((i : Int) < ((w.length : Nat) : Int)) = false := decide_eq_false (by omega)
    rw [List.drop_eq_nil_of_le (by omega)]
    simp only [bi_SumOf_5, p1, cond_false, List.foldl_nil]
  | succ d ih =>
    intro i acc h h1 h2
    apply vi_SumOf_5
    have p1 : decide ((i : Int) < ((w.length : Nat) : Int)) = true := decide_eq_true (by omega)
    have p2 : decide (0 ≤ (i : Int)) = true := decide_eq_true (by omega)
    have w1 : wi64 ((i : Int) + 1) = ((i + 1 : Nat) : Int) := by rw [wrap_i64] <;> omega
    have hr : acc - 1 ≤ addS acc (w[i]'(by omega)) ∧ addS acc (w[i]'(by omega)) ≤ acc + 1 := by unfold addS; split <;> omega
    have w2 : wi64 (acc + (if 0 < w[i]'(by omega) then 1 else -1)) = addS acc (w[i]'(by omega)) := by
      show wi64 (addS acc _) = _
      rw [wrap_i64] <;> omega
    have g : List.getD w i 0 = w[i]'(by omega) := getD_at (by omega)
    simp only [bi_SumOf_5, p1, p2, cond_true, Bool.and_true, Int.toNat_natCast, g, c_sign, Option.bind_some, getTV_here, w1, w2]
    have da : w.drop i = w[i]'(by omega) :: w.drop (i + 1) := List.drop_eq_getElem_cons _
    rw [ih (i + 1) _ (by omega) (by omega) (by omega), da, List.foldl_cons]
theorem c_SumOf (a : Int × List Int) (h : isBr a = true) : R ii_SumOf [tPILI a] = some [tI (a.2.foldl addS 0), tI 0] := by
  have hl := isBr_len h
  apply vi_SumOf
  have h5 := c_SumOf_5 a.2 hl a.2.length 0 0 (by omega) (by omega) (by omega)
  simp only [Int.natCast_zero, List.drop_zero] at h5
  have hb := c_IsBraid a (by omega)
  rw [h] at hb
  simp only [bi_SumOf, hb, h5, Option.bind_some, getTV_here, getTV_next, Bool.not_true, cond_false]
end Go.Ev.Yteclcmiopobnaaa
