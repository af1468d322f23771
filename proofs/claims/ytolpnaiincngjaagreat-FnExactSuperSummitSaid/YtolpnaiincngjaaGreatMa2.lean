/- Arrays that are permutations. -/
import Derived.Test.YtolpnaiincngjaaGreatMa1
set_option linter.unusedVariables false
set_option linter.unusedSimpArgs false
namespace Go.Ev
open Go.Gar
/-- A permutation out of a function that hits nothing twice. -/
theorem pm_of {n : Nat} {f : Nat → Nat} (hlt : ∀ x, x < n → f x < n) (hinj : ∀ x y, x < n → y < n → f x = f y → x = y) : ∃ s : Pm n, ∀ x, x < n → s.f x = f x := by
  have hs : ∀ y, y < n → ∃ x, x < n ∧ f x = y := by
    intro y hy
    apply Classical.byContradiction
    intro hne
    have h1 : ((List.range n).map f).Nodup := by
      rw [List.nodup_iff_pairwise_ne, List.pairwise_map]
      refine List.Pairwise.imp_of_mem ?_ (List.nodup_iff_pairwise_ne.1 (List.nodup_range (n := n)))
      intro a b ha hb hab he
      exact hab (hinj a b (List.mem_range.1 ha) (List.mem_range.1 hb) he)
    have h2 : (y :: (List.range n).map f).Nodup := by
      rw [List.nodup_cons]
      refine ⟨fun h => ?_, h1⟩
      obtain ⟨x, hx, he⟩ := List.mem_map.1 h
      exact hne ⟨x, List.mem_range.1 hx, he⟩
    have h3 : y :: (List.range n).map f ⊆ List.range n := by
      intro z hz
      rcases List.mem_cons.1 hz with rfl | hz
      · exact List.mem_range.2 hy
      · obtain ⟨x, hx, rfl⟩ := List.mem_map.1 hz
        exact List.mem_range.2 (hlt x (List.mem_range.1 hx))
    have := List.Nodup.length_le_of_subset h2 h3
    simp only [List.length_cons, List.length_map, List.length_range] at this
    omega
  refine ⟨⟨fun x => if x < n then f x else x, fun y => if h : y < n then (hs y h).choose else y, fun x => ?_, fun y => ?_, fun x hx => if_neg (by omega)⟩, fun x hx => if_pos hx⟩
  · by_cases hx : x < n
    · simp only [if_pos hx, dif_pos (hlt x hx)]
      have := (hs (f x) (hlt x hx)).choose_spec
      exact hinj _ _ this.1 hx this.2
    · simp only [if_neg hx, dif_neg hx]
  · by_cases hy : y < n
    · simp only [dif_pos hy]
      have := (hs y hy).choose_spec
      simp only [if_pos this.1, this.2]
    · simp only [dif_neg hy, if_neg hy]
/-- Eight bytes. -/
def B8 (a : List Int) : Prop := a.length = 8 ∧ ∀ y ∈ a, 0 ≤ y ∧ y ≤ 255
theorem B8.at {a : List Int} (h : B8 a) {i : Nat} (hi : i < 8) : List.getD a i 0 = a[i]'(by rw [h.1]; exact hi) ∧ 0 ≤ List.getD a i 0 ∧ List.getD a i 0 ≤ 255 := by
  have e : List.getD a i 0 = a[i]'(by rw [h.1]; exact hi) := by simp [List.getD_eq_getElem?_getD, List.getElem?_eq_getElem (show i < a.length by rw [h.1]; exact hi)]
  refine ⟨e, ?_⟩
  rw [e]
  exact h.2 _ (List.getElem_mem _)
/-- Is the array, from x on, that of a permutation, where 'met' tells what was met before? -/
def chk (n : Nat) (a : List Int) : Nat → List Bool → Bool
  | 0, _ => true
  | k + 1, met =>
    if n ≤ 7 - k then (List.getD a (7 - k) 0 == 0) && chk n a k met
    else decide (List.getD a (7 - k) 0 < (n : Int)) && !(List.getD met (List.getD a (7 - k) 0).toNat false) && chk n a k (met.set (List.getD a (7 - k) 0).toNat true)
theorem chk_iff {n : Nat} (hn : n ≤ 8) {a : List Int} (ha : B8 a) : ∀ (k : Nat) (met : List Bool), k ≤ 8 → met.length = 8 →
    (chk n a k met = true ↔ ∀ y, 8 - k ≤ y → y < 8 → (n ≤ y → List.getD a y 0 = 0) ∧ (y < n → List.getD a y 0 < n ∧ List.getD met (List.getD a y 0).toNat false = false ∧ ∀ z, 8 - k ≤ z → z < y → List.getD a z 0 ≠ List.getD a y 0))
  | 0, met, _, _ => by
    simp only [chk, true_iff]
    intro y h1 h2
    omega
  | k + 1, met, hk, hm => by
    have e : 8 - (k + 1) = 7 - k := by omega
    rw [e]
    unfold chk
    have hx : 7 - k < 8 := by omega
    by_cases h : n ≤ 7 - k
    · rw [if_pos h, Bool.and_eq_true, chk_iff hn ha k met (by omega) hm, beq_iff_eq]
      constructor
      · rintro ⟨h1, h2⟩ y hy1 hy2
        by_cases h3 : y = 7 - k
        · subst h3
          exact ⟨fun _ => h1, fun h4 => by omega⟩
        · obtain ⟨q1, q2⟩ := h2 y (by omega) hy2
          exact ⟨q1, fun h4 => by omega⟩
      · intro h2
        refine ⟨(h2 (7 - k) (by omega) hx).1 h, fun y hy1 hy2 => ?_⟩
        obtain ⟨q1, q2⟩ := h2 y (by omega) hy2
        exact ⟨q1, fun h4 => by omega⟩
    · rw [if_neg h, Bool.and_eq_true, Bool.and_eq_true, chk_iff hn ha k _ (by omega) (by simp [hm]), decide_eq_true_eq, Bool.not_eq_true']
      have hset : ∀ (u v : Int), 0 ≤ u → u < n → 0 ≤ v → (List.getD (met.set u.toNat true) v.toNat false = false ↔ List.getD met v.toNat false = false ∧ u ≠ v) := by
        intro u v hu hu' hv
        rw [List.getD_eq_getElem?_getD, List.getD_eq_getElem?_getD, List.getElem?_set]
        by_cases h5 : u.toNat = v.toNat
        · have : u = v := by omega
          rw [if_pos h5, if_pos (by omega)]
          simp [this]
        · have : u ≠ v := fun h => h5 (by rw [h])
          rw [if_neg h5]
          simp [this]
      have hb := (ha.at hx).2
      constructor
      · rintro ⟨⟨h1, h2⟩, h3⟩ y hy1 hy2
        by_cases h4 : y = 7 - k
        · subst h4
          exact ⟨fun h5 => by omega, fun _ => ⟨h1, h2, fun z hz1 hz2 => by omega⟩⟩
        · obtain ⟨q1, q2⟩ := h3 y (by omega) hy2
          refine ⟨q1, fun h5 => ?_⟩
          obtain ⟨r1, r2, r3⟩ := q2 h5
          have r4 := (hset _ _ hb.1 h1 (ha.at hy2).2.1).1 r2
          refine ⟨r1, r4.1, fun z hz1 hz2 => ?_⟩
          by_cases h6 : z = 7 - k
          · subst h6; exact r4.2
          · exact r3 z (by omega) hz2
      · intro h3
        obtain ⟨q1, q2⟩ := h3 (7 - k) (by omega) hx
        obtain ⟨r1, r2, _⟩ := q2 (by omega)
        refine ⟨⟨r1, r2⟩, fun y hy1 hy2 => ?_⟩
        obtain ⟨s1, s2⟩ := h3 y (by omega) hy2
        refine ⟨s1, fun h5 => ?_⟩
        obtain ⟨t1, t2, t3⟩ := s2 h5
        exact ⟨t1, (hset _ _ hb.1 r1 (ha.at hy2).2.1).2 ⟨t2, t3 (7 - k) (by omega) (by omega)⟩, fun z hz1 hz2 => t3 z (by omega) hz2⟩
/-- The array is that of a permutation exactly if nothing is met that must not be. -/
theorem chk_sA {n : Nat} (hn : n ≤ 8) {a : List Int} (ha : B8 a) : chk n a 8 (List.replicate 8 false) = true ↔ ∃ s : Pm n, a = sA s := by
  rw [chk_iff hn ha 8 _ (by omega) (by simp)]
  constructor
  · intro h
    have hlt : ∀ x, x < n → (List.getD a x 0).toNat < n := by
      intro x hx
      have h1 := ((h x (by omega) (by omega)).2 hx).1
      have := (ha.at (show x < 8 by omega)).2
      omega
    have hne : ∀ x y, x < y → y < n → List.getD a x 0 ≠ List.getD a y 0 := fun x y hxy hy => ((h y (by omega) (by omega)).2 hy).2.2 x (by omega) hxy
    obtain ⟨s, hs⟩ := pm_of (f := fun x => (List.getD a x 0).toNat) hlt (by
      intro x y hx hy he
      have b1 := (ha.at (show x < 8 by omega)).2
      have b2 := (ha.at (show y < 8 by omega)).2
      have e : List.getD a x 0 = List.getD a y 0 := by
        have he' : (List.getD a x 0).toNat = (List.getD a y 0).toNat := he
        omega
      rcases Nat.lt_trichotomy x y with h1 | h1 | h1
      · exact (hne x y h1 hy e).elim
      · exact h1
      · exact (hne y x h1 hx e.symm).elim)
    refine ⟨s, ?_⟩
    apply list8 ha.1 (sA_len s)
    intro x hx
    have e := ha.at hx
    rw [sA, A8_get? n s.f hx, List.getElem?_eq_getElem (by rw [ha.1]; exact hx), ← e.1]
    by_cases h1 : x < n
    · rw [if_pos h1, hs x h1]
      congr 1
      have := e.2
      omega
    · rw [if_neg h1, (h x (by omega) hx).1 (by omega)]
  · rintro ⟨s, rfl⟩ y _ hy
    refine ⟨fun h => A8_out h, fun h => ?_⟩
    rw [sA_get h hn]
    have := s.lt h
    refine ⟨by omega, ?_, fun z _ hz => ?_⟩
    · rw [Int.toNat_natCast, List.getD_eq_getElem?_getD, List.getElem?_replicate, if_pos (by omega)]
      rfl
    · rw [sA_get (by omega) hn]
      intro he
      have := s.inj (show s.f z = s.f y by omega)
      omega
end Go.Ev
