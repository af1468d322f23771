/- JoinOfParts: the law. -/
import Derived.Test.YtadjhggdddbicaaMp7
set_option linter.unusedVariables false
set_option linter.unusedSimpArgs false
namespace Go.Ev.Ytadjhggdddbicaa
open Go.Ev Go.Gar
/-! ### crossings -/
def Xr (g : Nat → Nat) (a b c y : Nat) : Prop := g a = g c ∧ g b = g y ∧ g a ≠ g b
theorem c5_iff (g : Nat → Nat) (a b c : Nat) : ∀ d x, c5 g a b c d x = true ↔ ∃ y, x ≤ y ∧ y < x + d ∧ Xr g a b c y := by
  intro d
  induction d with
  | zero => intro x; simp only [c5]; exact ⟨fun h => Bool.noConfusion h, fun ⟨y, h1, h2, _⟩ => by omega⟩
  | succ d ih =>
    intro x
    rw [c5, Bool.or_eq_true, ih]
    constructor
    · rintro (h | ⟨y, h1, h2, h3⟩)
      · refine ⟨x, Nat.le_refl _, by omega, ?_⟩
        simp only [Bool.and_eq_true, decide_eq_true_eq, Bool.not_eq_true', decide_eq_false_iff_not] at h
        exact ⟨h.1.1, h.1.2, h.2⟩
      · exact ⟨y, by omega, by omega, h3⟩
    · rintro ⟨y, h1, h2, h3⟩
      by_cases h : y = x
      · left
        subst h
        simp only [Bool.and_eq_true, decide_eq_true_eq, Bool.not_eq_true', decide_eq_false_iff_not]
        exact ⟨⟨h3.1, h3.2.1⟩, h3.2.2⟩
      · exact .inr ⟨y, by omega, by omega, h3⟩
theorem c4_iff (n : Nat) (g : Nat → Nat) (a b : Nat) : ∀ d x, x + d = n → (c4 n g a b d x = true ↔ ∃ c y, x ≤ c ∧ c < y ∧ y < n ∧ Xr g a b c y) := by
  intro d
  induction d with
  | zero => intro x hx; simp only [c4]; exact ⟨fun h => Bool.noConfusion h, fun ⟨c, y, h1, h2, h3, _⟩ => by omega⟩
  | succ d ih =>
    intro x hx
    rw [c4, Bool.or_eq_true, ih (x + 1) (by omega), c5_iff]
    constructor
    · rintro (⟨y, h1, h2, h3⟩ | ⟨c, y, h1, h2, h3, h4⟩)
      · exact ⟨x, y, Nat.le_refl _, by omega, by omega, h3⟩
      · exact ⟨c, y, by omega, h2, h3, h4⟩
    · rintro ⟨c, y, h1, h2, h3, h4⟩
      by_cases h : c = x
      · subst h
        exact .inl ⟨y, by omega, by omega, h4⟩
      · exact .inr ⟨c, y, by omega, h2, h3, h4⟩
theorem c3_iff (n : Nat) (g : Nat → Nat) (a : Nat) : ∀ d x, x + d = n → (c3 n g a d x = true ↔ ∃ b c y, x ≤ b ∧ b < c ∧ c < y ∧ y < n ∧ Xr g a b c y) := by
  intro d
  induction d with
  | zero => intro x hx; simp only [c3]; exact ⟨fun h => Bool.noConfusion h, fun ⟨b, c, y, h1, h2, h3, h4, _⟩ => by omega⟩
  | succ d ih =>
    intro x hx
    rw [c3, Bool.or_eq_true, ih (x + 1) (by omega), c4_iff n g a x _ _ (by omega)]
    constructor
    · rintro (⟨c, y, h1, h2, h3, h4⟩ | ⟨b, c, y, h1, h2, h3, h4, h5⟩)
      · exact ⟨x, c, y, Nat.le_refl _, by omega, h2, h3, h4⟩
      · exact ⟨b, c, y, by omega, h2, h3, h4, h5⟩
    · rintro ⟨b, c, y, h1, h2, h3, h4, h5⟩
      by_cases h : b = x
      · subst h
        exact .inl ⟨c, y, by omega, h3, h4, h5⟩
      · exact .inr ⟨b, c, y, by omega, h2, h3, h4, h5⟩
theorem crs_iff (n : Nat) (g : Nat → Nat) : crs n g = true ↔ ∃ a b c y, a < b ∧ b < c ∧ c < y ∧ y < n ∧ Xr g a b c y := by
  have : ∀ d x, x + d = n → (c2 n g d x = true ↔ ∃ a b c y, x ≤ a ∧ a < b ∧ b < c ∧ c < y ∧ y < n ∧ Xr g a b c y) := by
    intro d
    induction d with
    | zero => intro x hx; simp only [c2]; exact ⟨fun h => Bool.noConfusion h, fun ⟨a, b, c, y, h1, h2, h3, h4, h5, _⟩ => by omega⟩
    | succ d ih =>
      intro x hx
      rw [c2, Bool.or_eq_true, ih (x + 1) (by omega), c3_iff n g x _ _ (by omega)]
      constructor
      · rintro (⟨b, c, y, h1, h2, h3, h4, h5⟩ | ⟨a, b, c, y, h1, h2, h3, h4, h5, h6⟩)
        · exact ⟨x, b, c, y, Nat.le_refl _, by omega, h2, h3, h4, h5⟩
        · exact ⟨a, b, c, y, by omega, h2, h3, h4, h5, h6⟩
      · rintro ⟨a, b, c, y, h1, h2, h3, h4, h5, h6⟩
        by_cases h : a = x
        · subst h
          exact .inl ⟨b, c, y, by omega, h3, h4, h5, h6⟩
        · exact .inr ⟨a, b, c, y, by omega, h2, h3, h4, h5, h6⟩
  unfold crs
  rw [this n 0 (by omega)]
  constructor
  · rintro ⟨a, b, c, y, _, h⟩; exact ⟨a, b, c, y, h⟩
  · rintro ⟨a, b, c, y, h⟩; exact ⟨a, b, c, y, Nat.zero_le _, h⟩
theorem no_cross {n : Nat} {g : Nat → Nat} (h : crs n g = false) {a b c y : Nat} (h1 : a < b) (h2 : b < c) (h3 : c < y) (h4 : y < n) (e1 : g a = g c) (e2 : g b = g y) : g a = g b := by
  apply Classical.byContradiction
  intro hne
  have := (crs_iff n g).2 ⟨a, b, c, y, h1, h2, h3, h4, e1, e2, hne⟩
  rw [h] at this
  exact Bool.noConfusion this
/-! ### closed stretches -/
def Cz (n : Nat) (l : Nat → Nat) (z x : Nat) : Prop := ∀ u v, u < n → v < n → l u = l v → (z ≤ u ∧ u < x) → (z ≤ v ∧ v < x)
theorem Cz.t1 {n : Nat} {l : Nat → Nat} {z x y : Nat} (h1 : z ≤ x) (h2 : x ≤ y) (a : Cz n l z x) (b : Cz n l x y) : Cz n l z y := by
  intro u v hu hv e hin
  by_cases h : u < x
  · have := a u v hu hv e ⟨hin.1, h⟩
    omega
  · have := b u v hu hv e ⟨by omega, hin.2⟩
    omega
theorem Cz.t2 {n : Nat} {l : Nat → Nat} {z x y : Nat} (h1 : z ≤ x) (h2 : x ≤ y) (a : Cz n l z y) (b : Cz n l x y) : Cz n l z x := by
  intro u v hu hv e hin
  have h := a u v hu hv e ⟨hin.1, by omega⟩
  by_cases hx : v < x
  · exact ⟨h.1, hx⟩
  · have := b v u hv hu e.symm ⟨by omega, h.2⟩
    omega
theorem Cz.t3 {n : Nat} {l : Nat → Nat} {z x y : Nat} (h1 : z ≤ x) (h2 : x ≤ y) (a : Cz n l z y) (b : Cz n l z x) : Cz n l x y := by
  intro u v hu hv e hin
  have h := a u v hu hv e ⟨by omega, hin.2⟩
  by_cases hx : x ≤ v
  · exact ⟨hx, h.2⟩
  · have := b v u hv hu e.symm ⟨h.1, by omega⟩
    omega
open Classical in
noncomputable def hs (n : Nat) (l : Nat → Nat) (x : Nat) : Nat → Nat → Nat
  | 0, z => z
  | d + 1, z => if Cz n l z x then z else hs n l x d (z + 1)
noncomputable def hl (n : Nat) (l : Nat → Nat) (x : Nat) : Nat := hs n l x x 0
theorem hs_spec (n : Nat) (l : Nat → Nat) (x : Nat) : ∀ d z, z + d = x → (∀ y, y < z → ¬ Cz n l y x) → hs n l x d z ≤ x ∧ Cz n l (hs n l x d z) x ∧ ∀ y, y < hs n l x d z → ¬ Cz n l y x := by
  intro d
  induction d with
  | zero =>
    intro z hz h
    have : z = x := by omega
    subst this
    refine ⟨Nat.le_refl _, fun u v _ _ _ hin => ?_, h⟩
    have h1 := hin.1
    have h2 := hin.2
    rw [hs] at h1
    omega
  | succ d ih =>
    intro z hz h
    rw [hs]
    by_cases h1 : Cz n l z x
    · rw [if_pos h1]
      exact ⟨by omega, h1, h⟩
    · rw [if_neg h1]
      refine ih (z + 1) (by omega) (fun y hy => ?_)
      by_cases h2 : y = z
      · rw [h2]; exact h1
      · exact h y (by omega)
theorem hl_spec (n : Nat) (l : Nat → Nat) (x : Nat) : hl n l x ≤ x ∧ Cz n l (hl n l x) x ∧ ∀ y, y < hl n l x → ¬ Cz n l y x := hs_spec n l x x 0 (by omega) (fun y hy => by omega)
theorem hl_iff {n : Nat} {l : Nat → Nat} {z x : Nat} (h : z ≤ x) : Cz n l z x ↔ hl n l z = hl n l x := by
  have sz := hl_spec n l z
  have sx := hl_spec n l x
  constructor
  · intro c
    have c1 := Cz.t1 sz.1 h sz.2.1 c
    have h1 : hl n l x ≤ hl n l z := by
      apply Classical.byContradiction
      intro hne
      exact sx.2.2 _ (by omega) c1
    have c2 := Cz.t2 (show hl n l x ≤ z by omega) h sx.2.1 c
    have h2 : hl n l z ≤ hl n l x := by
      apply Classical.byContradiction
      intro hne
      exact sz.2.2 _ (by omega) c2
    omega
  · intro e
    exact Cz.t3 sz.1 h (by rw [e]; exact sx.2.1) sz.2.1
theorem hl_can (n m : Nat) (l : Nat → Nat) : Can m (hl n l) := fun x _ => ⟨(hl_spec n l x).1, (hl_iff (hl_spec n l x).1).1 (hl_spec n l x).2.1⟩
theorem hl_eq {n : Nat} {l : Nat → Nat} {x w : Nat} (h1 : Cz n l w x) (h2 : ∀ y, y < w → ¬ Cz n l y x) : hl n l x = w := by
  have s := hl_spec n l x
  apply Classical.byContradiction
  intro hne
  rcases Nat.lt_or_gt_of_ne hne with h | h
  · exact h2 _ h s.2.1
  · exact s.2.2 _ h h1
/-- The complement of a part without crossings. -/
theorem kr {n : Nat} {g : Nat → Nat} (hg : Can n g) (hc : crs n g = false) {p x : Nat} (hp : p < n) (hx : x < n) (h : mdf n g p = x) : mdf n (hl n g) x = sc n p := by
  have gp := hg p hp
  rcases mdf_spec (g := g) hp with ⟨k, k1, k2, k3, k4, k5⟩ | ⟨k1, k2⟩
  · have e : k = x := by omega
    subst e
    have cz : Cz n g (p + 1) k := by
      intro u v hu hv e hin
      have hne : g u ≠ g p := k4 u (by omega) hin.2
      apply Classical.byContradiction
      intro hno
      have hvp : v ≠ p := fun h => by rw [h] at e; exact hne e
      have hvk : v ≠ k := fun h => by rw [h, k3] at e; exact hne e
      rcases Nat.lt_or_gt_of_ne hvp with h1 | h1
      · exact hne (by rw [e]; exact no_cross hc h1 (show p < u by omega) hin.2 hx e.symm k3.symm)
      · have h2 : k < v := by omega
        exact hne (no_cross hc (show p < u by omega) hin.2 h2 hv k3.symm e).symm
    have hh : hl n g k = p + 1 := hl_eq cz (fun y hy c => by
      have := c p k hp hx k3.symm ⟨by omega, k1⟩
      omega)
    rcases mdf_spec (g := hl n g) hx with ⟨j, j1, j2, j3, _, _⟩ | ⟨_, j2⟩
    · have c := (hl_iff (show k ≤ j by omega)).2 j3.symm
      have := c k p hx hp k3 ⟨Nat.le_refl _, j1⟩
      omega
    · rw [j2, hh]
      unfold sc
      rw [if_neg (by omega)]
  · have e : g p = x := by omega
    have hxp : x ≤ p := by omega
    have gx : g x = g p := by rw [← e]; exact gp.2
    have cz : Cz n g x (p + 1) := by
      intro u v hu hv ee hin
      by_cases hgu : g u = g p
      · have hv1 := (hg v hv).1
        have : ¬ p < v := fun h => k1 v h hv (by omega)
        omega
      · have hux : u ≠ x := fun h => by rw [h] at hgu; exact hgu gx
        have hup : u ≠ p := fun h => hgu (by rw [h])
        apply Classical.byContradiction
        intro hno
        have hvx : v ≠ x := fun h => by omega
        rcases Nat.lt_or_gt_of_ne hvx with h1 | h1
        · have := no_cross hc h1 (show x < u by omega) (show u < p by omega) hp ee.symm gx
          exact hgu (by omega)
        · have h2 : p < v := by omega
          have := no_cross hc (show x < u by omega) (show u < p by omega) h2 hv gx ee
          exact hgu (by omega)
    by_cases hn : p + 1 = n
    · have hh : hl n g x = 0 := hl_eq (by
        intro u v hu hv ee hin
        refine ⟨Nat.zero_le _, ?_⟩
        apply Classical.byContradiction
        intro hno
        have := cz v u hv hu ee.symm ⟨by omega, by omega⟩
        omega) (fun y hy => by omega)
      rcases mdf_spec (g := hl n g) hx with ⟨j, j1, j2, j3, _, _⟩ | ⟨_, j2⟩
      · have c := (hl_iff (show x ≤ j by omega)).2 j3.symm
        have := c x p hx hp gx ⟨Nat.le_refl _, j1⟩
        omega
      · rw [j2, hh]
        unfold sc
        rw [if_pos hn]
    · have hh := (hl_iff (show x ≤ p + 1 by omega)).1 cz
      rcases mdf_spec (g := hl n g) hx with ⟨j, j1, j2, j3, j4, j5⟩ | ⟨j1, _⟩
      · have c := (hl_iff (show x ≤ j by omega)).2 j3.symm
        have h3 := c x p hx hp gx ⟨Nat.le_refl _, j1⟩
        have h4 : ¬ p + 1 < j := fun h => j4 (p + 1) (by omega) h hh.symm
        rw [j5]
        unfold sc
        rw [if_neg hn]
        omega
      · exact (j1 (p + 1) (by omega) (by omega) hh.symm).elim
theorem kr_array {n : Nat} (hn : n ≤ 8) {g : Nat → Nat} (hg : Can n g) (hc : crs n g = false) (s : Pm n) (hs : A8 n (mdf n g) = sA s) : sA (s⁻¹ * whP n) = A8 n (mdf n (hl n g)) := by
  have hf : ∀ x, x < n → mdf n g x = s.f x := A8_inj hn hs
  apply A8_congr
  intro x hx
  have hp := s.lt_g hx
  have e : mdf n g (s.g x) = x := by rw [hf _ hp, s.fg]
  rw [kr hg hc hp hx e]
  show (whP n).f (s.g x) = _
  exact whP_f hp
/-! ### merges and closed stretches -/
theorem mrg_both (G : Nat → Nat) (i j : Nat) : mrg G i j i = mrg G i j j := by
  unfold mrg
  by_cases h : G i ≤ G j
  · rw [Nat.max_eq_right h, Nat.min_eq_left h, if_pos rfl]
    split <;> rfl
  · rw [Nat.max_eq_left (by omega), Nat.min_eq_right (by omega), if_pos rfl]
    split <;> rfl
theorem mrg_Cz {n : Nat} {G : Nat → Nat} {i j : Nat} (hi : i < n) (hj : j < n) (z x : Nat) : Cz n (mrg G i j) z x ↔ Cz n G z x ∧ ((z ≤ i ∧ i < x) ↔ (z ≤ j ∧ j < x)) := by
  constructor
  · intro c
    refine ⟨fun u v hu hv e hin => c u v hu hv (by unfold mrg; rw [e]) hin, fun h => c i j hi hj (mrg_both G i j) h, fun h => c j i hj hi (mrg_both G i j).symm h⟩
  · rintro ⟨c, hij⟩ u v hu hv e hin
    by_cases h : G u = G v
    · exact c u v hu hv h hin
    · have key : (G u = G i ∧ G v = G j) ∨ (G u = G j ∧ G v = G i) := by
        unfold mrg at e
        by_cases hle : G i ≤ G j
        · rw [Nat.max_eq_right hle, Nat.min_eq_left hle] at e
          by_cases h1 : G u = G j
          · rw [if_pos h1] at e
            by_cases h2 : G v = G j
            · omega
            · rw [if_neg h2] at e
              exact .inr ⟨h1, by omega⟩
          · rw [if_neg h1] at e
            by_cases h2 : G v = G j
            · rw [if_pos h2] at e
              exact .inl ⟨e, h2⟩
            · rw [if_neg h2] at e
              omega
        · rw [Nat.max_eq_left (by omega), Nat.min_eq_right (by omega)] at e
          by_cases h1 : G u = G i
          · rw [if_pos h1] at e
            by_cases h2 : G v = G i
            · omega
            · rw [if_neg h2] at e
              exact .inl ⟨h1, by omega⟩
          · rw [if_neg h1] at e
            by_cases h2 : G v = G i
            · rw [if_pos h2] at e
              exact .inr ⟨e, h2⟩
            · rw [if_neg h2] at e
              omega
      rcases key with ⟨k1, k2⟩ | ⟨k1, k2⟩
      · exact c j v hj hv k2.symm (hij.1 (c u i hu hi k1 hin))
      · exact c i v hi hv k2.symm (hij.2 (c u j hu hj k1 hin))
theorem next_Cz {n : Nat} {g : Nat → Nat} (hg : Can n g) (z x : Nat) : (∀ k, k < n → ((z ≤ k ∧ k < x) ↔ (z ≤ mdf n g k ∧ mdf n g k < x))) ↔ Cz n g z x := by
  constructor
  · intro h
    have hroot : ∀ d u, u + d = n → u < n → ((z ≤ u ∧ u < x) ↔ (z ≤ g u ∧ g u < x)) := by
      intro d
      induction d using Nat.strongRecOn with
      | ind d ih =>
        intro u hd hu
        rcases mdf_spec (g := g) hu with ⟨k, k1, k2, k3, _, k5⟩ | ⟨_, k2⟩
        · have h1 := h u hu
          rw [k5] at h1
          have h2 := ih (n - k) (by omega) k (by omega) k2
          rw [k3] at h2
          exact h1.trans h2
        · have h1 := h u hu
          rw [k2] at h1
          exact h1
    intro u v hu hv e hin
    have h1 := (hroot (n - u) u (by omega) hu).1 hin
    rw [e] at h1
    exact (hroot (n - v) v (by omega) hv).2 h1
  · intro c k hk
    have hl := mdf_lt hg hk
    have e : g (mdf n g k) = g k := by
      rcases mdf_spec (g := g) hk with ⟨j, _, _, j3, _, j5⟩ | ⟨_, j2⟩
      · rw [j5]; exact j3
      · rw [j2]; exact (hg k hk).2
    exact ⟨fun h => c k _ hk hl e.symm h, fun h => c _ k hl hk e h⟩
theorem c_Join_5 (n : Nat) (hn : n ≤ 8) (gb : Nat → Nat) (hb : Can n gb) (y : List Int) : ∀ i, i ≤ n → ∀ G : Nat → Nat, Can n G →
    ∃ G' : Nat → Nat, Can n G' ∧ (∀ z x, Cz n G' z x ↔ Cz n G z x ∧ ∀ k, i ≤ k → k < n → ((z ≤ k ∧ k < x) ↔ (z ≤ mdf n gb k ∧ mdf n gb k < x))) ∧
      R ii_JoinOfParts_5 [tA8 (A8 n (mdf n gb)), tA8 y, tLI (Gl n G), tI (n : Int), tI (i : Int)] = some [tI 0, tA8 y, tLI (Gl n G')] := by
  refine up_loop _ (fun G hG => ?_) (fun i hi ih G hG => ?_)
  · refine ⟨G, hG, fun z x => ⟨fun h => ⟨h, fun k h1 h2 => by omega⟩, fun h => h.1⟩, ?_⟩
    apply vi_JoinOfParts_5
    have h1 : ¬ ((n : Int) < (n : Int)) := by omega
    simp only [bi_JoinOfParts_5, decide_eq_false h1, cond_false]
  · have hj := mdf_lt hb hi
    obtain ⟨G', r1, r2, r3⟩ := ih (mrg G i (mdf n gb i)) (mrg_can hG hi hj)
    refine ⟨G', r1, fun z x => ?_, ?_⟩
    · rw [r2, mrg_Cz hi hj]
      constructor
      · rintro ⟨⟨c, h1⟩, h2⟩
        refine ⟨c, fun k hk hkn => ?_⟩
        by_cases h : k = i
        · subst h; exact h1
        · exact h2 k (by omega) hkn
      · rintro ⟨c, h⟩
        exact ⟨⟨c, h i (Nat.le_refl _) hi⟩, fun k hk hkn => h k (by omega) hkn⟩
    · apply vi_JoinOfParts_5
      have v1 : decide ((i : Int) < (n : Int)) = true := decide_eq_true (by omega)
      have v2 : decide ((0 : Int) ≤ (i : Int)) = true := decide_eq_true (by omega)
      have v3 : decide ((i : Int) < 8) = true := decide_eq_true (by omega)
      have w : wi64 ((i : Int) + 1) = ((i + 1 : Nat) : Int) := by rw [wrap_i64] <;> omega
      have w2 : wi64 ((mdf n gb i : Nat) : Int) = ((mdf n gb i : Nat) : Int) := by rw [wrap_i64] <;> omega
      simp only [bi_JoinOfParts_5, v1, v2, v3, cond_true, Bool.and_true, Int.toNat_natCast, A8_get hi hn, w2, c_merge n hn G i _ hi hj, Option.bind_some, getTV_here, w, r3]
/-! ### crossing groups, with their witnesses -/
theorem w_crossing_6 (n : Nat) (hn : n ≤ 8) (g : Nat → Nat) (a : Nat) (ha : a < n) (x6 x7 : Int) : ∀ (d x : Nat), x + d = n → a < x →
    ∃ p q : Int, R i_i_groups__crossing_6 [tLI (Gl n g), tI (n : Int), tI (a : Int), tI (x : Int), tI x6, tI x7] = some (if c3 n g a d x then [tI 1, tI p, tI q, tB true] else [tI 0, tLI (Gl n g), tI (n : Int), tI x6, tI x7]) ∧
      (c3 n g a d x = true → ∃ b : Nat, p = a ∧ q = b ∧ a < b ∧ ∃ c y, b < c ∧ c < y ∧ y < n ∧ Xr g a b c y) := by
  intro d
  induction d with
  | zero =>
    intro x hx hax
    refine ⟨0, 0, ?_, fun h => by simp [c3] at h⟩
    apply v_i_groups__crossing_6
    have h1 : ¬ ((x : Int) < (n : Int)) := by omega
    simp only [b_i_groups__crossing_6, decide_eq_false h1, cond_false, c3]
    rfl
  | succ d ih =>
    intro x hx hax
    have hxn : x < n := by omega
    have h1 : ((x : Int) < (n : Int)) := by omega
    have w : wi64 ((x : Int) + 1) = ((x + 1 : Nat) : Int) := by rw [wrap_i64] <;> omega
    have h5 := c_crossing_9 n hn g a x ha hxn x6 x7 (n - (x + 1)) (x + 1) (by omega)
    obtain ⟨p, q, ih', hw⟩ := ih (x + 1) (by omega) (by omega)
    by_cases hb5 : c4 n g a x (n - (x + 1)) (x + 1) = true
    · refine ⟨a, x, ?_, fun _ => ?_⟩
      · apply v_i_groups__crossing_6
        simp only [b_i_groups__crossing_6, decide_eq_true h1, cond_true, w, h5, c3]
        simp only [hb5, if_true, Bool.true_or]
        rfl
      · obtain ⟨c, y, k1, k2, k3, k4⟩ := (c4_iff n g a x _ _ (by omega)).1 hb5
        exact ⟨x, rfl, rfl, hax, c, y, by omega, k2, k3, k4⟩
    · have hb6 : c4 n g a x (n - (x + 1)) (x + 1) = false := by simpa using hb5
      refine ⟨p, q, ?_, fun h => ?_⟩
      · have c0 : ((0 : Int) == 0) = true := rfl
        apply v_i_groups__crossing_6
        simp only [b_i_groups__crossing_6, decide_eq_true h1, cond_true, w, h5, c3]
        simp only [hb6, Bool.false_eq_true, if_false, Option.bind_some, getTV_here, getTV_next, c0, cond_true, w, ih', Bool.false_or]
      · rw [c3, hb6, Bool.false_or] at h
        exact hw h
theorem w_crossing_3 (n : Nat) (hn : n ≤ 8) (g : Nat → Nat) : ∀ (d x : Nat), x + d = n →
    ∃ p q : Int, R i_i_groups__crossing_3 [tLI (Gl n g), tI (n : Int), tI (n : Int), tI (x : Int)] = some (if c2 n g d x then [tI 1, tI p, tI q, tB true] else [tI 0]) ∧
      (c2 n g d x = true → ∃ a b : Nat, p = a ∧ q = b ∧ a < b ∧ ∃ c y, b < c ∧ c < y ∧ y < n ∧ Xr g a b c y) := by
  intro d
  induction d with
  | zero =>
    intro x hx
    refine ⟨0, 0, ?_, fun h => by simp [c2] at h⟩
    apply v_i_groups__crossing_3
    have h1 : ¬ ((x : Int) < (n : Int)) := by omega
    simp only [b_i_groups__crossing_3, decide_eq_false h1, cond_false, c2]
    rfl
  | succ d ih =>
    intro x hx
    have hxn : x < n := by omega
    have h1 : ((x : Int) < (n : Int)) := by omega
    have w : wi64 ((x : Int) + 1) = ((x + 1 : Nat) : Int) := by rw [wrap_i64] <;> omega
    obtain ⟨p, q, h5, hw5⟩ := w_crossing_6 n hn g x hxn (n : Int) (x : Int) (n - (x + 1)) (x + 1) (by omega) (by omega)
    obtain ⟨p', q', ih', hw⟩ := ih (x + 1) (by omega)
    by_cases hb5 : c3 n g x (n - (x + 1)) (x + 1) = true
    · refine ⟨p, q, ?_, fun _ => ?_⟩
      · apply v_i_groups__crossing_3
        simp only [b_i_groups__crossing_3, decide_eq_true h1, cond_true, w, h5, c2]
        simp only [hb5, if_true, Bool.true_or]
        rfl
      · obtain ⟨b, k1, k2, k3, k4⟩ := hw5 hb5
        exact ⟨x, b, k1, k2, k3, k4⟩
    · have hb6 : c3 n g x (n - (x + 1)) (x + 1) = false := by simpa using hb5
      refine ⟨p', q', ?_, fun h => ?_⟩
      · have c0 : ((0 : Int) == 0) = true := rfl
        apply v_i_groups__crossing_3
        simp only [b_i_groups__crossing_3, decide_eq_true h1, cond_true, w, h5, c2]
        simp only [hb6, Bool.false_eq_true, if_false, Option.bind_some, getTV_here, getTV_next, c0, cond_true, w, ih', Bool.false_or]
      · rw [c2, hb6, Bool.false_or] at h
        exact hw h
theorem w_crossing (n : Nat) (hn : n ≤ 8) (g : Nat → Nat) : ∃ p q : Int, R i_i_groups__crossing [tLI (Gl n g)] = some [tI p, tI q, tB (crs n g)] ∧ (crs n g = true → ∃ a b : Nat, p = a ∧ q = b ∧ a < b ∧ ∃ c y, b < c ∧ c < y ∧ y < n ∧ Xr g a b c y) := by
  obtain ⟨p, q, h2, hw⟩ := w_crossing_3 n hn g n 0 (by omega)
  simp only [Int.natCast_zero] at h2
  by_cases hb5 : c2 n g n 0 = true
  · refine ⟨p, q, ?_, hw⟩
    apply v_i_groups__crossing
    simp only [b_i_groups__crossing, Gl_len, h2, Option.bind_some, crs]
    rw [if_pos hb5, hb5]
    rfl
  · have hb6 : c2 n g n 0 = false := by simpa using hb5
    refine ⟨0, 0, ?_, fun h => (hb5 h).elim⟩
    apply v_i_groups__crossing
    simp only [b_i_groups__crossing, Gl_len, h2, Option.bind_some, crs]
    rw [if_neg hb5, hb6]
    rfl
theorem c_Join_9 (n : Nat) (hn : n ≤ 8) (y : List Int) : ∀ (m : Nat) (G : Nat → Nat), Can n G → (List.range n).countP (fun x => decide (G x = x)) ≤ m →
    ∃ G' : Nat → Nat, Can n G' ∧ crs n G' = false ∧ (∀ z x, Cz n G' z x ↔ Cz n G z x) ∧ R ii_JoinOfParts_9 [tA8 y, tLI (Gl n G)] = some [tI 0, tA8 (A8 n (mdf n G')), tI 0] := by
  have done : ∀ G : Nat → Nat, Can n G → crs n G = false → R ii_JoinOfParts_9 [tA8 y, tLI (Gl n G)] = some [tI 0, tA8 (A8 n (mdf n G)), tI 0] := by
    intro G hG hc
    obtain ⟨p, q, h1, _⟩ := w_crossing n hn G
    rw [hc] at h1
    apply vi_JoinOfParts_9
    simp only [bi_JoinOfParts_9, h1, Option.bind_some, getTV_here, getTV_next, Bool.not_false, cond_true, c_part n hn G hG]
  have wit : ∀ G : Nat → Nat, Can n G → crs n G = true → ∃ a b : Nat, a < n ∧ b < n ∧ G a ≠ G b ∧ (∀ z x, Cz n G z x → ((z ≤ a ∧ a < x) ↔ (z ≤ b ∧ b < x))) ∧ ∀ o, R ii_JoinOfParts_9 [tA8 y, tLI (Gl n (mrg G a b))] = some o → R ii_JoinOfParts_9 [tA8 y, tLI (Gl n G)] = some o := by
    intro G hG hc
    obtain ⟨p, q, h1, hw⟩ := w_crossing n hn G
    obtain ⟨a, b, rfl, rfl, hab, c, v, hbc, hcv, hvn, x1, x2, x3⟩ := hw hc
    rw [hc] at h1
    refine ⟨a, b, by omega, by omega, x3, fun z x cz => ⟨fun h => ?_, fun h => ?_⟩, fun o ho => ?_⟩
    · have := cz a c (by omega) (by omega) x1 h
      omega
    · have h2 := cz b v (by omega) hvn x2 h
      exact cz c a (by omega) (by omega) x1.symm (by omega)
    · apply vi_JoinOfParts_9
      simp only [bi_JoinOfParts_9, h1, Option.bind_some, getTV_here, getTV_next, Bool.not_true, cond_false, c_merge n hn G a b (by omega) (by omega)]
      exact ho
  have less : ∀ (G : Nat → Nat) (a b : Nat), Can n G → a < n → b < n → G a ≠ G b → (List.range n).countP (fun x => decide (mrg G a b x = x)) < (List.range n).countP (fun x => decide (G x = x)) := by
    intro G a b hG ha hb hne
    have h1 := hG a ha
    have h2 := hG b hb
    have hM : max (G a) (G b) < n := by omega
    have hGM : G (max (G a) (G b)) = max (G a) (G b) := by
      by_cases h : G a ≤ G b
      · rw [Nat.max_eq_right h]; exact h2.2
      · rw [Nat.max_eq_left (by omega)]; exact h1.2
    have hGm : G (min (G a) (G b)) = min (G a) (G b) := by
      by_cases h : G a ≤ G b
      · rw [Nat.min_eq_left h]; exact h1.2
      · rw [Nat.min_eq_right (by omega)]; exact h2.2
    refine Pm.countP_lt (x := max (G a) (G b)) ?_ (List.mem_range.2 hM) ?_ (decide_eq_true hGM)
    · intro x _ hx
      have hx := of_decide_eq_true hx
      apply decide_eq_true
      unfold mrg at hx
      by_cases h : G x = max (G a) (G b)
      · rw [if_pos h] at hx
        rw [← hx, hGm] at h
        omega
      · rw [if_neg h] at hx
        exact hx
    · apply decide_eq_false
      unfold mrg
      rw [if_pos hGM]
      omega
  intro m
  induction m with
  | zero =>
    intro G hG hm
    by_cases hc : crs n G = false
    · exact ⟨G, hG, hc, fun z x => Iff.rfl, done G hG hc⟩
    · have hc' : crs n G = true := by simpa using hc
      obtain ⟨a, b, ha, hb, hne, _, _⟩ := wit G hG hc'
      have := less G a b hG ha hb hne
      omega
  | succ m ih =>
    intro G hG hm
    by_cases hc : crs n G = false
    · exact ⟨G, hG, hc, fun z x => Iff.rfl, done G hG hc⟩
    · have hc' : crs n G = true := by simpa using hc
      obtain ⟨a, b, ha, hb, hne, hcz, hR⟩ := wit G hG hc'
      have hl := less G a b hG ha hb hne
      obtain ⟨G', r1, r2, r3, r4⟩ := ih (mrg G a b) (mrg_can hG ha hb) (by omega)
      refine ⟨G', r1, r2, fun z x => ?_, hR _ r4⟩
      rw [r3, mrg_Cz ha hb]
      exact ⟨fun h => h.1, fun h => ⟨h, hcz z x h⟩⟩
/-- Joins of parts, by both packages. -/
theorem join_both (n : Nat) (hn1 : 1 ≤ n) (hn : n ≤ 8) (a b : Nat → Nat) (ha : Can n a) (hb : Can n b) (ca : crs n a = false) (cb : crs n b = false) :
    ∃ r : List Int, r.length = 8 ∧
      (∃ m c1 c2 : List Int, R is_l07Complement [tA8 (A8 n (mdf n a)), tI (n : Int)] = some [tA8 c1] ∧ R is_l07Complement [tA8 (A8 n (mdf n b)), tI (n : Int)] = some [tA8 c2] ∧ R is_l07Meet [tA8 c1, tA8 c2, tI (n : Int)] = some [tA8 m] ∧
        ∃ k : List Int, R is_l07Back [tA8 m, tI (n : Int)] = some [tA8 k] ∧ R is_l07Then [tA8 (sA (whP n)), tA8 k, tI (n : Int)] = some [tA8 r]) ∧
      (∃ (y : List Int) (G : Nat → Nat), R ii_JoinOfParts_5 [tA8 (A8 n (mdf n b)), tA8 (List.replicate 8 0), tLI (Gl n a), tI (n : Int), tI 0] = some [tI 0, tA8 y, tLI (Gl n G)] ∧ R ii_JoinOfParts_9 [tA8 y, tLI (Gl n G)] = some [tI 0, tA8 r, tI 0]) := by
  obtain ⟨G, g1, g2, g3⟩ := c_Join_5 n hn b hb (List.replicate 8 0) 0 (Nat.zero_le _) a ha
  obtain ⟨H, h1, h2, h3, h4⟩ := c_Join_9 n hn (List.replicate 8 0) _ G g1 (Nat.le_refl _)
  obtain ⟨s, hs, _⟩ := mdf_pm ha
  obtain ⟨t, ht, _⟩ := mdf_pm hb
  obtain ⟨v, hv, _⟩ := mdf_pm h1
  have ka := kr_array hn ha ca s hs
  have kb := kr_array hn hb cb t ht
  have kv := kr_array hn h1 h2 v hv
  -- closed for the join is closed for both
  have hcz : ∀ z x, Cz n H z x ↔ Cz n a z x ∧ Cz n b z x := by
    intro z x
    rw [h3, g2, ← next_Cz hb]
    constructor
    · rintro ⟨c, h⟩; exact ⟨c, fun k hk => h k (Nat.zero_le _) hk⟩
    · rintro ⟨c, h⟩; exact ⟨c, fun k _ hk => h k hk⟩
  have hll : ∀ x, x < n → lst (hl n a) (hl n b) x = hl n H x := by
    intro x _
    have sx := hl_spec n H x
    have c := (hcz _ _).1 sx.2.1
    refine (lst_of ?_ ?_).symm
    · exact sm_iff.2 ⟨(hl_iff sx.1).1 c.1, (hl_iff sx.1).1 c.2⟩
    · intro y hy
      rw [Bool.eq_false_iff]
      intro hsm
      have hsm := sm_iff.1 hsm
      have hyx : y ≤ x := by omega
      exact sx.2.2 y hy ((hcz y x).2 ⟨(hl_iff hyx).2 hsm.1, (hl_iff hyx).2 hsm.2⟩)
  have hm : A8 n (mdf n (lst (hl n a) (hl n b))) = sA (v⁻¹ * whP n) := by
    rw [kv]
    exact A8_congr (fun x hx => mdf_congr hll hx)
  refine ⟨A8 n (mdf n H), A8_len _ _, ⟨A8 n (mdf n (lst (hl n a) (hl n b))), A8 n (mdf n (hl n a)), A8 n (mdf n (hl n b)), ?_, ?_, ?_, sA (v⁻¹ * whP n)⁻¹, ?_, ?_⟩, List.replicate 8 0, G, ?_, h4⟩
  · rw [hs, ← ka]; exact c_l07Complement n hn s
  · rw [ht, ← kb]; exact c_l07Complement n hn t
  · exact c_l07Meet n hn1 hn _ _ (hl_can n n a) (hl_can n n b)
  · rw [hm]; exact c_l07Back n hn _
  · rw [hv]
    have e : whP n * (v⁻¹ * whP n)⁻¹ = v := by
      rw [mul_inv_rev, inv_inv, ← Grp.assoc, Grp.mul_inv, Grp.one_mul]
    have := c_l07Then n hn (whP n) (v⁻¹ * whP n)⁻¹
    rw [e] at this
    exact this
  · simp only [Int.natCast_zero] at g3
    exact g3
theorem law_FnExactJoinOfParts (a : List Int) (h : Fit (.arr .u8 8) a) (b : List Int) (h' : Fit (.arr .u8 8) b) (k : Int) (h'' : Fit (.int .i64) k) : R iw_FnExactJoinOfParts [tA8 a, tA8 b, tI k] = some [tB true] := by
  have ha := fit_part h
  have hb := fit_part h'
  apply vw_FnExactJoinOfParts
  have c0 : ((0 : Int) != 0) = false := rfl
  have c1 : ((1 : Int) != 0) = true := rfl
  obtain ⟨r, c, h8, hss, hii⟩ : ∃ (r : List Int) (c : Int), r.length = 8 ∧ R is_JoinOfParts [tA8 a, tA8 b, tI k] = some [tA8 r, tI c] ∧ R ii_JoinOfParts [tA8 a, tA8 b, tI k] = some [tA8 r, tI c] := by
    rcases isPt_cases a k with h1 | ⟨h1, n, g, s, q1, q2, rfl, hg, hc, e, _⟩
    · refine ⟨List.replicate 8 0, 1, zero8, ?_, ?_⟩
      · have e2 : R is_l07Two [tA8 a, tA8 b, tI k] = some [tI 1] := by
          apply vs_l07Two
          simp only [bs_l07Two, c_l07Is a ha, h1, Option.bind_some, getTV_here, Bool.not_false, cond_true]
        apply vs_JoinOfParts
        simp only [bs_JoinOfParts, e2, Option.bind_some, getTV_here, c1, cond_true]
      · apply vi_JoinOfParts
        simp only [bi_JoinOfParts, c_IsPart a ha, h1, Option.bind_some, getTV_here, Bool.not_false, cond_true]
    · rcases isPt_cases b n with h2 | ⟨h2, m, g', s', _, _, hm, hg', hc', e', _⟩
      · refine ⟨List.replicate 8 0, 1, zero8, ?_, ?_⟩
        · have e2 : R is_l07Two [tA8 a, tA8 b, tI (n : Int)] = some [tI 1] := by
            apply vs_l07Two
            simp only [bs_l07Two, c_l07Is a ha, c_l07Is b hb, h1, h2, Option.bind_some, getTV_here, Bool.not_true, Bool.not_false, cond_true, cond_false]
          apply vs_JoinOfParts
          simp only [bs_JoinOfParts, e2, Option.bind_some, getTV_here, c1, cond_true]
        · apply vi_JoinOfParts
          simp only [bi_JoinOfParts, c_IsPart a ha, c_IsPart b hb, h1, h2, Option.bind_some, getTV_here, Bool.not_true, Bool.not_false, cond_true, cond_false]
      · have hnm : n = m := by omega
        subst hnm
        obtain ⟨r, r8, ⟨mm, x1, x2, j1, j2, j3, kk, j4, j5⟩, y, G, j6, j7⟩ := join_both n q1 q2 g g' hg hg' hc hc'
        refine ⟨r, 0, r8, ?_, ?_⟩
        · have e2 : R is_l07Two [tA8 a, tA8 b, tI (n : Int)] = some [tI 0] := by
            apply vs_l07Two
            simp only [bs_l07Two, c_l07Is a ha, c_l07Is b hb, h1, h2, Option.bind_some, getTV_here, Bool.not_true, cond_false]
          rw [← e] at j1
          rw [← e'] at j2
          apply vs_JoinOfParts
          simp only [bs_JoinOfParts, e2, Option.bind_some, getTV_here, c0, cond_false, j1, j2, j3, c_l07Whole n q2, j4, j5]
        · have e3 := c_groupsOf n q2 g hg
          rw [← e] at e3
          rw [← e'] at j6
          apply vi_JoinOfParts
          simp only [bi_JoinOfParts, c_IsPart a ha, c_IsPart b hb, h1, h2, Option.bind_some, getTV_here, getTV_next, Bool.not_true, cond_false, e3, j6, j7]
  simp [bw_FnExactJoinOfParts, c_toPart a ha.1, c_toPart b hb.1, hss, hii, c_eqPart r r h8 h8]
end Go.Ev.Ytadjhggdddbicaa
