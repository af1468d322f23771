/- Texts merged: Ms2 Mp1 Mp2 Mp3 Mp4 Mp5 Mp6 Mp7 Mp9 Mp8. -/
import Derived.Test.YteclcmiopobnaaaWa
set_option linter.unusedVariables false
set_option linter.unusedSimpArgs false
namespace Go.Ev.Yteclcmiopobnaaa.P
open Go.Ev.Yteclcmiopobnaaa
open Go.Ev
end Go.Ev.Yteclcmiopobnaaa.P
namespace Go.Ev.Yteclcmiopobnaaa.P
open Go.Ev.Yteclcmiopobnaaa
open Go.Ev
def dnL (b : Int) : Nat → List Int
 | 0 => []
 | d + 1 => (b + d + 1) :: dnL b d
theorem dnL_len (b : Int) : ∀ d, (dnL b d).length = d
 | 0 => rfl
 | d + 1 => by simp [dnL, dnL_len b d]
theorem dnL_snoc (b : Int) : ∀ d, dnL (b + 1) d ++ [b + 1] = dnL b (d + 1)
 | 0 => by simp [dnL]
 | d + 1 => by
  rw [dnL, List.cons_append, dnL_snoc b d]
  simp only [dnL]
  congr 1
  omega
def upL (x : Int) : Nat → List Int
 | 0 => []
 | d + 1 => (-x) :: upL (x + 1) d
theorem upL_len : ∀ (d : Nat) (x : Int), (upL x d).length = d
 | 0, x => rfl
 | d + 1, x => by simp [upL, upL_len d]
theorem c_band_3 (p b : Int) (hb : 0 ≤ b) (hb' : b ≤ 100) : ∀ (d : Nat) (l : List Int), d ≤ 100 → l.length + d ≤ 1000 → R ii_band_3 [tLI l, tI p, tI b, tI (b + d)] = some [tI 0, tLI (l ++ dnL b d), tI p, tI b] := by
 intro d
 induction d with
 | zero =>
  intro l _ _
  apply vi_band_3
  simp [bi_band_3, dnL]
 | succ d ih =>
  intro l hd hl
  apply vi_band_3
  have h1 : b < b + ((d + 1 : Nat) : Int) := by omega
  have w : wi64 (b + ((d + 1 : Nat) : Int) - 1) = b + (d : Int) := by rw [wrap_i64] <;> omega
  have ap : apOk l [b + ((d + 1 : Nat) : Int)] = true := apOk1 (by omega)
  simp only [bi_band_3, decide_eq_true h1, cond_true, ap, w]
  rw [ih _ (by omega) (by simp; omega), show b + ((d + 1 : Nat) : Int) = b + d + 1 by omega, List.append_assoc]
  rfl
theorem c_l07Band_3 (p b : Int) (hb : 0 ≤ b) (hb' : b ≤ 100) : ∀ (d : Nat) (l : List Int), d ≤ 100 → l.length + d ≤ 1000 → R is_l07Band_3 [tLI l, tI p, tI b, tI (b + 1 + d)] = some [tI 0, tLI (l ++ dnL (b + 1) d), tI p, tI b] := by
 intro d
 have wb : wi64 (b + 1) = b + 1 := by rw [wrap_i64] <;> omega
 induction d with
 | zero =>
  intro l _ _
  apply vs_l07Band_3
  simp [bs_l07Band_3, dnL, wb]
 | succ d ih =>
  intro l hd hl
  apply vs_l07Band_3
  have h1 : b + 1 < b + 1 + ((d + 1 : Nat) : Int) := by omega
  have w : wi64 (b + 1 + ((d + 1 : Nat) : Int) - 1) = b + 1 + (d : Int) := by rw [wrap_i64] <;> omega
  have ap : apOk l [b + 1 + ((d + 1 : Nat) : Int)] = true := apOk1 (by omega)
  simp only [bs_l07Band_3, wb, decide_eq_true h1, cond_true, ap, w]
  rw [ih _ (by omega) (by simp; omega), show b + 1 + ((d + 1 : Nat) : Int) = b + 1 + d + 1 by omega, List.append_assoc]
  rfl
theorem c_band_7 (p : Int) (hp : p ≤ 100) : ∀ (d : Nat) (x : Int) (l : List Int), 0 ≤ x → x + d = p + 1 → l.length + d ≤ 1000 → R ii_band_7 [tLI l, tI p, tI x] = some [tI 0, tLI (l ++ upL x d)] := by
 intro d
 induction d with
 | zero =>
  intro x l hx hxd _
  apply vi_band_7
  have h1 : ¬ x ≤ p := by omega
  simp [bi_band_7, upL, h1]
 | succ d ih =>
  intro x l hx hxd hl
  apply vi_band_7
  have h1 : x ≤ p := by omega
  have w : wi64 (x + 1) = x + 1 := by rw [wrap_i64] <;> omega
  have w0 : wi64 (0 - x) = -x := by rw [wrap_i64] <;> omega
  have ap : apOk l [-x] = true := apOk1 (by omega)
  simp only [bi_band_7, decide_eq_true h1, cond_true, w0, ap, w]
  rw [ih (x + 1) _ (by omega) (by omega) (by simp; omega), List.append_assoc]
  rfl
theorem c_l07Band_8 (p : Int) (hp : p ≤ 100) : ∀ (d : Nat) (x : Int) (l : List Int), 0 ≤ x → x + d = p + 1 → l.length + d ≤ 1000 → R is_l07Band_8 [tLI l, tI p, tI x] = some [tI 0, tLI (l ++ upL x d)] := by
 intro d
 induction d with
 | zero =>
  intro x l hx hxd _
  apply vs_l07Band_8
  have h1 : ¬ x ≤ p := by omega
  simp [bs_l07Band_8, upL, h1]
 | succ d ih =>
  intro x l hx hxd hl
  apply vs_l07Band_8
  have h1 : x ≤ p := by omega
  have w : wi64 (x + 1) = x + 1 := by rw [wrap_i64] <;> omega
  have w0 : wi64 (0 - x) = -x := by rw [wrap_i64] <;> omega
  have ap : apOk l [-x] = true := apOk1 (by omega)
  simp only [bs_l07Band_8, decide_eq_true h1, cond_true, w0, ap, w]
  rw [ih (x + 1) _ (by omega) (by omega) (by simp; omega), List.append_assoc]
  rfl
def bandL (p b : Int) : List Int := dnL b (p - b).toNat ++ upL (b + 2) (p - b - 1).toNat
theorem bandL_len (p b : Int) (h : b < p) (hp : p ≤ 100) (hb : 0 ≤ b) : (bandL p b).length ≤ 200 := by
 unfold bandL
 rw [List.length_append, dnL_len, upL_len]
 omega
theorem c_band (p b : Int) (hb : 0 ≤ b) (h : b < p) (hp : p ≤ 100) : R ii_band [tI p, tI b] = some [tLI (bandL p b)] := by
 apply vi_band
 have h3 := c_band_3 p b hb (by omega) (p - b).toNat [] (by omega) (by simp; omega)
 rw [show b + (((p - b).toNat : Nat) : Int) = p by omega] at h3
 have w : wi64 (b + 2) = b + 2 := by rw [wrap_i64] <;> omega
 have h7 := c_band_7 p hp (p - b - 1).toNat (b + 2) (dnL b (p - b).toNat) (by omega) (by omega) (by rw [dnL_len]; omega)
 simp only [List.nil_append] at h3
 simp only [bi_band, h3, Option.bind_some, getTV_here, getTV_next, w, h7]
 rfl
theorem c_l07Band (p b : Int) (hb : 0 ≤ b) (h : b < p) (hp : p ≤ 100) : R is_l07Band [tI p, tI b] = some [tLI (bandL p b)] := by
 apply vs_l07Band
 have h3 := c_l07Band_3 p b hb (by omega) (p - b - 1).toNat [] (by omega) (by simp; omega)
 rw [show b + 1 + (((p - b - 1).toNat : Nat) : Int) = p by omega] at h3
 have w : wi64 (b + 2) = b + 2 := by rw [wrap_i64] <;> omega
 have w1 : wi64 (b + 1) = b + 1 := by rw [wrap_i64] <;> omega
 have hs : dnL (b + 1) (p - b - 1).toNat ++ [b + 1] = dnL b (p - b).toNat := by
  rw [dnL_snoc]
  congr 1
  omega
 have h7 := c_l07Band_8 p hp (p - b - 1).toNat (b + 2) (dnL b (p - b).toNat) (by omega) (by omega) (by rw [dnL_len]; omega)
 have ap : apOk (dnL (b + 1) (p - b - 1).toNat) [b + 1] = true := apOk1 (by rw [dnL_len]; omega)
 simp only [List.nil_append] at h3
 simp only [bs_l07Band, h3, Option.bind_some, getTV_here, getTV_next, w, w1, ap, cond_true, hs, h7]
 rfl
end Go.Ev.Yteclcmiopobnaaa.P
namespace Go.Ev
open Go.Gar
def Can (n : Nat) (g : Nat → Nat) : Prop := ∀ x, x < n → g x ≤ x ∧ g (g x) = g x
def nx (g : Nat → Nat) (i : Nat) : Nat → Nat → Nat
 | 0, _ => g i
 | d + 1, j => if g j = g i then j else nx g i d (j + 1)
def mdf (n : Nat) (g : Nat → Nat) (i : Nat) : Nat := nx g i (n - (i + 1)) (i + 1)
theorem nx_spec (g : Nat → Nat) (i : Nat) : ∀ d j, (∃ k, j ≤ k ∧ k < j + d ∧ g k = g i ∧ (∀ y, j ≤ y → y < k → g y ≠ g i) ∧ nx g i d j = k) ∨ ((∀ y, j ≤ y → y < j + d → g y ≠ g i) ∧ nx g i d j = g i) := by
 intro d
 induction d with
 | zero => intro j; right; exact ⟨fun y h1 h2 => by omega, rfl⟩
 | succ d ih =>
  intro j
  by_cases h : g j = g i
  · left
    exact ⟨j, Nat.le_refl _, by omega, h, fun y h1 h2 => by omega, by rw [nx, if_pos h]⟩
  · rw [nx, if_neg h]
    rcases ih (j + 1) with ⟨k, k1, k2, k3, k4, k5⟩ | ⟨k1, k2⟩
    · left
      refine ⟨k, by omega, by omega, k3, fun y h1 h2 => ?_, k5⟩
      by_cases hy : y = j
      · rw [hy]; exact h
      · exact k4 y (by omega) h2
    · right
      refine ⟨fun y h1 h2 => ?_, k2⟩
      by_cases hy : y = j
      · rw [hy]; exact h
      · exact k1 y (by omega) (by omega)
theorem mdf_spec {n : Nat} {g : Nat → Nat} {i : Nat} (hi : i < n) : (∃ k, i < k ∧ k < n ∧ g k = g i ∧ (∀ y, i < y → y < k → g y ≠ g i) ∧ mdf n g i = k) ∨ ((∀ y, i < y → y < n → g y ≠ g i) ∧ mdf n g i = g i) := by
 rcases nx_spec g i (n - (i + 1)) (i + 1) with ⟨k, k1, k2, k3, k4, k5⟩ | ⟨k1, k2⟩
 · exact .inl ⟨k, by omega, by omega, k3, fun y h1 h2 => k4 y (by omega) h2, k5⟩
 · exact .inr ⟨fun y h1 h2 => k1 y (by omega) (by omega), k2⟩
theorem mdf_lt {n : Nat} {g : Nat → Nat} (hg : Can n g) {i : Nat} (hi : i < n) : mdf n g i < n := by
 rcases mdf_spec (g := g) hi with ⟨k, _, k2, _, _, k5⟩ | ⟨_, k2⟩
 · omega
 · have := (hg i hi).1
   omega
theorem mdf_inj {n : Nat} {g : Nat → Nat} (hg : Can n g) {x y : Nat} (hx : x < n) (hy : y < n) (h : mdf n g x = mdf n g y) : x = y := by
 have gx := hg x hx
 have gy := hg y hy
 rcases mdf_spec (g := g) hx with ⟨k, k1, k2, k3, k4, k5⟩ | ⟨k1, k2⟩
 · rcases mdf_spec (g := g) hy with ⟨l, l1, l2, l3, l4, l5⟩ | ⟨l1, l2⟩
   · have e : k = l := by omega
     subst e
     apply Classical.byContradiction
     intro hne
     rcases Nat.lt_or_gt_of_ne hne with h1 | h1
     · exact k4 y h1 l1 (by omega)
     · exact l4 x h1 k1 (by omega)
   · have e : k = g y := by omega
     subst e
     omega
 · rcases mdf_spec (g := g) hy with ⟨l, l1, l2, l3, l4, l5⟩ | ⟨l1, l2⟩
   · have e : l = g x := by omega
     subst e
     omega
   · have e : g x = g y := by omega
     apply Classical.byContradiction
     intro hne
     rcases Nat.lt_or_gt_of_ne hne with h1 | h1
     · exact k1 y h1 hy e.symm
     · exact l1 x h1 hx e
theorem mdf_pm {n : Nat} {g : Nat → Nat} (hg : Can n g) : ∃ s : Pm n, A8 n (mdf n g) = sA s ∧ ∀ x, x < n → s.f x = mdf n g x := by
 obtain ⟨s, hs⟩ := pm_of (n := n) (f := mdf n g) (fun x hx => mdf_lt hg hx) (fun x y hx hy h => mdf_inj hg hx hy h)
 exact ⟨s, A8_congr (fun x hx => (hs x hx).symm), hs⟩
theorem mdf_congr {n : Nat} {g h : Nat → Nat} (e : ∀ x, x < n → g x = h x) {i : Nat} (hi : i < n) : mdf n g i = mdf n h i := by
 have : ∀ d j, j + d ≤ n → nx g i d j = nx h i d j := by
  intro d
  induction d with
  | zero => intro j _; exact e i hi
  | succ d ih =>
   intro j hj
   rw [nx, nx, e j (by omega), e i hi, ih (j + 1) (by omega)]
 exact this _ _ (by omega)
def sn (n : Nat) (g : Nat → Nat) (i q : Nat) (x : Nat) : Bool := decide (x < n ∧ (g x < i ∨ (g x = i ∧ x < q)))
def lab (g : Nat → Nat) (i q : Nat) (x : Nat) : Nat := if g x < i ∨ (g x = i ∧ x < q) then g x else 0
def mg (g : Nat → Nat) (i : Nat) (x : Nat) : Nat := if (List.range x).any (fun y => decide (i ≤ y ∧ g y = g x)) then x else g x
theorem mg_cases (g : Nat → Nat) (i x : Nat) : (∃ y, i ≤ y ∧ y < x ∧ g y = g x) ∧ mg g i x = x ∨ (∀ y, i ≤ y → y < x → g y ≠ g x) ∧ mg g i x = g x := by
 unfold mg
 by_cases h : (List.range x).any (fun y => decide (i ≤ y ∧ g y = g x)) = true
 · left
   rw [if_pos h]
   obtain ⟨y, hy, hd⟩ := List.any_eq_true.1 h
   have := of_decide_eq_true hd
   exact ⟨⟨y, this.1, List.mem_range.1 hy, this.2⟩, rfl⟩
 · right
   rw [if_neg h]
   refine ⟨fun y h1 h2 h3 => h (List.any_eq_true.2 ⟨y, List.mem_range.2 h2, decide_eq_true ⟨h1, h3⟩⟩), rfl⟩
theorem mg_zero {n : Nat} {g : Nat → Nat} (hg : Can n g) {x : Nat} (hx : x < n) : mg g 0 x = x := by
 rcases mg_cases g 0 x with ⟨_, e⟩ | ⟨h, e⟩
 · exact e
 · have h1 := hg x hx
   by_cases h2 : g x < x
   · exact (h (g x) (by omega) h2 h1.2).elim
   · omega
theorem mg_last {n : Nat} (g : Nat → Nat) {x : Nat} (hx : x < n) : mg g n x = g x := by
 rcases mg_cases g n x with ⟨⟨y, h1, h2, _⟩, _⟩ | ⟨_, e⟩
 · omega
 · exact e
def mrg (G : Nat → Nat) (i j : Nat) (x : Nat) : Nat := if G x = max (G i) (G j) then min (G i) (G j) else G x
theorem mrg_can {n : Nat} {G : Nat → Nat} (hG : Can n G) {i j : Nat} (hi : i < n) (hj : j < n) : Can n (mrg G i j) := by
 intro x hx
 have h1 := hG x hx
 have h2 := hG i hi
 have h3 := hG j hj
 have hlo : G (min (G i) (G j)) = min (G i) (G j) := by
  by_cases h : G i ≤ G j
  · rw [Nat.min_eq_left h]; exact h2.2
  · rw [Nat.min_eq_right (by omega)]; exact h3.2
 unfold mrg
 by_cases h : G x = max (G i) (G j)
 · rw [if_pos h]
   refine ⟨by omega, ?_⟩
   rw [hlo]
   split <;> rfl
 · rw [if_neg h]
   refine ⟨h1.1, ?_⟩
   rw [h1.2, if_neg h]
theorem mg_step {n : Nat} {g : Nat → Nat} (hg : Can n g) {i : Nat} (hi : i < n) {x : Nat} (hx : x < n) : mrg (mg g i) i (mdf n g i) x = mg g (i + 1) x := by
 have gi := hg i hi
 have gx := hg x hx
 have e1 : mg g i i = g i := by
  rcases mg_cases g i i with ⟨⟨y, h1, h2, _⟩, _⟩ | ⟨_, e⟩
  · omega
  · exact e
 rcases mdf_spec (g := g) hi with ⟨k, k1, k2, k3, k4, k5⟩ | ⟨k1, k2⟩
 · have gk := hg k k2
   have e2 : mg g i k = k := by
    rcases mg_cases g i k with ⟨_, e⟩ | ⟨h, _⟩
    · exact e
    · exact (h i (Nat.le_refl _) k1 k3.symm).elim
   unfold mrg
   rw [k5, e1, e2, Nat.max_eq_right (by omega), Nat.min_eq_left (by omega)]
   rcases mg_cases g i x with ⟨⟨y, y1, y2, y3⟩, e⟩ | ⟨h, e⟩
   · rw [e]
     by_cases hxk : x = k
     · rw [if_pos hxk]
       rcases mg_cases g (i + 1) x with ⟨⟨z, z1, z2, z3⟩, e'⟩ | ⟨h', e'⟩
       · subst hxk
         exact (k4 z (by omega) z2 (by omega)).elim
       · rw [e', hxk, k3]
     · rw [if_neg hxk]
       rcases mg_cases g (i + 1) x with ⟨_, e'⟩ | ⟨h', e'⟩
       · exact e'.symm
       · by_cases hy : y = i
         · subst hy
           rcases Nat.lt_or_gt_of_ne hxk with h1 | h1
           · exact (k4 x y2 h1 y3.symm).elim
           · exact (h' k (by omega) h1 (by omega)).elim
         · exact (h' y (by omega) y2 y3).elim
   · rw [e]
     have hne : ¬ g x = k := by
      intro hk
      rw [hk] at gx
      omega
     rw [if_neg hne]
     rcases mg_cases g (i + 1) x with ⟨⟨z, z1, z2, z3⟩, _⟩ | ⟨_, e'⟩
     · exact (h z (by omega) z2 z3).elim
     · exact e'.symm
 · have e2 : mg g i (g i) = g i := by
    rcases mg_cases g i (g i) with ⟨⟨y, h1, h2, _⟩, _⟩ | ⟨_, e⟩
    · omega
    · rw [e]; exact gi.2
   have e3 : mrg (mg g i) i (mdf n g i) x = mg g i x := by
    unfold mrg
    rw [k2, e1, e2, Nat.max_self, Nat.min_self]
    split
    · rename_i h; exact h.symm
    · rfl
   rw [e3]
   rcases mg_cases g i x with ⟨⟨y, y1, y2, y3⟩, e⟩ | ⟨h, e⟩
   · rcases mg_cases g (i + 1) x with ⟨_, e'⟩ | ⟨h', e'⟩
     · rw [e, e']
     · by_cases hy : y = i
       · subst hy
         exact (k1 x y2 hx y3.symm).elim
       · exact (h' y (by omega) y2 y3).elim
   · rcases mg_cases g (i + 1) x with ⟨⟨z, z1, z2, z3⟩, _⟩ | ⟨_, e'⟩
     · exact (h z (by omega) z2 z3).elim
     · rw [e, e']
def c5 (g : Nat → Nat) (a b c : Nat) : Nat → Nat → Bool
 | 0, _ => false
 | d + 1, x => (decide (g a = g c) && decide (g b = g x) && !decide (g a = g b)) || c5 g a b c d (x + 1)
def c4 (n : Nat) (g : Nat → Nat) (a b : Nat) : Nat → Nat → Bool
 | 0, _ => false
 | d + 1, c => c5 g a b c (n - (c + 1)) (c + 1) || c4 n g a b d (c + 1)
def c3 (n : Nat) (g : Nat → Nat) (a : Nat) : Nat → Nat → Bool
 | 0, _ => false
 | d + 1, b => c4 n g a b (n - (b + 1)) (b + 1) || c3 n g a d (b + 1)
def c2 (n : Nat) (g : Nat → Nat) : Nat → Nat → Bool
 | 0, _ => false
 | d + 1, a => c3 n g a (n - (a + 1)) (a + 1) || c2 n g d (a + 1)
def crs (n : Nat) (g : Nat → Nat) : Bool := c2 n g n 0
theorem c5_congr {n : Nat} {g h : Nat → Nat} (e : ∀ x, x < n → g x = h x) {a b c : Nat} (ha : a < n) (hb : b < n) (hc : c < n) : ∀ d x, x + d ≤ n → c5 g a b c d x = c5 h a b c d x := by
 intro d
 induction d with
 | zero => intro x _; rfl
 | succ d ih => intro x hx; rw [c5, c5, e a ha, e b hb, e c hc, e x (by omega), ih (x + 1) (by omega)]
theorem c4_congr {n : Nat} {g h : Nat → Nat} (e : ∀ x, x < n → g x = h x) {a b : Nat} (ha : a < n) (hb : b < n) : ∀ d x, x + d ≤ n → c4 n g a b d x = c4 n h a b d x := by
 intro d
 induction d with
 | zero => intro x _; rfl
 | succ d ih => intro x hx; rw [c4, c4, c5_congr e ha hb (by omega) _ _ (by omega), ih (x + 1) (by omega)]
theorem c3_congr {n : Nat} {g h : Nat → Nat} (e : ∀ x, x < n → g x = h x) {a : Nat} (ha : a < n) : ∀ d x, x + d ≤ n → c3 n g a d x = c3 n h a d x := by
 intro d
 induction d with
 | zero => intro x _; rfl
 | succ d ih => intro x hx; rw [c3, c3, c4_congr e ha (by omega) _ _ (by omega), ih (x + 1) (by omega)]
theorem crs_congr {n : Nat} {g h : Nat → Nat} (e : ∀ x, x < n → g x = h x) : crs n g = crs n h := by
 have : ∀ d x, x + d ≤ n → c2 n g d x = c2 n h d x := by
  intro d
  induction d with
  | zero => intro x _; rfl
  | succ d ih => intro x hx; rw [c2, c2, c3_congr e (by omega) _ _ (by omega), ih (x + 1) (by omega)]
 exact this n 0 (by omega)
def Gl (n : Nat) (g : Nat → Nat) : List Int := (List.range n).map fun x => (g x : Int)
theorem Gl_len (n : Nat) (g : Nat → Nat) : (Gl n g).length = n := by simp [Gl]
theorem Gl_get? (n : Nat) (g : Nat → Nat) {x : Nat} (h : x < n) : (Gl n g)[x]? = some (g x : Int) := by simp [Gl, h]
theorem Gl_get {n : Nat} {g : Nat → Nat} {x : Nat} (h : x < n) : List.getD (Gl n g) x 0 = (g x : Int) := by
 rw [List.getD_eq_getElem?_getD, Gl_get? n g h]
 rfl
theorem Gl_congr {n : Nat} {g h : Nat → Nat} (e : ∀ x, x < n → g x = h x) : Gl n g = Gl n h := by
 unfold Gl
 apply List.map_congr_left
 intro x hx
 rw [e x (List.mem_range.1 hx)]
theorem Gl_set {n : Nat} {g : Nat → Nat} {k v : Nat} (hk : k < n) : List.set (Gl n g) k (v : Int) = Gl n (fun x => if x = k then v else g x) := by
 apply List.ext_getElem?
 intro x
 by_cases hx : x < n
 · rw [List.getElem?_set, Gl_get? n _ hx, Gl_get? n _ hx, Gl_len]
   by_cases h1 : k = x
   · subst h1
     simp [hx]
   · have h2 : ¬ x = k := fun h => h1 h.symm
     simp [h1, h2]
 · rw [List.getElem?_eq_none (by rw [List.length_set, Gl_len]; omega), List.getElem?_eq_none (by rw [Gl_len]; omega)]
def Bo (S : Nat → Bool) : List Bool := (List.range 8).map S
theorem Bo_get? (S : Nat → Bool) {x : Nat} (h : x < 8) : (Bo S)[x]? = some (S x) := by simp [Bo, h]
theorem Bo_get {S : Nat → Bool} {x : Nat} (h : x < 8) : List.getD (Bo S) x false = S x := by
 rw [List.getD_eq_getElem?_getD, Bo_get? S h]
 rfl
theorem Bo_congr {S T : Nat → Bool} (e : ∀ x, x < 8 → S x = T x) : Bo S = Bo T := by
 unfold Bo
 apply List.map_congr_left
 intro x hx
 rw [e x (List.mem_range.1 hx)]
theorem Bo_set {S : Nat → Bool} {k : Nat} {v : Bool} (hk : k < 8) : List.set (Bo S) k v = Bo (fun x => if x = k then v else S x) := by
 apply List.ext_getElem?
 intro x
 by_cases hx : x < 8
 · rw [List.getElem?_set, Bo_get? _ hx, Bo_get? _ hx, show (Bo S).length = 8 by simp [Bo]]
   by_cases h1 : k = x
   · subst h1
     simp [hx]
   · have h2 : ¬ x = k := fun h => h1 h.symm
     simp [h1, h2]
 · rw [List.getElem?_eq_none (by rw [List.length_set]; simp [Bo]; omega), List.getElem?_eq_none (by simp [Bo]; omega)]
theorem Bo_false : List.replicate 8 false = Bo (fun _ => false) := rfl
end Go.Ev
namespace Go.Ev.Yteclcmiopobnaaa.P
open Go.Ev.Yteclcmiopobnaaa
open Go.Ev Go.Gar
theorem beq_nn (a b : Nat) : (((a : Int)) == (b : Int)) = decide (a = b) := by
 rw [beq_dec]
 by_cases h : a = b
 · simp [h]
 · have : ¬ (a : Int) = b := by omega
   simp [h, this]
theorem bne_nn (a b : Nat) : (((a : Int)) != (b : Int)) = !decide (a = b) := by
 rw [bne_dec]
 by_cases h : a = b
 · simp [h]
 · have : ¬ (a : Int) = b := by omega
   simp [h, this]
theorem c_l07Least_3 (n : Nat) (hn : n ≤ 8) (a : List Int) (ha : B8 a) (x1 x2 : List Int) : ∀ (k : Nat) (met : List Bool), k ≤ 8 → met.length = 8 →
  R is_l07Least_3 [tA8 a, tAi8 x1, tAi8 x2, tAB8 met, tI (n : Int), tI ((8 - k : Nat) : Int)] = some (if chk n a k met then [tI 0, tA8 a, tAi8 x1, tAi8 x2, tI (n : Int)] else [tI 1, tAi8 x2, tB false]) := by
 intro k
 induction k with
 | zero =>
  intro met _ _
  apply vs_l07Least_3
  simp [bs_l07Least_3, chk]
 | succ k ih =>
  intro met hk hm
  have hb := (ha.at (show 7 - k < 8 by omega)).2
  have e : 8 - (k + 1) = 7 - k := by omega
  apply vs_l07Least_3
  rw [e]
  unfold chk
  have e1 : wi64 (((7 - k : Nat) : Int) + 1) = ((8 - k : Nat) : Int) := by rw [wrap_i64] <;> omega
  have e2 : wi64 (List.getD a (7 - k) 0) = List.getD a (7 - k) 0 := wrap_i64 (by omega) (by omega)
  have u1 : (((7 - k : Nat) : Int) < 8) := by omega
  have u2 : ((0 : Int) ≤ ((7 - k : Nat) : Int)) := by omega
  simp only [bs_l07Least_3, decide_eq_true u1, decide_eq_true u2, cond_true, Bool.and_true, Int.toNat_natCast, e1, e2]
  by_cases h : n ≤ 7 - k
  · have h' : ((n : Int) ≤ ((7 - k : Nat) : Int)) := by omega
    have h'' : ¬ (((7 - k : Nat) : Int) < (n : Int)) := by omega
    rw [if_pos h]
    simp only [decide_eq_true h', decide_eq_false h'', cond_true, cond_false, ih met (by omega) hm]
    by_cases h2 : List.getD a (7 - k) 0 = 0
    · simp only [h2, bne_self_eq_false, cond_false, beq_self_eq_true, Bool.true_and]
    · have h3 : (List.getD a (7 - k) 0 == 0) = false := by rw [beq_dec, decide_eq_false h2]
      have h4 : (List.getD a (7 - k) 0 != 0) = true := by rw [bne_dec, decide_eq_false h2]; rfl
      rw [h3, h4]
      simp
  · have h' : ¬ ((n : Int) ≤ ((7 - k : Nat) : Int)) := by omega
    have h'' : (((7 - k : Nat) : Int) < (n : Int)) := by omega
    rw [if_neg h]
    simp only [decide_eq_false h', decide_eq_true h'', cond_true, cond_false]
    by_cases h2 : (n : Int) ≤ List.getD a (7 - k) 0
    · have h3 : ¬ (List.getD a (7 - k) 0 < (n : Int)) := by omega
      rw [decide_eq_true h2, cond_true, decide_eq_false h3]
      simp
    · have h3 : (List.getD a (7 - k) 0 < (n : Int)) := by omega
      have e3 : List.getD a (7 - k) 0 < 8 := by omega
      have e4 : 0 ≤ List.getD a (7 - k) 0 := hb.1
      simp only [decide_eq_false h2, cond_false, decide_eq_true h3, Bool.true_and, decide_eq_true e3, decide_eq_true e4, Bool.and_true, cond_true]
      cases h4 : List.getD met (List.getD a (7 - k) 0).toNat false with
      | true => simp
      | false =>
       rw [cond_false, ih _ (by omega) (by simp [hm])]
       simp
theorem least_stop (x0 x1 x2 : List Int) (S : Nat → Bool) (x4 x5 : Int) (q : Nat) (hq : q < 8) (h : S q = true) : R is_l07Least_14 [tA8 x0, tAi8 x1, tAi8 x2, tAB8 (Bo S), tI x4, tI x5, tI (q : Int)] = some [tI 0, tA8 x0, tAi8 x1, tAi8 x2, tAB8 (Bo S), tI x4, tI x5] := by
 apply vs_l07Least_14
 have u1 : ((q : Int) < 8) := by omega
 have u2 : ((0 : Int) ≤ (q : Int)) := by omega
 simp only [bs_l07Least_14, decide_eq_true u1, decide_eq_true u2, Bool.and_true, cond_true, Int.toNat_natCast, Bo_get hq, h, Bool.not_true, cond_false]
theorem least_go (n : Nat) (hn : n ≤ 8) (f l : Nat → Nat) (x1 : List Int) (S : Nat → Bool) (i q : Nat) (hi : i < n) (hq : q < n) (hf : f q < n) (h : S q = false) {o : List TV}
  (hR : R is_l07Least_14 [tA8 (A8 n f), tAi8 x1, tAi8 (A8 n (fun x => if x = q then i else l x)), tAB8 (Bo (fun x => if x = q then true else S x)), tI (n : Int), tI (i : Int), tI ((f q : Nat) : Int)] = some o) :
  R is_l07Least_14 [tA8 (A8 n f), tAi8 x1, tAi8 (A8 n l), tAB8 (Bo S), tI (n : Int), tI (i : Int), tI (q : Int)] = some o := by
 apply vs_l07Least_14
 have u1 : ((q : Int) < 8) := by omega
 have u2 : ((0 : Int) ≤ (q : Int)) := by omega
 have w : wi64 ((f q : Nat) : Int) = ((f q : Nat) : Int) := by rw [wrap_i64] <;> omega
 simp only [bs_l07Least_14, decide_eq_true u1, decide_eq_true u2, Bool.and_true, cond_true, Int.toNat_natCast, Bo_get (show q < 8 by omega), h, Bool.not_false, A8_get hq hn, w, A8_set hq hn, Bo_set (show q < 8 by omega)]
 exact hR
theorem c_l07Least_14 (n : Nat) (hn : n ≤ 8) (g : Nat → Nat) (hg : Can n g) (x1 : List Int) (i : Nat) (hi : i < n) : ∀ (m q : Nat), q < n → g q = i → n ≤ q + m →
  R is_l07Least_14 [tA8 (A8 n (mdf n g)), tAi8 x1, tAi8 (A8 n (lab g i q)), tAB8 (Bo (sn n g i q)), tI (n : Int), tI (i : Int), tI (q : Int)] =
   some [tI 0, tA8 (A8 n (mdf n g)), tAi8 x1, tAi8 (A8 n (lab g (i + 1) 0)), tAB8 (Bo (sn n g (i + 1) 0)), tI (n : Int), tI (i : Int)] := by
 intro m
 induction m with
 | zero => intro q h1 _ h2; omega
 | succ m ih =>
  intro q hq hgq hm
  have gq := hg q hq
  have hS : sn n g i q q = false := by
   unfold sn
   apply decide_eq_false
   omega
  apply least_go n hn (mdf n g) (lab g i q) x1 (sn n g i q) i q hi hq (mdf_lt hg hq) hS
  rcases mdf_spec (g := g) hq with ⟨k, k1, k2, k3, k4, k5⟩ | ⟨k1, k2⟩
  · rw [k5]
    have ih' := ih k k2 (by omega) (by omega)
    have hx : ∀ x, x < n → ((g x < i ∨ (g x = i ∧ x < k)) ↔ (x = q ∨ (g x < i ∨ (g x = i ∧ x < q)))) := by
     intro x hx
     constructor
     · rintro (h | ⟨h, h'⟩)
       · exact .inr (.inl h)
       · by_cases hxq : x ≤ q
         · rcases Nat.lt_or_eq_of_le hxq with h3 | h3
           · exact .inr (.inr ⟨h, h3⟩)
           · exact .inl h3
         · exact (k4 x (by omega) h' (by omega)).elim
     · rintro (h | h | ⟨h, h'⟩)
       · subst h; exact .inr ⟨hgq, k1⟩
       · exact .inl h
       · exact .inr ⟨h, by omega⟩
    have e1 : A8 n (fun x => if x = q then i else lab g i q x) = A8 n (lab g i k) := by
     apply A8_congr
     intro x hx'
     have := hx x hx'
     unfold lab
     by_cases h1 : x = q
     · rw [if_pos h1, if_pos (this.2 (.inl h1)), h1, hgq]
     · rw [if_neg h1]
       by_cases h2 : g x < i ∨ (g x = i ∧ x < q)
       · rw [if_pos h2, if_pos (this.2 (.inr h2))]
       · rw [if_neg h2, if_neg (fun h => (this.1 h).elim h1 h2)]
    have e2 : Bo (fun x => if x = q then true else sn n g i q x) = Bo (sn n g i k) := by
     apply Bo_congr
     intro x _
     unfold sn
     by_cases hxn : x < n
     · have := hx x hxn
       by_cases h1 : x = q
       · rw [if_pos h1]
         exact (decide_eq_true ⟨hxn, this.2 (.inl h1)⟩).symm
       · rw [if_neg h1, decide_eq_decide]
         constructor
         · exact fun h => ⟨hxn, this.2 (.inr h.2)⟩
         · exact fun h => ⟨hxn, (this.1 h.2).elim (fun h' => (h1 h').elim) id⟩
     · rw [if_neg (by omega), decide_eq_false (by omega), decide_eq_false (by omega)]
    rw [e1, e2]
    exact ih'
  · rw [k2, hgq]
    have hx : ∀ x, x < n → ((g x < i + 1 ∨ (g x = i + 1 ∧ x < 0)) ↔ (x = q ∨ (g x < i ∨ (g x = i ∧ x < q)))) := by
     intro x hx
     constructor
     · rintro (h | ⟨_, h'⟩)
       · by_cases h3 : g x = i
         · rcases Nat.lt_trichotomy x q with h4 | h4 | h4
           · exact .inr (.inr ⟨h3, h4⟩)
           · exact .inl h4
           · exact (k1 x h4 hx (by omega)).elim
         · exact .inr (.inl (by omega))
       · omega
     · rintro (h | h | ⟨h, h'⟩)
       · subst h; exact .inl (by omega)
       · exact .inl (by omega)
       · exact .inl (by omega)
    have e1 : A8 n (fun x => if x = q then i else lab g i q x) = A8 n (lab g (i + 1) 0) := by
     apply A8_congr
     intro x hx'
     have := hx x hx'
     unfold lab
     by_cases h1 : x = q
     · rw [if_pos h1, if_pos (this.2 (.inl h1)), h1, hgq]
     · rw [if_neg h1]
       by_cases h2 : g x < i ∨ (g x = i ∧ x < q)
       · rw [if_pos h2, if_pos (this.2 (.inr h2))]
       · rw [if_neg h2, if_neg (fun h => (this.1 h).elim h1 h2)]
    have e2 : Bo (fun x => if x = q then true else sn n g i q x) = Bo (sn n g (i + 1) 0) := by
     apply Bo_congr
     intro x _
     unfold sn
     by_cases hxn : x < n
     · have := hx x hxn
       by_cases h1 : x = q
       · rw [if_pos h1]
         exact (decide_eq_true ⟨hxn, this.2 (.inl h1)⟩).symm
       · rw [if_neg h1, decide_eq_decide]
         constructor
         · exact fun h => ⟨hxn, this.2 (.inr h.2)⟩
         · exact fun h => ⟨hxn, (this.1 h.2).elim (fun h' => (h1 h').elim) id⟩
     · rw [if_neg (by omega), decide_eq_false (by omega), decide_eq_false (by omega)]
    rw [e1, e2]
    apply least_stop _ _ _ _ _ _ i (by omega)
    unfold sn
    apply decide_eq_true
    have gi : g i = i := by rw [← hgq]; exact gq.2
    omega
theorem c_l07Least_11 (n : Nat) (hn : n ≤ 8) (g : Nat → Nat) (hg : Can n g) (x1 : List Int) : ∀ i, i ≤ n →
  R is_l07Least_11 [tA8 (A8 n (mdf n g)), tAi8 x1, tAi8 (A8 n (lab g i 0)), tAB8 (Bo (sn n g i 0)), tI (n : Int), tI (i : Int)] = some [tI 0, tAi8 x1, tAi8 (A8 n g)] := by
 refine up_loop _ ?_ (fun i hi ih => ?_)
 · apply vs_l07Least_11
   have e : A8 n (lab g n 0) = A8 n g := by
    apply A8_congr
    intro x hx
    have := (hg x hx).1
    unfold lab
    rw [if_pos (by omega)]
   have h1 : ¬ ((n : Int) < (n : Int)) := by omega
   simp only [bs_l07Least_11, decide_eq_false h1, cond_false, e]
 · apply vs_l07Least_11
   have h1 : ((i : Int) < (n : Int)) := by omega
   have w : wi64 ((i : Int) + 1) = ((i + 1 : Nat) : Int) := by rw [wrap_i64] <;> omega
   have gi := hg i hi
   have hin : R is_l07Least_14 [tA8 (A8 n (mdf n g)), tAi8 x1, tAi8 (A8 n (lab g i 0)), tAB8 (Bo (sn n g i 0)), tI (n : Int), tI (i : Int), tI (i : Int)] =
    some [tI 0, tA8 (A8 n (mdf n g)), tAi8 x1, tAi8 (A8 n (lab g (i + 1) 0)), tAB8 (Bo (sn n g (i + 1) 0)), tI (n : Int), tI (i : Int)] := by
    by_cases h : g i = i
    · have h14 := c_l07Least_14 n hn g hg x1 i hi n i hi h (by omega)
      have e1 : A8 n (lab g i i) = A8 n (lab g i 0) := by
       apply A8_congr
       intro x hx
       have := (hg x hx).1
       unfold lab
       by_cases h2 : g x < i
       · rw [if_pos (.inl h2), if_pos (.inl h2)]
       · rw [if_neg (by omega), if_neg (by omega)]
      have e2 : Bo (sn n g i i) = Bo (sn n g i 0) := by
       apply Bo_congr
       intro x _
       unfold sn
       rw [decide_eq_decide]
       constructor
       · rintro ⟨h3, h4⟩
         have := (hg x h3).1
         exact ⟨h3, by omega⟩
       · rintro ⟨h3, h4⟩
         exact ⟨h3, by omega⟩
      rw [e1, e2] at h14
      exact h14
    · have e1 : A8 n (lab g i 0) = A8 n (lab g (i + 1) 0) := by
       apply A8_congr
       intro x hx
       have hx2 := (hg x hx).2
       unfold lab
       by_cases h2 : g x < i
       · rw [if_pos (.inl h2), if_pos (.inl (by omega))]
       · have : g x ≠ i := fun h3 => by rw [h3] at hx2; exact h hx2
         rw [if_neg (by omega), if_neg (by omega)]
      have e2 : Bo (sn n g i 0) = Bo (sn n g (i + 1) 0) := by
       apply Bo_congr
       intro x _
       unfold sn
       rw [decide_eq_decide]
       constructor
       · rintro ⟨h3, h4⟩
         exact ⟨h3, by omega⟩
       · rintro ⟨h3, h4⟩
         have hx2 := (hg x h3).2
         have : g x ≠ i := fun h5 => by rw [h5] at hx2; exact h hx2
         exact ⟨h3, by omega⟩
      rw [e1, e2]
      apply least_stop _ _ _ _ _ _ i (by omega)
      unfold sn
      apply decide_eq_true
      omega
   simp only [bs_l07Least_11, decide_eq_true h1, cond_true, hin, Option.bind_some, getTV_here, getTV_next, w, ih]
structure Li (n i : Nat) (l : Nat → Nat) (S : Nat → Bool) : Prop where
 c : ∀ x, x < n → S x = true → l x ≤ x ∧ S (l x) = true ∧ l (l x) = l x
 b : ∀ x, x < i → S x = true
theorem ex_14 (n : Nat) (hn : n ≤ 8) (f : Nat → Nat) (hf : ∀ x, x < n → f x < n) (x1 : List Int) (i : Nat) (hi : i < n) : ∀ (m q : Nat) (l : Nat → Nat) (S : Nat → Bool), q < n → (List.range n).countP (fun x => !S x) ≤ m → Li n i l S → (q = i ∨ (l i = i ∧ S i = true)) →
  ∃ (l' : Nat → Nat) (S' : Nat → Bool), R is_l07Least_14 [tA8 (A8 n f), tAi8 x1, tAi8 (A8 n l), tAB8 (Bo S), tI (n : Int), tI (i : Int), tI (q : Int)] =
   some [tI 0, tA8 (A8 n f), tAi8 x1, tAi8 (A8 n l'), tAB8 (Bo S'), tI (n : Int), tI (i : Int)] ∧ Li n (i + 1) l' S' := by
 intro m
 induction m with
 | zero =>
  intro q l S hq hc L hor
  by_cases hS : S q = true
  · refine ⟨l, S, least_stop _ _ _ _ _ _ q (by omega) hS, L.c, fun x hx => ?_⟩
    by_cases h : x = i
    · subst h
      rcases hor with h | h
      · rw [← h]; exact hS
      · exact h.2
    · exact L.b x (by omega)
  · have := List.countP_pos_iff (p := fun x => !S x) (l := List.range n) |>.2 ⟨q, List.mem_range.2 hq, by simp [hS]⟩
    omega
 | succ m ih =>
  intro q l S hq hc L hor
  by_cases hS : S q = true
  · refine ⟨l, S, least_stop _ _ _ _ _ _ q (by omega) hS, L.c, fun x hx => ?_⟩
    by_cases h : x = i
    · subst h
      rcases hor with h | h
      · rw [← h]; exact hS
      · exact h.2
    · exact L.b x (by omega)
  · have hS' : S q = false := by simpa using hS
    have hqi : i ≤ q := by
     apply Classical.byContradiction
     intro h
     exact hS (L.b q (by omega))
    have hl1 : (fun x => if x = q then i else l x) i = i := by
     show (if i = q then i else l i) = i
     rcases hor with h | h
     · rw [if_pos h.symm]
     · split
       · rfl
       · exact h.1
    have hs1 : (fun x => if x = q then true else S x) i = true := by
     show (if i = q then true else S i) = true
     rcases hor with h | h
     · rw [if_pos h.symm]
     · split
       · rfl
       · exact h.2
    have L1 : Li n i (fun x => if x = q then i else l x) (fun x => if x = q then true else S x) := by
     refine ⟨fun x hx hSx => ?_, fun x hx => ?_⟩
     · by_cases h : x = q
       · subst h
         simp only [if_true]
         exact ⟨hqi, hs1, hl1⟩
       · simp only [if_neg h] at hSx ⊢
         obtain ⟨q1, q2, q3⟩ := L.c x hx hSx
         have hne : ¬ l x = q := fun h' => by rw [h'] at q2; exact hS q2
         simp only [if_neg hne]
         exact ⟨q1, q2, q3⟩
     · show (if x = q then true else S x) = true
       split
       · rfl
       · exact L.b x hx
    have hc' : (List.range n).countP (fun x => !(fun x => if x = q then true else S x) x) ≤ m := by
     have := Pm.countP_lt (p := fun x => !(fun x => if x = q then true else S x) x) (q := fun x => !S x) (l := List.range n) (x := q) (fun y _ hy => by
      by_cases h : y = q
      · simp [h] at hy
      · simpa [h] using hy) (List.mem_range.2 hq) (by simp) (by simp [hS'])
     omega
    obtain ⟨l', S', r1, r2⟩ := ih (f q) _ _ (hf q hq) hc' L1 (.inr ⟨hl1, hs1⟩)
    exact ⟨l', S', least_go n hn f l x1 S i q hi hq (hf q hq) hS' r1, r2⟩
theorem ex_11 (n : Nat) (hn : n ≤ 8) (f : Nat → Nat) (hf : ∀ x, x < n → f x < n) (x1 : List Int) : ∀ i, i ≤ n → ∀ (l : Nat → Nat) (S : Nat → Bool), Li n i l S →
  ∃ l' : Nat → Nat, R is_l07Least_11 [tA8 (A8 n f), tAi8 x1, tAi8 (A8 n l), tAB8 (Bo S), tI (n : Int), tI (i : Int)] = some [tI 0, tAi8 x1, tAi8 (A8 n l')] ∧ Can n l' := by
 refine up_loop _ (fun l S L => ?_) (fun i hi ih l S L => ?_)
 · refine ⟨l, ?_, fun x hx => ⟨(L.c x hx (L.b x hx)).1, (L.c x hx (L.b x hx)).2.2⟩⟩
   apply vs_l07Least_11
   have h1 : ¬ ((n : Int) < (n : Int)) := by omega
   simp only [bs_l07Least_11, decide_eq_false h1, cond_false]
 · obtain ⟨l1, S1, r1, r2⟩ := ex_14 n hn f hf x1 i hi _ i l S hi (Nat.le_refl _) L (.inl rfl)
   obtain ⟨l', r3, r4⟩ := ih l1 S1 r2
   refine ⟨l', ?_, r4⟩
   apply vs_l07Least_11
   have h1 : ((i : Int) < (n : Int)) := by omega
   have w : wi64 ((i : Int) + 1) = ((i + 1 : Nat) : Int) := by rw [wrap_i64] <;> omega
   simp only [bs_l07Least_11, decide_eq_true h1, cond_true, r1, Option.bind_some, getTV_here, getTV_next, w, r3]
theorem c_l07Least (n : Nat) (hn : n ≤ 8) (g : Nat → Nat) (hg : Can n g) : R is_l07Least [tA8 (A8 n (mdf n g)), tI (n : Int)] = some [tAi8 (A8 n g), tB true] := by
 obtain ⟨s, hs, _⟩ := mdf_pm hg
 have ha : B8 (A8 n (mdf n g)) := by rw [hs]; exact sA_B8 hn s
 have h3 := c_l07Least_3 n hn _ ha (List.replicate 8 0) (List.replicate 8 0) 8 (List.replicate 8 false) (Nat.le_refl _) (by simp)
 rw [if_pos ((chk_sA hn ha).2 ⟨s, hs⟩)] at h3
 have h11 := c_l07Least_11 n hn g hg (List.replicate 8 0) 0 (Nat.zero_le _)
 have e1 : A8 n (lab g 0 0) = List.replicate 8 0 := by
  rw [A8_zero n]
  apply A8_congr
  intro x _
  unfold lab
  rw [if_neg (by omega)]
 have e2 : Bo (sn n g 0 0) = List.replicate 8 false := by
  rw [Bo_false]
  apply Bo_congr
  intro x _
  unfold sn
  exact decide_eq_false (by omega)
 rw [e1, e2] at h11
 simp only [Nat.sub_self, Int.natCast_zero] at h3 h11
 apply vs_l07Least
 have c0 : ((0 : Int) == 0) = true := rfl
 simp only [bs_l07Least, h3, Option.bind_some, getTV_here, getTV_next, c0, cond_true, h11]
theorem ex_l07Least (n : Nat) (hn : n ≤ 8) (a : List Int) (ha : B8 a) : (∃ x : List Int, R is_l07Least [tA8 a, tI (n : Int)] = some [tAi8 x, tB false] ∧ ¬ ∃ s : Pm n, a = sA s) ∨ (∃ l : Nat → Nat, Can n l ∧ R is_l07Least [tA8 a, tI (n : Int)] = some [tAi8 (A8 n l), tB true]) := by
 have h3 := c_l07Least_3 n hn _ ha (List.replicate 8 0) (List.replicate 8 0) 8 (List.replicate 8 false) (Nat.le_refl _) (by simp)
 simp only [Nat.sub_self, Int.natCast_zero] at h3
 by_cases h : chk n a 8 (List.replicate 8 false) = true
 · right
   obtain ⟨s, rfl⟩ := (chk_sA hn ha).1 h
   rw [if_pos h] at h3
   obtain ⟨l, r1, r2⟩ := ex_11 n hn s.f (fun x hx => s.lt hx) (List.replicate 8 0) 0 (Nat.zero_le _) (fun _ => 0) (fun _ => false) ⟨fun x _ h => by simp at h, fun x h => by omega⟩
   rw [← A8_zero, ← Bo_false] at r1
   refine ⟨l, r2, ?_⟩
   apply vs_l07Least
   have c0 : ((0 : Int) == 0) = true := rfl
   have r1' : R is_l07Least_11 [tA8 (sA s), tAi8 (List.replicate 8 0), tAi8 (List.replicate 8 0), tAB8 (List.replicate 8 false), tI (n : Int), tI 0] = some [tI 0, tAi8 (List.replicate 8 0), tAi8 (A8 n l)] := r1
   simp only [bs_l07Least, h3, Option.bind_some, getTV_here, getTV_next, c0, cond_true, r1']
 · left
   rw [if_neg h] at h3
   refine ⟨List.replicate 8 0, ?_, fun hs => h ((chk_sA hn ha).2 hs)⟩
   apply vs_l07Least
   have c0 : ((1 : Int) == 0) = false := rfl
   simp only [bs_l07Least, h3, Option.bind_some, getTV_here, getTV_next, c0, cond_false]
theorem c_l07Made_7 (n : Nat) (hn : n ≤ 8) (g : Nat → Nat) (x1 : List Int) (i : Nat) (hi : i < n) : ∀ (c : Nat) (h : Nat → Nat), i + c < n → h i = nx g i (n - (i + c + 1)) (i + c + 1) →
  R is_l07Made_7 [tAi8 (A8 n g), tA8 x1, tA8 (A8 n h), tI (n : Int), tI (i : Int), tI ((i + c : Nat) : Int)] = some [tI 0, tAi8 (A8 n g), tA8 x1, tA8 (A8 n (fun x => if x = i then mdf n g i else h x)), tI (n : Int), tI (i : Int)] := by
 intro c
 induction c with
 | zero =>
  intro h _ hh
  apply vs_l07Made_7
  have h1 : ¬ ((i : Int) < ((i + 0 : Nat) : Int)) := by omega
  have e : A8 n h = A8 n (fun x => if x = i then mdf n g i else h x) := by
   apply A8_congr
   intro x _
   by_cases hx : x = i
   · rw [if_pos hx, hx, hh]; rfl
   · rw [if_neg hx]
  simp only [bs_l07Made_7, decide_eq_false h1, cond_false, e]
 | succ c ih =>
  intro h hc hh
  apply vs_l07Made_7
  have h1 : ((i : Int) < ((i + (c + 1) : Nat) : Int)) := by omega
  have u1 : (((i + (c + 1) : Nat) : Int) < 8) := by omega
  have u2 : ((0 : Int) ≤ ((i + (c + 1) : Nat) : Int)) := by omega
  have u3 : ((i : Int) < 8) := by omega
  have u4 : ((0 : Int) ≤ (i : Int)) := by omega
  have w : wi64 (((i + (c + 1) : Nat) : Int) - 1) = ((i + c : Nat) : Int) := by rw [wrap_i64] <;> omega
  have w8 : wu8 ((i + (c + 1) : Nat) : Int) = ((i + (c + 1) : Nat) : Int) := by rw [wrap_u8] <;> omega
  have en : nx g i (n - (i + c + 1)) (i + c + 1) = if g (i + (c + 1)) = g i then i + (c + 1) else nx g i (n - (i + (c + 1) + 1)) (i + (c + 1) + 1) := by
   rw [show n - (i + c + 1) = (n - (i + (c + 1) + 1)) + 1 by omega, nx]
   rfl
  simp only [bs_l07Made_7, decide_eq_true h1, decide_eq_true u1, decide_eq_true u2, decide_eq_true u3, decide_eq_true u4, cond_true, Bool.and_true, Int.toNat_natCast, A8_get hc hn, A8_get hi hn, beq_nn, w, w8, A8_set hi hn]
  by_cases hg : g (i + (c + 1)) = g i
  · rw [if_pos hg] at en
    have ih' := ih (fun x => if x = i then i + (c + 1) else h x) (by omega) (by simp only [if_true]; exact en.symm)
    have e : A8 n (fun x => if x = i then mdf n g i else if x = i then i + (c + 1) else h x) = A8 n (fun x => if x = i then mdf n g i else h x) := by
     apply A8_congr
     intro x _
     by_cases hx : x = i
     · rw [if_pos hx, if_pos hx]
     · rw [if_neg hx, if_neg hx, if_neg hx]
    rw [e] at ih'
    rw [decide_eq_true hg, cond_true, ih']
  · rw [if_neg hg] at en
    rw [decide_eq_false hg, cond_false, ih h (by omega) (by rw [hh, en])]
theorem c_l07Made_3 (n : Nat) (hn : n ≤ 8) (g : Nat → Nat) (hg : Can n g) (x1 : List Int) : ∀ i, i ≤ n →
  R is_l07Made_3 [tAi8 (A8 n g), tA8 x1, tA8 (A8 n (fun x => if x < i then mdf n g x else 0)), tI (n : Int), tI (i : Int)] = some [tI 0, tA8 x1, tA8 (A8 n (mdf n g))] := by
 refine up_loop _ ?_ (fun i hi ih => ?_)
 · apply vs_l07Made_3
   have h1 : ¬ ((n : Int) < (n : Int)) := by omega
   have e : A8 n (fun x => if x < n then mdf n g x else 0) = A8 n (mdf n g) := A8_congr (fun x hx => if_pos hx)
   simp only [bs_l07Made_3, decide_eq_false h1, cond_false, e]
 · apply vs_l07Made_3
   have h1 : ((i : Int) < (n : Int)) := by omega
   have u3 : ((i : Int) < 8) := by omega
   have u4 : ((0 : Int) ≤ (i : Int)) := by omega
   have gi := (hg i hi).1
   have w : wi64 ((n : Int) - 1) = ((i + (n - 1 - i) : Nat) : Int) := by rw [wrap_i64] <;> omega
   have w1 : wi64 ((i : Int) + 1) = ((i + 1 : Nat) : Int) := by rw [wrap_i64] <;> omega
   have w8 : wu8 ((g i : Nat) : Int) = ((g i : Nat) : Int) := by rw [wrap_u8] <;> omega
   have h7 := c_l07Made_7 n hn g x1 i hi (n - 1 - i) (fun x => if x = i then g i else if x < i then mdf n g x else 0) (by omega) (by
    simp only [if_true]
    rw [show n - (i + (n - 1 - i) + 1) = 0 by omega]
    rfl)
   have e : A8 n (fun x => if x = i then mdf n g i else if x = i then g i else if x < i then mdf n g x else 0) = A8 n (fun x => if x < i + 1 then mdf n g x else 0) := by
    apply A8_congr
    intro x _
    by_cases hx : x = i
    · rw [if_pos hx, if_pos (by omega), hx]
    · rw [if_neg hx, if_neg hx]
      by_cases hx' : x < i
      · rw [if_pos hx', if_pos (by omega)]
      · rw [if_neg hx', if_neg (by omega)]
   rw [e] at h7
   simp only [bs_l07Made_3, decide_eq_true h1, decide_eq_true u3, decide_eq_true u4, cond_true, Bool.and_true, Int.toNat_natCast, A8_get hi hn, w8, A8_set hi hn, w, h7, Option.bind_some, getTV_here, getTV_next, w1, ih]
theorem c_l07Made (n : Nat) (hn : n ≤ 8) (g : Nat → Nat) (hg : Can n g) : R is_l07Made [tAi8 (A8 n g), tI (n : Int)] = some [tA8 (A8 n (mdf n g))] := by
 apply vs_l07Made
 have h3 := c_l07Made_3 n hn g hg (List.replicate 8 0) 0 (Nat.zero_le _)
 have e : A8 n (fun x => if x < 0 then mdf n g x else 0) = List.replicate 8 0 := by
  rw [A8_zero n]
  apply A8_congr
  intro x _
  rw [if_neg (by omega)]
 rw [e] at h3
 simp only [Int.natCast_zero] at h3
 simp only [bs_l07Made, h3, Option.bind_some, getTV_here, getTV_next]
theorem c_l07Crossing_11 (n : Nat) (hn : n ≤ 8) (g : Nat → Nat) (a b c : Nat) (ha : a < n) (hb : b < n) (hc : c < n) : ∀ (d x : Nat), x + d = n →
  R is_l07Crossing_11 [tAi8 (A8 n g), tI (n : Int), tI (a : Int), tI (b : Int), tI (c : Int), tI (x : Int)] = some (if c5 g a b c d x then [tI 1, tB true] else [tI 0, tAi8 (A8 n g), tI (n : Int), tI (a : Int), tI (b : Int), tI (c : Int)]) := by
 intro d
 induction d with
 | zero =>
  intro x hx
  apply vs_l07Crossing_11
  have h1 : ¬ ((x : Int) < (n : Int)) := by omega
  simp only [bs_l07Crossing_11, decide_eq_false h1, cond_false, c5]
  rfl
 | succ d ih =>
  intro x hx
  apply vs_l07Crossing_11
  have hxn : x < n := by omega
  have h1 : ((x : Int) < (n : Int)) := by omega
  have w : wi64 ((x : Int) + 1) = ((x + 1 : Nat) : Int) := by rw [wrap_i64] <;> omega
  simp (disch := omega) only [bs_l07Crossing_11, decide_eq_true, cond_true, Bool.and_true, Int.toNat_natCast, A8_get ha hn, A8_get hb hn, A8_get hc hn, A8_get hxn hn, beq_nn, bne_nn, w, ih (x + 1) (by omega), c5]
  by_cases e1 : g a = g c
  · by_cases e2 : g b = g x
    · by_cases e3 : g a = g b
      · simp only [decide_eq_true e1, decide_eq_true e2, decide_eq_true e3, cond_true, cond_false, Bool.not_true, Bool.and_false, Bool.false_or]
      · simp only [decide_eq_true e1, decide_eq_true e2, decide_eq_false e3, cond_true, cond_false, Bool.not_false, Bool.and_true, Bool.true_or, if_true]
    · simp only [decide_eq_true e1, decide_eq_false e2, cond_true, cond_false, Bool.and_false, Bool.false_and, Bool.false_or]
  · simp only [decide_eq_false e1, cond_false, Bool.false_and, Bool.false_or]
theorem c_l07Crossing_8 (n : Nat) (hn : n ≤ 8) (g : Nat → Nat) (a b : Nat) (ha : a < n) (hb : b < n) : ∀ (d x : Nat), x + d = n →
  R is_l07Crossing_8 [tAi8 (A8 n g), tI (n : Int), tI (a : Int), tI (b : Int), tI (x : Int)] = some (if c4 n g a b d x then [tI 1, tB true] else [tI 0, tAi8 (A8 n g), tI (n : Int), tI (a : Int), tI (b : Int)]) := by
 intro d
 induction d with
 | zero =>
  intro x hx
  apply vs_l07Crossing_8
  have h1 : ¬ ((x : Int) < (n : Int)) := by omega
  simp only [bs_l07Crossing_8, decide_eq_false h1, cond_false, c4]
  rfl
 | succ d ih =>
  intro x hx
  apply vs_l07Crossing_8
  have hxn : x < n := by omega
  have h1 : ((x : Int) < (n : Int)) := by omega
  have w : wi64 ((x : Int) + 1) = ((x + 1 : Nat) : Int) := by rw [wrap_i64] <;> omega
  have h5 := c_l07Crossing_11 n hn g a b x ha hb hxn (n - (x + 1)) (x + 1) (by omega)
  simp only [bs_l07Crossing_8, decide_eq_true h1, cond_true, w, h5, c4]
  by_cases hb5 : c5 g a b x (n - (x + 1)) (x + 1) = true
  · simp only [hb5, if_true, Bool.true_or]
    rfl
  · have hb6 : c5 g a b x (n - (x + 1)) (x + 1) = false := by simpa using hb5
    have c0 : ((0 : Int) == 0) = true := rfl
    simp only [hb6, Bool.false_eq_true, if_false, Option.bind_some, getTV_here, getTV_next, c0, cond_true, w, ih (x + 1) (by omega), Bool.false_or]
theorem c_l07Crossing_5 (n : Nat) (hn : n ≤ 8) (g : Nat → Nat) (a : Nat) (ha : a < n) : ∀ (d x : Nat), x + d = n →
  R is_l07Crossing_5 [tAi8 (A8 n g), tI (n : Int), tI (a : Int), tI (x : Int)] = some (if c3 n g a d x then [tI 1, tB true] else [tI 0, tAi8 (A8 n g), tI (n : Int), tI (a : Int)]) := by
 intro d
 induction d with
 | zero =>
  intro x hx
  apply vs_l07Crossing_5
  have h1 : ¬ ((x : Int) < (n : Int)) := by omega
  simp only [bs_l07Crossing_5, decide_eq_false h1, cond_false, c3]
  rfl
 | succ d ih =>
  intro x hx
  apply vs_l07Crossing_5
  have hxn : x < n := by omega
  have h1 : ((x : Int) < (n : Int)) := by omega
  have w : wi64 ((x : Int) + 1) = ((x + 1 : Nat) : Int) := by rw [wrap_i64] <;> omega
  have h5 := c_l07Crossing_8 n hn g a x ha hxn (n - (x + 1)) (x + 1) (by omega)
  simp only [bs_l07Crossing_5, decide_eq_true h1, cond_true, w, h5, c3]
  by_cases hb5 : c4 n g a x (n - (x + 1)) (x + 1) = true
  · simp only [hb5, if_true, Bool.true_or]
    rfl
  · have hb6 : c4 n g a x (n - (x + 1)) (x + 1) = false := by simpa using hb5
    have c0 : ((0 : Int) == 0) = true := rfl
    simp only [hb6, Bool.false_eq_true, if_false, Option.bind_some, getTV_here, getTV_next, c0, cond_true, w, ih (x + 1) (by omega), Bool.false_or]
theorem c_l07Crossing_2 (n : Nat) (hn : n ≤ 8) (g : Nat → Nat) : ∀ (d x : Nat), x + d = n →
  R is_l07Crossing_2 [tAi8 (A8 n g), tI (n : Int), tI (x : Int)] = some (if c2 n g d x then [tI 1, tB true] else [tI 0]) := by
 intro d
 induction d with
 | zero =>
  intro x hx
  apply vs_l07Crossing_2
  have h1 : ¬ ((x : Int) < (n : Int)) := by omega
  simp only [bs_l07Crossing_2, decide_eq_false h1, cond_false, c2]
  rfl
 | succ d ih =>
  intro x hx
  apply vs_l07Crossing_2
  have hxn : x < n := by omega
  have h1 : ((x : Int) < (n : Int)) := by omega
  have w : wi64 ((x : Int) + 1) = ((x + 1 : Nat) : Int) := by rw [wrap_i64] <;> omega
  have h5 := c_l07Crossing_5 n hn g x hxn (n - (x + 1)) (x + 1) (by omega)
  simp only [bs_l07Crossing_2, decide_eq_true h1, cond_true, w, h5, c2]
  by_cases hb5 : c3 n g x (n - (x + 1)) (x + 1) = true
  · simp only [hb5, if_true, Bool.true_or]
    rfl
  · have hb6 : c3 n g x (n - (x + 1)) (x + 1) = false := by simpa using hb5
    have c0 : ((0 : Int) == 0) = true := rfl
    simp only [hb6, Bool.false_eq_true, if_false, Option.bind_some, getTV_here, getTV_next, c0, cond_true, w, ih (x + 1) (by omega), Bool.false_or]
theorem c_l07Crossing (n : Nat) (hn : n ≤ 8) (g : Nat → Nat) : R is_l07Crossing [tAi8 (A8 n g), tI (n : Int)] = some [tB (crs n g)] := by
 apply vs_l07Crossing
 have h2 := c_l07Crossing_2 n hn g n 0 (by omega)
 simp only [Int.natCast_zero] at h2
 simp only [bs_l07Crossing, h2, Option.bind_some, crs]
 cases c2 n g n 0 <;> rfl
def IsP (n : Nat) (a : List Int) : Prop := ∃ g, Can n g ∧ crs n g = false ∧ a = A8 n (mdf n g)
open Classical in
noncomputable def isPt (a : List Int) (k : Int) : Bool := decide (1 ≤ k ∧ k ≤ 8 ∧ IsP k.toNat a)
theorem tAi8_inj {x y : List Int} (h : tAi8 x = tAi8 y) : x = y := by
 have := congrArg (fun t => gAi8 [t] 0) h
 simpa using this
theorem decp_t {p : Prop} {i : Decidable p} (h : p) : @decide p i = true := decide_eq_true h
theorem decp_f {p : Prop} {i : Decidable p} (h : ¬ p) : @decide p i = false := decide_eq_false h
theorem beq_ll (a b : List Int) : (a == b) = decide (a = b) := by rw [Bool.eq_iff_iff]; simp
theorem c_l07Is (a : List Int) (ha : B8 a) (k : Int) : R is_l07Is [tA8 a, tI k] = some [tB (isPt a k)] := by
 apply vs_l07Is
 simp only [bs_l07Is, c_l01In, Option.bind_some, getTV_here, isPt]
 by_cases h1 : 1 ≤ k ∧ k ≤ 8
 · have x1 := h1.1
   have x2 := h1.2
   obtain ⟨n, rfl⟩ : ∃ n : Nat, k = n := ⟨k.toNat, by omega⟩
   simp only [decide_eq_true x1, decide_eq_true x2, Bool.and_true, Bool.not_true, cond_false]
   have hn : n ≤ 8 := by omega
   rcases ex_l07Least n hn a ha with ⟨x, r1, r2⟩ | ⟨l, r1, r2⟩
   · have hP : ¬ (1 ≤ (n : Int) ∧ (n : Int) ≤ 8 ∧ IsP (n : Int).toNat a) := by
      rintro ⟨_, _, g, hg, _, rfl⟩
      obtain ⟨s, hs, _⟩ := mdf_pm hg
      exact r2 ⟨s, hs⟩
     simp only [r1, Option.bind_some, getTV_here, getTV_next, cond_false, decp_f hP]
   · simp only [r2, Option.bind_some, getTV_here, getTV_next, cond_true, c_l07Made n hn l r1, beq_ll]
     by_cases he : A8 n (mdf n l) = a
     · simp only [decide_eq_true he, cond_true, c_l07Crossing n hn l, Option.bind_some, getTV_here]
       by_cases hc : crs n l = false
       · have hP : (1 ≤ (n : Int) ∧ (n : Int) ≤ 8 ∧ IsP (n : Int).toNat a) := ⟨x1, x2, l, r1, hc, he.symm⟩
         rw [decp_t hP, hc]
         rfl
       · have hP : ¬ (1 ≤ (n : Int) ∧ (n : Int) ≤ 8 ∧ IsP (n : Int).toNat a) := by
          rintro ⟨_, _, g, hg, hc', ha'⟩
          rw [Int.toNat_natCast] at hg hc' ha'
          subst ha'
          have h2 := c_l07Least n hn g hg
          rw [h2] at r2
          simp only [Option.some.injEq, List.cons.injEq, and_true] at r2
          have e3 := tAi8_inj r2
          exact hc (by rw [← crs_congr (A8_inj hn e3)]; exact hc')
         have hc1 : crs n l = true := by simpa using hc
         rw [decp_f hP, hc1]
         rfl
     · have hP : ¬ (1 ≤ (n : Int) ∧ (n : Int) ≤ 8 ∧ IsP (n : Int).toNat a) := by
        rintro ⟨_, _, g, hg, hc', ha'⟩
        rw [Int.toNat_natCast] at hg hc' ha'
        subst ha'
        have h2 := c_l07Least n hn g hg
        rw [h2] at r2
        simp only [Option.some.injEq, List.cons.injEq, and_true] at r2
        have e3 := tAi8_inj r2
        exact he (A8_congr (fun x hx => (mdf_congr (A8_inj hn e3) hx).symm))
       simp only [decide_eq_false he, cond_false, decp_f hP]
 · have hd : (decide (1 ≤ k) && decide (k ≤ 8)) = false := by
    rw [← Bool.decide_and]
    exact decide_eq_false h1
   have hP : ¬ (1 ≤ k ∧ k ≤ 8 ∧ IsP k.toNat a) := fun h => h1 ⟨h.1, h.2.1⟩
   simp only [hd, Bool.not_false, cond_true, decp_f hP]
end Go.Ev.Yteclcmiopobnaaa.P
namespace Go.Ev.Yteclcmiopobnaaa.P
open Go.Ev.Yteclcmiopobnaaa
open Go.Ev Go.Gar
theorem Gl_snoc (n : Nat) (g : Nat → Nat) : Gl n g ++ [((g n : Nat) : Int)] = Gl (n + 1) g := by
 unfold Gl
 rw [List.range_succ, List.map_append]
 rfl
theorem Gl_zero (g : Nat → Nat) : Gl 0 g = [] := rfl
theorem c_strandsOf_3 (n : Nat) (hn : n ≤ 8) : ∀ i, i ≤ n → R ii_strandsOf_3 [tLI (Gl i id), tI (n : Int), tI (i : Int)] = some [tI 0, tLI (Gl n id)] := by
 refine up_loop _ ?_ (fun i hi ih => ?_)
 · apply vi_strandsOf_3
   have h1 : ¬ ((n : Int) < (n : Int)) := by omega
   simp only [bi_strandsOf_3, decide_eq_false h1, cond_false]
 · apply vi_strandsOf_3
   have h1 : ((i : Int) < (n : Int)) := by omega
   have w : wi64 ((i : Int) + 1) = ((i + 1 : Nat) : Int) := by rw [wrap_i64] <;> omega
   have ap : apOk (Gl i id) [(i : Int)] = true := apOk1 (by rw [Gl_len]; omega)
   have e : Gl i id ++ [(i : Int)] = Gl (i + 1) id := Gl_snoc i id
   simp only [bi_strandsOf_3, decide_eq_true h1, cond_true, ap, w, e, ih]
theorem c_fineGroups (n : Nat) (hn : n ≤ 8) : R ii_fineGroups [tI (n : Int)] = some [tLI (Gl n id)] := by
 have h3 := c_strandsOf_3 n hn 0 (Nat.zero_le _)
 rw [Gl_zero] at h3
 simp only [Int.natCast_zero] at h3
 have h2 : R ii_strandsOf [tI (n : Int)] = some [tLI (Gl n id)] := by
  apply vi_strandsOf
  simp only [bi_strandsOf, h3, Option.bind_some, getTV_here, getTV_next]
 apply vi_fineGroups
 simp only [bi_fineGroups, h2, Option.bind_some, getTV_here]
theorem c_merge_2 (n : Nat) (hn : n ≤ 8) (G : Nat → Nat) (lo hi : Nat) : ∀ k, k ≤ n → R i_i_groups__merge_2 [tLI (Gl n (fun x => if x < k ∧ G x = hi then lo else G x)), tI (lo : Int), tI (hi : Int), tI (n : Int), tI (k : Int)] = some [tI 0, tLI (Gl n (fun x => if G x = hi then lo else G x))] := by
 refine up_loop _ ?_ (fun k hk ih => ?_)
 · apply v_i_groups__merge_2
   have h1 : ¬ ((n : Int) < (n : Int)) := by omega
   have e : Gl n (fun x => if x < n ∧ G x = hi then lo else G x) = Gl n (fun x => if G x = hi then lo else G x) := by
    apply Gl_congr
    intro x hx
    by_cases h : G x = hi
    · rw [if_pos ⟨hx, h⟩, if_pos h]
    · rw [if_neg (fun h' => h h'.2), if_neg h]
   simp only [b_i_groups__merge_2, decide_eq_false h1, cond_false, e]
 · apply v_i_groups__merge_2
   have h1 : ((k : Int) < (n : Int)) := by omega
   have u2 : ((0 : Int) ≤ (k : Int)) := by omega
   have w : wi64 ((k : Int) + 1) = ((k + 1 : Nat) : Int) := by rw [wrap_i64] <;> omega
   have hk0 : (if k < k ∧ G k = hi then lo else G k) = G k := if_neg (by omega)
   simp only [b_i_groups__merge_2, decide_eq_true h1, decide_eq_true u2, cond_true, Bool.and_true, Int.toNat_natCast, Gl_len, Gl_get hk, hk0, beq_nn, w, Gl_set hk]
   by_cases h : G k = hi
   · have e : Gl n (fun x => if x = k then lo else if x < k ∧ G x = hi then lo else G x) = Gl n (fun x => if x < k + 1 ∧ G x = hi then lo else G x) := by
      apply Gl_congr
      intro x _
      by_cases hx : x = k
      · rw [if_pos hx, if_pos ⟨by omega, by rw [hx]; exact h⟩]
      · rw [if_neg hx]
        by_cases hx' : x < k ∧ G x = hi
        · rw [if_pos hx', if_pos ⟨by omega, hx'.2⟩]
        · rw [if_neg hx', if_neg (fun h' => hx' ⟨by omega, h'.2⟩)]
     rw [decide_eq_true h, cond_true, e, ih]
   · have e : Gl n (fun x => if x < k ∧ G x = hi then lo else G x) = Gl n (fun x => if x < k + 1 ∧ G x = hi then lo else G x) := by
      apply Gl_congr
      intro x _
      by_cases hx' : x < k ∧ G x = hi
      · rw [if_pos hx', if_pos ⟨by omega, hx'.2⟩]
      · rw [if_neg hx']
        rw [if_neg]
        rintro ⟨h1, h2⟩
        by_cases hx : x = k
        · exact h (by rw [← hx]; exact h2)
        · exact hx' ⟨by omega, h2⟩
     rw [decide_eq_false h, cond_false, e, ih]
theorem c_merge (n : Nat) (hn : n ≤ 8) (G : Nat → Nat) (i j : Nat) (hi : i < n) (hj : j < n) : R i_i_groups__merge [tLI (Gl n G), tI (i : Int), tI (j : Int)] = some [tLI (Gl n (mrg G i j))] := by
 apply v_i_groups__merge
 have u1 : ((i : Int) < (n : Int)) := by omega
 have u2 : ((0 : Int) ≤ (i : Int)) := by omega
 have u3 : ((j : Int) < (n : Int)) := by omega
 have u4 : ((0 : Int) ≤ (j : Int)) := by omega
 have m1 : mn ((G i : Nat) : Int) ((G j : Nat) : Int) = ((min (G i) (G j) : Nat) : Int) := by unfold mn; split <;> omega
 have m2 : mx ((G i : Nat) : Int) ((G j : Nat) : Int) = ((max (G i) (G j) : Nat) : Int) := by unfold mx; split <;> omega
 have h2 := c_merge_2 n hn G (min (G i) (G j)) (max (G i) (G j)) 0 (Nat.zero_le _)
 have e : Gl n (fun x => if x < 0 ∧ G x = max (G i) (G j) then min (G i) (G j) else G x) = Gl n G := by
  apply Gl_congr
  intro x _
  rw [if_neg (by omega)]
 rw [e] at h2
 simp only [Int.natCast_zero] at h2
 simp only [b_i_groups__merge, Gl_len, decide_eq_true u1, decide_eq_true u2, decide_eq_true u3, decide_eq_true u4, Bool.and_true, cond_true, Int.toNat_natCast, Gl_get hi, Gl_get hj, m1, m2, h2, Option.bind_some, getTV_here, getTV_next]
 rfl
theorem c_groupsOf_3 (n : Nat) (hn : n ≤ 8) (g : Nat → Nat) (hg : Can n g) : ∀ i, i ≤ n → R ii_groupsOf_3 [tA8 (A8 n (mdf n g)), tLI (Gl n (mg g i)), tI (n : Int), tI (n : Int), tI (i : Int)] = some [tI 0, tA8 (A8 n (mdf n g)), tLI (Gl n g)] := by
 refine up_loop _ ?_ (fun i hi ih => ?_)
 · apply vi_groupsOf_3
   have h1 : ¬ ((n : Int) < (n : Int)) := by omega
   have e : Gl n (mg g n) = Gl n g := Gl_congr (fun x hx => mg_last g hx)
   simp only [bi_groupsOf_3, decide_eq_false h1, cond_false, e]
 · apply vi_groupsOf_3
   have h1 : ((i : Int) < (n : Int)) := by omega
   have u1 : ((i : Int) < 8) := by omega
   have u2 : ((0 : Int) ≤ (i : Int)) := by omega
   have w : wi64 ((i : Int) + 1) = ((i + 1 : Nat) : Int) := by rw [wrap_i64] <;> omega
   have hl := mdf_lt hg hi
   have w2 : wi64 ((mdf n g i : Nat) : Int) = ((mdf n g i : Nat) : Int) := by rw [wrap_i64] <;> omega
   have h2 : ¬ ((n : Int) ≤ ((mdf n g i : Nat) : Int)) := by omega
   have e : Gl n (mrg (mg g i) i (mdf n g i)) = Gl n (mg g (i + 1)) := Gl_congr (fun x hx => mg_step hg hi hx)
   simp only [bi_groupsOf_3, decide_eq_true h1, decide_eq_true u1, decide_eq_true u2, cond_true, Bool.and_true, Int.toNat_natCast, A8_get hi hn, w2, decide_eq_false h2, cond_false, c_merge n hn (mg g i) i (mdf n g i) hi hl, Option.bind_some, getTV_here, e, w, ih]
theorem ex_groupsOf_3 (n : Nat) (hn : n ≤ 8) (a : List Int) (ha : B8 a) : ∀ i, i ≤ n → ∀ G : Nat → Nat, Can n G →
  R ii_groupsOf_3 [tA8 a, tLI (Gl n G), tI (n : Int), tI (n : Int), tI (i : Int)] = some [tI 1, tLI [], tB false] ∧ (∃ y, y < n ∧ (n : Int) ≤ List.getD a y 0) ∨
  ∃ G' : Nat → Nat, Can n G' ∧ R ii_groupsOf_3 [tA8 a, tLI (Gl n G), tI (n : Int), tI (n : Int), tI (i : Int)] = some [tI 0, tA8 a, tLI (Gl n G')] := by
 refine up_loop _ (fun G hG => ?_) (fun i hi ih G hG => ?_)
 · right
   refine ⟨G, hG, ?_⟩
   apply vi_groupsOf_3
   have h1 : ¬ ((n : Int) < (n : Int)) := by omega
   simp only [bi_groupsOf_3, decide_eq_false h1, cond_false]
 · have h1 : ((i : Int) < (n : Int)) := by omega
   have u1 : ((i : Int) < 8) := by omega
   have u2 : ((0 : Int) ≤ (i : Int)) := by omega
   have w : wi64 ((i : Int) + 1) = ((i + 1 : Nat) : Int) := by rw [wrap_i64] <;> omega
   have hb := (ha.at (show i < 8 by omega)).2
   have w2 : wi64 (List.getD a i 0) = List.getD a i 0 := by rw [wrap_i64] <;> omega
   by_cases h2 : (n : Int) ≤ List.getD a i 0
   · left
     refine ⟨?_, i, hi, h2⟩
     apply vi_groupsOf_3
     simp only [bi_groupsOf_3, decide_eq_true h1, decide_eq_true u1, decide_eq_true u2, cond_true, Bool.and_true, Int.toNat_natCast, w2, decide_eq_true h2]
   · obtain ⟨j, hj⟩ : ∃ j : Nat, List.getD a i 0 = (j : Int) := ⟨(List.getD a i 0).toNat, by omega⟩
     have hm := c_merge n hn G i j hi (by omega)
     have hstep : ∀ o : List TV, R ii_groupsOf_3 [tA8 a, tLI (Gl n (mrg G i j)), tI (n : Int), tI (n : Int), tI ((i + 1 : Nat) : Int)] = some o → R ii_groupsOf_3 [tA8 a, tLI (Gl n G), tI (n : Int), tI (n : Int), tI (i : Int)] = some o := by
      intro o ho
      apply vi_groupsOf_3
      simp only [bi_groupsOf_3, decide_eq_true h1, decide_eq_true u1, decide_eq_true u2, cond_true, Bool.and_true, Int.toNat_natCast, w2, decide_eq_false h2, cond_false]
      rw [hj]
      simp only [hm, Option.bind_some, getTV_here, w]
      exact ho
     rcases ih (mrg G i j) (mrg_can hG hi (by omega)) with ⟨r1, r2⟩ | ⟨G', r1, r2⟩
     · exact .inl ⟨hstep _ r1, r2⟩
     · exact .inr ⟨G', r1, hstep _ r2⟩
theorem c_part_7 (n : Nat) (hn : n ≤ 8) (g : Nat → Nat) (x1 : List Int) (i : Nat) (hi : i < n) (x6 x7 : Int) : ∀ (d j : Nat) (h : Nat → Nat), j + d = n → h i = g i →
  R i_i_groups__part_7 [tLI (Gl n g), tA8 x1, tA8 (A8 n h), tI (i : Int), tI ((g i : Nat) : Int), tI (j : Int), tI x6, tI x7] = some [tI 0, tLI (Gl n g), tA8 x1, tA8 (A8 n (fun x => if x = i then nx g i d j else h x)), tI x6, tI x7] := by
 intro d
 induction d with
 | zero =>
  intro j h hj hh
  apply v_i_groups__part_7
  have h1 : ¬ ((j : Int) < (n : Int)) := by omega
  have e : A8 n h = A8 n (fun x => if x = i then nx g i 0 j else h x) := by
   apply A8_congr
   intro x _
   by_cases hx : x = i
   · rw [if_pos hx, hx, hh]; rfl
   · rw [if_neg hx]
  rw [← e]
  simp only [b_i_groups__part_7, Gl_len, decide_eq_false h1, cond_false]
 | succ d ih =>
  intro j h hj hh
  apply v_i_groups__part_7
  have hjn : j < n := by omega
  have h1 : ((j : Int) < (n : Int)) := by omega
  have u2 : ((0 : Int) ≤ (j : Int)) := by omega
  have u3 : ((i : Int) < 8) := by omega
  have u4 : ((0 : Int) ≤ (i : Int)) := by omega
  have w : wi64 ((j : Int) + 1) = ((j + 1 : Nat) : Int) := by rw [wrap_i64] <;> omega
  have w8 : wu8 (j : Int) = (j : Int) := by rw [wrap_u8] <;> omega
  simp only [b_i_groups__part_7, Gl_len, decide_eq_true h1, decide_eq_true u2, decide_eq_true u3, decide_eq_true u4, cond_true, Bool.and_true, Int.toNat_natCast, Gl_get hjn, beq_nn, w, w8, A8_set hi hn, nx]
  by_cases hg : g j = g i
  · simp only [decide_eq_true hg, cond_true, if_pos hg]
  · simp only [decide_eq_false hg, cond_false, if_neg hg, ih (j + 1) h (by omega) hh]
theorem c_part_3 (n : Nat) (hn : n ≤ 8) (g : Nat → Nat) (hg : Can n g) (x1 : List Int) : ∀ i, i ≤ n →
  R i_i_groups__part_3 [tLI (Gl n g), tA8 x1, tA8 (A8 n (fun x => if x < i then mdf n g x else 0)), tI (n : Int), tI (i : Int)] = some [tI 0, tA8 x1, tA8 (A8 n (mdf n g))] := by
 refine up_loop _ ?_ (fun i hi ih => ?_)
 · apply v_i_groups__part_3
   have h1 : ¬ ((n : Int) < (n : Int)) := by omega
   have e : A8 n (fun x => if x < n then mdf n g x else 0) = A8 n (mdf n g) := A8_congr (fun x hx => if_pos hx)
   simp only [b_i_groups__part_3, decide_eq_false h1, cond_false, e]
 · apply v_i_groups__part_3
   have h1 : ((i : Int) < (n : Int)) := by omega
   have u3 : ((i : Int) < 8) := by omega
   have u4 : ((0 : Int) ≤ (i : Int)) := by omega
   have gi := (hg i hi).1
   have w1 : wi64 ((i : Int) + 1) = ((i + 1 : Nat) : Int) := by rw [wrap_i64] <;> omega
   have w8 : wu8 ((g i : Nat) : Int) = ((g i : Nat) : Int) := by rw [wrap_u8] <;> omega
   have h7 := c_part_7 n hn g x1 i hi (n : Int) (i : Int) (n - (i + 1)) (i + 1) (fun x => if x = i then g i else if x < i then mdf n g x else 0) (by omega) (by simp)
   have e : A8 n (fun x => if x = i then nx g i (n - (i + 1)) (i + 1) else if x = i then g i else if x < i then mdf n g x else 0) = A8 n (fun x => if x < i + 1 then mdf n g x else 0) := by
    apply A8_congr
    intro x _
    by_cases hx : x = i
    · rw [if_pos hx, if_pos (by omega), hx]; rfl
    · rw [if_neg hx, if_neg hx]
      by_cases hx' : x < i
      · rw [if_pos hx', if_pos (by omega)]
      · rw [if_neg hx', if_neg (by omega)]
   rw [e] at h7
   simp only [b_i_groups__part_3, Gl_len, decide_eq_true h1, decide_eq_true u3, decide_eq_true u4, cond_true, Bool.and_true, Int.toNat_natCast, Gl_get hi, w8, A8_set hi hn, w1, h7, Option.bind_some, getTV_here, getTV_next, ih]
theorem c_part (n : Nat) (hn : n ≤ 8) (g : Nat → Nat) (hg : Can n g) : R i_i_groups__part [tLI (Gl n g)] = some [tA8 (A8 n (mdf n g))] := by
 apply v_i_groups__part
 have h3 := c_part_3 n hn g hg (List.replicate 8 0) 0 (Nat.zero_le _)
 have e : A8 n (fun x => if x < 0 then mdf n g x else 0) = List.replicate 8 0 := by
  rw [A8_zero n]
  apply A8_congr
  intro x _
  rw [if_neg (by omega)]
 rw [e] at h3
 simp only [Int.natCast_zero] at h3
 simp only [b_i_groups__part, Gl_len, h3, Option.bind_some, getTV_here, getTV_next]
theorem c_groupsOf (n : Nat) (hn : n ≤ 8) (g : Nat → Nat) (hg : Can n g) : R ii_groupsOf [tA8 (A8 n (mdf n g)), tI (n : Int)] = some [tLI (Gl n g), tB true] := by
 have h3 := c_groupsOf_3 n hn g hg 0 (Nat.zero_le _)
 have e : Gl n (mg g 0) = Gl n id := Gl_congr (fun x hx => mg_zero hg hx)
 rw [e] at h3
 simp only [Int.natCast_zero] at h3
 apply vi_groupsOf
 have c0 : ((0 : Int) == 0) = true := rfl
 simp only [bi_groupsOf, c_fineGroups n hn, h3, Option.bind_some, getTV_here, getTV_next, c0, cond_true, c_part n hn g hg, beq_self_eq_true]
theorem ex_groupsOf (n : Nat) (hn : n ≤ 8) (a : List Int) (ha : B8 a) : (∃ x, R ii_groupsOf [tA8 a, tI (n : Int)] = some [tLI x, tB false] ∧ ¬ ∃ g, Can n g ∧ a = A8 n (mdf n g)) ∨ ∃ g, Can n g ∧ a = A8 n (mdf n g) := by
 by_cases hP : ∃ g, Can n g ∧ a = A8 n (mdf n g)
 · exact .inr hP
 · left
   have hid : Can n id := fun x _ => ⟨Nat.le_refl _, rfl⟩
   have c0 : ((0 : Int) == 0) = true := rfl
   have c1 : ((1 : Int) == 0) = false := rfl
   rcases ex_groupsOf_3 n hn a ha 0 (Nat.zero_le _) id hid with ⟨r1, _⟩ | ⟨G', r1, r2⟩
   · refine ⟨[], ?_, hP⟩
     simp only [Int.natCast_zero] at r1
     apply vi_groupsOf
     simp only [bi_groupsOf, c_fineGroups n hn, r1, Option.bind_some, getTV_here, getTV_next, c1, cond_false]
   · refine ⟨Gl n G', ?_, hP⟩
     simp only [Int.natCast_zero] at r2
     have hne : ¬ A8 n (mdf n G') = a := fun h => hP ⟨G', r1, h.symm⟩
     apply vi_groupsOf
     simp only [bi_groupsOf, c_fineGroups n hn, r2, Option.bind_some, getTV_here, getTV_next, c0, cond_true, c_part n hn G' r1, beq_ll, decide_eq_false hne]
theorem c_crossing_12 (n : Nat) (hn : n ≤ 8) (g : Nat → Nat) (a b c : Nat) (ha : a < n) (hb : b < n) (hc : c < n) (x6 x7 : Int) : ∀ (d x : Nat), x + d = n →
  R i_i_groups__crossing_12 [tLI (Gl n g), tI (n : Int), tI (a : Int), tI (b : Int), tI (c : Int), tI (x : Int), tI x6, tI x7] = some (if c5 g a b c d x then [tI 1, tI (a : Int), tI (b : Int), tB true] else [tI 0, tLI (Gl n g), tI (n : Int), tI (a : Int), tI (b : Int), tI (c : Int), tI x6, tI x7]) := by
 intro d
 induction d with
 | zero =>
  intro x hx
  apply v_i_groups__crossing_12
  have h1 : ¬ ((x : Int) < (n : Int)) := by omega
  simp only [b_i_groups__crossing_12, decide_eq_false h1, cond_false, c5]
  rfl
 | succ d ih =>
  intro x hx
  apply v_i_groups__crossing_12
  have hxn : x < n := by omega
  have h1 : ((x : Int) < (n : Int)) := by omega
  have w : wi64 ((x : Int) + 1) = ((x + 1 : Nat) : Int) := by rw [wrap_i64] <;> omega
  simp (disch := omega) only [b_i_groups__crossing_12, Gl_len, decide_eq_true, cond_true, Bool.and_true, Int.toNat_natCast, Gl_get ha, Gl_get hb, Gl_get hc, Gl_get hxn, beq_nn, bne_nn, w, ih (x + 1) (by omega), c5]
  by_cases e1 : g a = g c
  · by_cases e2 : g b = g x
    · by_cases e3 : g a = g b
      · simp only [decide_eq_true e1, decide_eq_true e2, decide_eq_true e3, cond_true, cond_false, Bool.not_true, Bool.and_false, Bool.false_or]
      · simp only [decide_eq_true e1, decide_eq_true e2, decide_eq_false e3, cond_true, cond_false, Bool.not_false, Bool.and_true, Bool.true_or, if_true]
    · simp only [decide_eq_true e1, decide_eq_false e2, cond_true, cond_false, Bool.and_false, Bool.false_and, Bool.false_or]
  · simp only [decide_eq_false e1, cond_false, Bool.false_and, Bool.false_or]
theorem c_crossing_9 (n : Nat) (hn : n ≤ 8) (g : Nat → Nat) (a b : Nat) (ha : a < n) (hb : b < n) (x6 x7 : Int) : ∀ (d x : Nat), x + d = n →
  R i_i_groups__crossing_9 [tLI (Gl n g), tI (n : Int), tI (a : Int), tI (b : Int), tI (x : Int), tI x6, tI x7] = some (if c4 n g a b d x then [tI 1, tI (a : Int), tI (b : Int), tB true] else [tI 0, tLI (Gl n g), tI (n : Int), tI (a : Int), tI (b : Int), tI x6, tI x7]) := by
 intro d
 induction d with
 | zero =>
  intro x hx
  apply v_i_groups__crossing_9
  have h1 : ¬ ((x : Int) < (n : Int)) := by omega
  simp only [b_i_groups__crossing_9, decide_eq_false h1, cond_false, c4]
  rfl
 | succ d ih =>
  intro x hx
  apply v_i_groups__crossing_9
  have hxn : x < n := by omega
  have h1 : ((x : Int) < (n : Int)) := by omega
  have w : wi64 ((x : Int) + 1) = ((x + 1 : Nat) : Int) := by rw [wrap_i64] <;> omega
  have h5 := c_crossing_12 n hn g a b x ha hb hxn x6 x7 (n - (x + 1)) (x + 1) (by omega)
  simp only [b_i_groups__crossing_9, decide_eq_true h1, cond_true, w, h5, c4]
  by_cases hb5 : c5 g a b x (n - (x + 1)) (x + 1) = true
  · simp only [hb5, if_true, Bool.true_or]
    rfl
  · have hb6 : c5 g a b x (n - (x + 1)) (x + 1) = false := by simpa using hb5
    have c0 : ((0 : Int) == 0) = true := rfl
    simp only [hb6, Bool.false_eq_true, if_false, Option.bind_some, getTV_here, getTV_next, c0, cond_true, w, ih (x + 1) (by omega), Bool.false_or]
theorem c_crossing_6 (n : Nat) (hn : n ≤ 8) (g : Nat → Nat) (a : Nat) (ha : a < n) (x6 x7 : Int) : ∀ (d x : Nat), x + d = n →
  ∃ p q : Int, R i_i_groups__crossing_6 [tLI (Gl n g), tI (n : Int), tI (a : Int), tI (x : Int), tI x6, tI x7] = some (if c3 n g a d x then [tI 1, tI p, tI q, tB true] else [tI 0, tLI (Gl n g), tI (n : Int), tI x6, tI x7]) := by
 intro d
 induction d with
 | zero =>
  intro x hx
  refine ⟨0, 0, ?_⟩
  apply v_i_groups__crossing_6
  have h1 : ¬ ((x : Int) < (n : Int)) := by omega
  simp only [b_i_groups__crossing_6, decide_eq_false h1, cond_false, c3]
  rfl
 | succ d ih =>
  intro x hx
  have hxn : x < n := by omega
  have h1 : ((x : Int) < (n : Int)) := by omega
  have w : wi64 ((x : Int) + 1) = ((x + 1 : Nat) : Int) := by rw [wrap_i64] <;> omega
  have h5 := c_crossing_9 n hn g a x ha hxn x6 x7 (n - (x + 1)) (x + 1) (by omega)
  obtain ⟨p, q, ih'⟩ := ih (x + 1) (by omega)
  by_cases hb5 : c4 n g a x (n - (x + 1)) (x + 1) = true
  · refine ⟨a, x, ?_⟩
    apply v_i_groups__crossing_6
    simp only [b_i_groups__crossing_6, decide_eq_true h1, cond_true, w, h5, c3]
    simp only [hb5, if_true, Bool.true_or]
    rfl
  · refine ⟨p, q, ?_⟩
    have hb6 : c4 n g a x (n - (x + 1)) (x + 1) = false := by simpa using hb5
    have c0 : ((0 : Int) == 0) = true := rfl
    apply v_i_groups__crossing_6
    simp only [b_i_groups__crossing_6, decide_eq_true h1, cond_true, w, h5, c3]
    simp only [hb6, Bool.false_eq_true, if_false, Option.bind_some, getTV_here, getTV_next, c0, cond_true, w, ih', Bool.false_or]
theorem c_crossing_3 (n : Nat) (hn : n ≤ 8) (g : Nat → Nat) : ∀ (d x : Nat), x + d = n →
  ∃ p q : Int, R i_i_groups__crossing_3 [tLI (Gl n g), tI (n : Int), tI (n : Int), tI (x : Int)] = some (if c2 n g d x then [tI 1, tI p, tI q, tB true] else [tI 0]) := by
 intro d
 induction d with
 | zero =>
  intro x hx
  refine ⟨0, 0, ?_⟩
  apply v_i_groups__crossing_3
  have h1 : ¬ ((x : Int) < (n : Int)) := by omega
  simp only [b_i_groups__crossing_3, decide_eq_false h1, cond_false, c2]
  rfl
 | succ d ih =>
  intro x hx
  have hxn : x < n := by omega
  have h1 : ((x : Int) < (n : Int)) := by omega
  have w : wi64 ((x : Int) + 1) = ((x + 1 : Nat) : Int) := by rw [wrap_i64] <;> omega
  obtain ⟨p, q, h5⟩ := c_crossing_6 n hn g x hxn (n : Int) (x : Int) (n - (x + 1)) (x + 1) (by omega)
  obtain ⟨p', q', ih'⟩ := ih (x + 1) (by omega)
  by_cases hb5 : c3 n g x (n - (x + 1)) (x + 1) = true
  · refine ⟨p, q, ?_⟩
    apply v_i_groups__crossing_3
    simp only [b_i_groups__crossing_3, decide_eq_true h1, cond_true, w, h5, c2]
    simp only [hb5, if_true, Bool.true_or]
    rfl
  · refine ⟨p', q', ?_⟩
    have hb6 : c3 n g x (n - (x + 1)) (x + 1) = false := by simpa using hb5
    have c0 : ((0 : Int) == 0) = true := rfl
    apply v_i_groups__crossing_3
    simp only [b_i_groups__crossing_3, decide_eq_true h1, cond_true, w, h5, c2]
    simp only [hb6, Bool.false_eq_true, if_false, Option.bind_some, getTV_here, getTV_next, c0, cond_true, w, ih', Bool.false_or]
theorem c_crossing (n : Nat) (hn : n ≤ 8) (g : Nat → Nat) : ∃ p q : Int, R i_i_groups__crossing [tLI (Gl n g)] = some [tI p, tI q, tB (crs n g)] := by
 obtain ⟨p, q, h2⟩ := c_crossing_3 n hn g n 0 (by omega)
 simp only [Int.natCast_zero] at h2
 by_cases hb5 : c2 n g n 0 = true
 · refine ⟨p, q, ?_⟩
   apply v_i_groups__crossing
   simp only [b_i_groups__crossing, Gl_len, h2, Option.bind_some, crs]
   rw [if_pos hb5, hb5]
   rfl
 · have hb6 : c2 n g n 0 = false := by simpa using hb5
   refine ⟨0, 0, ?_⟩
   apply v_i_groups__crossing
   simp only [b_i_groups__crossing, Gl_len, h2, Option.bind_some, crs]
   rw [if_neg hb5, hb6]
   rfl
theorem c_IsPart (a : List Int) (ha : B8 a) (k : Int) : R ii_IsPart [tA8 a, tI k] = some [tB (isPt a k)] := by
 have hct : R ii_isCount [tI k] = some [tB (decide (1 ≤ k) && decide (k ≤ 8))] := by
  apply vi_isCount
  simp only [bi_isCount, c_within, Option.bind_some, getTV_here]
 apply vi_IsPart
 simp only [bi_IsPart, hct, Option.bind_some, getTV_here, isPt]
 by_cases h1 : 1 ≤ k ∧ k ≤ 8
 · have x1 := h1.1
   have x2 := h1.2
   obtain ⟨n, rfl⟩ : ∃ n : Nat, k = n := ⟨k.toNat, by omega⟩
   simp only [decide_eq_true x1, decide_eq_true x2, Bool.and_true, Bool.not_true, cond_false]
   have hn : n ≤ 8 := by omega
   rcases ex_groupsOf n hn a ha with ⟨x, r1, r2⟩ | ⟨g, r1, rfl⟩
   · have hP : ¬ (1 ≤ (n : Int) ∧ (n : Int) ≤ 8 ∧ IsP (n : Int).toNat a) := by
      rintro ⟨_, _, g, hg, _, he⟩
      exact r2 ⟨g, hg, he⟩
     simp only [r1, Option.bind_some, getTV_here, getTV_next, Bool.not_false, cond_true, decp_f hP]
   · obtain ⟨p, q, hx⟩ := c_crossing n hn g
     simp only [c_groupsOf n hn g r1, Option.bind_some, getTV_here, getTV_next, Bool.not_true, cond_false, hx]
     by_cases hc : crs n g = false
     · have hP : (1 ≤ (n : Int) ∧ (n : Int) ≤ 8 ∧ IsP (n : Int).toNat (A8 n (mdf n g))) := ⟨x1, x2, g, r1, hc, rfl⟩
       rw [decp_t hP, hc]
       rfl
     · have hP : ¬ (1 ≤ (n : Int) ∧ (n : Int) ≤ 8 ∧ IsP (n : Int).toNat (A8 n (mdf n g))) := by
        rintro ⟨_, _, g', hg, hc', he⟩
        rw [Int.toNat_natCast] at hg hc' he
        have h2 := c_l07Least n hn g' hg
        have h3 := c_l07Least n hn g r1
        rw [he, h2] at h3
        simp only [Option.some.injEq, List.cons.injEq, and_true] at h3
        have e3 := tAi8_inj h3
        exact hc (by rw [← crs_congr (A8_inj hn e3)]; exact hc')
       have hc1 : crs n g = true := by simpa using hc
       rw [decp_f hP, hc1]
       rfl
 · have hd : (decide (1 ≤ k) && decide (k ≤ 8)) = false := by
    rw [← Bool.decide_and]
    exact decide_eq_false h1
   have hP : ¬ (1 ≤ k ∧ k ≤ 8 ∧ IsP k.toNat a) := fun h => h1 ⟨h.1, h.2.1⟩
   simp only [hd, Bool.not_false, cond_true, decp_f hP]
end Go.Ev.Yteclcmiopobnaaa.P
namespace Go.Ev.Yteclcmiopobnaaa.P
open Go.Ev.Yteclcmiopobnaaa
open Go.Ev Go.Gar
theorem wi64_n1 {i : Nat} (h : i < 1000) : wi64 ((i : Int) + 1) = ((i + 1 : Nat) : Int) := by rw [wrap_i64] <;> omega
theorem wu8_n {i : Nat} (h : i < 256) : wu8 (i : Int) = (i : Int) := wrap_u8 (by omega) (by omega)
theorem sA_one (n : Nat) : (sA (1 : Pm n)) = A8 n fun x => x := rfl
theorem c_then_3 (n : Nat) (hn : n ≤ 8) (s t : Pm n) (z : List Int) : ∀ i, i ≤ n → R ii_then_3 [tA8 (sA s), tA8 (sA t), tA8 z, tA8 (A8 n fun x => if x < i then t.f (s.f x) else 0), tI (n : Int), tI (i : Int)] = some [tI 0, tA8 z, tA8 (sA (s * t))] := by
 refine up_loop _ ?_ (fun i hi ih => ?_)
 · apply vi_then_3
   rw [show sA (s * t) = A8 n (fun x => t.f (s.f x)) from rfl, A8_congr (g := fun x => t.f (s.f x)) (fun x hx => by simp [hx])]
   simp [bi_then_3]
 · apply vi_then_3
   have h1 := s.lt hi
   simp (disch := omega) only [bi_then_3, decide_eq_true, cond_true, Bool.and_true, Int.toNat_natCast, wi64_n1, sA_get, A8_set]
   rw [A8_congr (g := fun x => if x < i + 1 then t.f (s.f x) else 0) (fun x hx => by
    by_cases h2 : x = i
    · subst h2; simp
    · by_cases h3 : x < i
      · have : x < i + 1 := by omega
        simp [h2, h3, this]
      · have : ¬ x < i + 1 := by omega
        simp [h2, h3, this])]
   exact ih
theorem c_then (n : Nat) (hn : n ≤ 8) (s t : Pm n) : R ii_then [tA8 (sA s), tA8 (sA t), tI (n : Int)] = some [tA8 (sA (s * t))] := by
 apply vi_then
 have h := c_then_3 n hn s t (List.replicate 8 0) 0 (Nat.zero_le _)
 rw [A8_congr (g := fun _ => 0) (fun x hx => by simp), ← A8_zero] at h
 simp only [Int.natCast_zero] at h
 simp only [bi_then, h, Option.bind_some, getTV_here, getTV_next]
theorem c_l07Then_3 (n : Nat) (hn : n ≤ 8) (s t : Pm n) (z : List Int) : ∀ i, i ≤ n → R is_l07Then_3 [tA8 (sA s), tA8 (sA t), tA8 z, tA8 (A8 n fun x => if x < i then t.f (s.f x) else 0), tI (n : Int), tI (i : Int)] = some [tI 0, tA8 z, tA8 (sA (s * t))] := by
 refine up_loop _ ?_ (fun i hi ih => ?_)
 · apply vs_l07Then_3
   rw [show sA (s * t) = A8 n (fun x => t.f (s.f x)) from rfl, A8_congr (g := fun x => t.f (s.f x)) (fun x hx => by simp [hx])]
   simp [bs_l07Then_3]
 · apply vs_l07Then_3
   have h1 := s.lt hi
   simp (disch := omega) only [bs_l07Then_3, decide_eq_true, cond_true, Bool.and_true, Int.toNat_natCast, wi64_n1, sA_get, A8_set]
   rw [A8_congr (g := fun x => if x < i + 1 then t.f (s.f x) else 0) (fun x hx => by
    by_cases h2 : x = i
    · subst h2; simp
    · by_cases h3 : x < i
      · have : x < i + 1 := by omega
        simp [h2, h3, this]
      · have : ¬ x < i + 1 := by omega
        simp [h2, h3, this])]
   exact ih
theorem c_l07Then (n : Nat) (hn : n ≤ 8) (s t : Pm n) : R is_l07Then [tA8 (sA s), tA8 (sA t), tI (n : Int)] = some [tA8 (sA (s * t))] := by
 apply vs_l07Then
 have h := c_l07Then_3 n hn s t (List.replicate 8 0) 0 (Nat.zero_le _)
 rw [A8_congr (g := fun _ => 0) (fun x hx => by simp), ← A8_zero] at h
 simp only [Int.natCast_zero] at h
 simp only [bs_l07Then, h, Option.bind_some, getTV_here, getTV_next]
theorem c_backOf_3 (n : Nat) (hn : n ≤ 8) (s : Pm n) (z : List Int) : ∀ i, i ≤ n → R ii_backOf_3 [tA8 (sA s), tA8 z, tA8 (A8 n fun y => if s.g y < i then s.g y else 0), tI (n : Int), tI (i : Int)] = some [tI 0, tA8 z, tA8 (sA s⁻¹)] := by
 refine up_loop _ ?_ (fun i hi ih => ?_)
 · apply vi_backOf_3
   rw [show sA s⁻¹ = A8 n s.g from rfl, A8_congr (g := s.g) (fun x hx => by simp [s.lt_g hx])]
   simp [bi_backOf_3]
 · apply vi_backOf_3
   have h1 := s.lt hi
   simp (disch := omega) only [bi_backOf_3, decide_eq_true, cond_true, Bool.and_true, Int.toNat_natCast, wi64_n1, wu8_n, sA_get, A8_set]
   rw [A8_congr (g := fun y => if s.g y < i + 1 then s.g y else 0) (fun y hy => by
    by_cases h2 : y = s.f i
    · subst h2; simp [s.gf]
    · have h4 : s.g y ≠ i := fun h => h2 (by rw [← h, s.fg])
      by_cases h3 : s.g y < i
      · have : s.g y < i + 1 := by omega
        simp [h2, h3, this]
      · have : ¬ s.g y < i + 1 := by omega
        simp [h2, h3, this])]
   exact ih
theorem c_backOf (n : Nat) (hn : n ≤ 8) (s : Pm n) : R ii_backOf [tA8 (sA s), tI (n : Int)] = some [tA8 (sA s⁻¹)] := by
 apply vi_backOf
 have h := c_backOf_3 n hn s (List.replicate 8 0) 0 (Nat.zero_le _)
 rw [A8_congr (g := fun _ => 0) (fun x hx => by simp), ← A8_zero] at h
 simp only [Int.natCast_zero] at h
 simp only [bi_backOf, h, Option.bind_some, getTV_here, getTV_next]
theorem c_l07Back_3 (n : Nat) (hn : n ≤ 8) (s : Pm n) (z : List Int) : ∀ i, i ≤ n → R is_l07Back_3 [tA8 (sA s), tA8 z, tA8 (A8 n fun y => if s.g y < i then s.g y else 0), tI (n : Int), tI (i : Int)] = some [tI 0, tA8 z, tA8 (sA s⁻¹)] := by
 refine up_loop _ ?_ (fun i hi ih => ?_)
 · apply vs_l07Back_3
   rw [show sA s⁻¹ = A8 n s.g from rfl, A8_congr (g := s.g) (fun x hx => by simp [s.lt_g hx])]
   simp [bs_l07Back_3]
 · apply vs_l07Back_3
   have h1 := s.lt hi
   simp (disch := omega) only [bs_l07Back_3, decide_eq_true, cond_true, Bool.and_true, Int.toNat_natCast, wi64_n1, wu8_n, sA_get, A8_set]
   rw [A8_congr (g := fun y => if s.g y < i + 1 then s.g y else 0) (fun y hy => by
    by_cases h2 : y = s.f i
    · subst h2; simp [s.gf]
    · have h4 : s.g y ≠ i := fun h => h2 (by rw [← h, s.fg])
      by_cases h3 : s.g y < i
      · have : s.g y < i + 1 := by omega
        simp [h2, h3, this]
      · have : ¬ s.g y < i + 1 := by omega
        simp [h2, h3, this])]
   exact ih
theorem c_l07Back (n : Nat) (hn : n ≤ 8) (s : Pm n) : R is_l07Back [tA8 (sA s), tI (n : Int)] = some [tA8 (sA s⁻¹)] := by
 apply vs_l07Back
 have h := c_l07Back_3 n hn s (List.replicate 8 0) 0 (Nat.zero_le _)
 rw [A8_congr (g := fun _ => 0) (fun x hx => by simp), ← A8_zero] at h
 simp only [Int.natCast_zero] at h
 simp only [bs_l07Back, h, Option.bind_some, getTV_here, getTV_next]
theorem tmn (a b : Nat) : Int.tmod (a : Int) (b : Int) = ((a % b : Nat) : Int) := rfl
def sc (n x : Nat) : Nat := if x + 1 = n then 0 else x + 1
theorem sc_mod {n x : Nat} (h : x < n) : (x + 1) % n = sc n x := by
 unfold sc
 split
 · rename_i e; rw [e, Nat.mod_self]
 · exact Nat.mod_eq_of_lt (by omega)
theorem sc_lt {n x : Nat} (h : x < n) : sc n x < n := by
 unfold sc
 split <;> omega
theorem whole_ex (n : Nat) : ∃ w : Pm n, ∀ x, x < n → w.f x = sc n x :=
 pm_of (fun x h => sc_lt h) (fun x y hx hy h => by unfold sc at h; split at h <;> split at h <;> omega)
noncomputable def whP (n : Nat) : Pm n := (whole_ex n).choose
theorem whP_f {n x : Nat} (h : x < n) : (whP n).f x = sc n x := (whole_ex n).choose_spec x h
theorem turn_i {n i : Nat} (hi : i < n) (hn : n ≤ 8) : Int.tmod (wi64 ((i : Int) + 1)) (n : Int) = ((sc n i : Nat) : Int) := by
 have e : wi64 ((i : Int) + 1) = ((i + 1 : Nat) : Int) := by rw [wrap_i64] <;> omega
 rw [e, tmn, sc_mod hi]
theorem c_l07Whole_3 (n : Nat) (hn : n ≤ 8) (z : List Int) : ∀ i, i ≤ n → R is_l07Whole_3 [tA8 z, tA8 (A8 n fun x => if x < i then sc n x else 0), tI (n : Int), tI (i : Int)] = some [tI 0, tA8 z, tA8 (sA (whP n))] := by
 refine up_loop _ ?_ (fun i hi ih => ?_)
 · apply vs_l07Whole_3
   rw [show sA (whP n) = A8 n (whP n).f from rfl, A8_congr (g := (whP n).f) (fun x hx => by rw [if_pos hx, whP_f hx])]
   simp [bs_l07Whole_3]
 · apply vs_l07Whole_3
   have h1 := sc_lt hi
   have h0 : ¬ (n : Int) = 0 := by omega
   have w8 : wu8 ((sc n i : Nat) : Int) = ((sc n i : Nat) : Int) := by rw [wrap_u8] <;> omega
   have w : wi64 ((i : Int) + 1) = ((i + 1 : Nat) : Int) := by rw [wrap_i64] <;> omega
   simp (disch := omega) only [bs_l07Whole_3, decide_eq_true, cond_true, Bool.and_true, Int.toNat_natCast, bne_dec, decide_eq_false h0, Bool.not_false, turn_i hi hn, w8, A8_set hi hn]
   rw [A8_congr (g := fun x => if x < i + 1 then sc n x else 0) (fun x hx => by
    by_cases h2 : x = i
    · subst h2; simp
    · by_cases h3 : x < i
      · have : x < i + 1 := by omega
        simp [h2, h3, this]
      · have : ¬ x < i + 1 := by omega
        simp [h2, h3, this]), w]
   exact ih
theorem c_l07Whole (n : Nat) (hn : n ≤ 8) : R is_l07Whole [tI (n : Int)] = some [tA8 (sA (whP n))] := by
 apply vs_l07Whole
 have h := c_l07Whole_3 n hn (List.replicate 8 0) 0 (Nat.zero_le _)
 rw [A8_congr (g := fun _ => 0) (fun x hx => by simp), ← A8_zero] at h
 simp only [Int.natCast_zero] at h
 simp only [bs_l07Whole, h, Option.bind_some, getTV_here, getTV_next]
theorem c_wholePart_3 (n : Nat) (hn : n ≤ 8) (z : List Int) : ∀ i, i ≤ n → R ii_wholePart_3 [tA8 z, tA8 (A8 n fun x => if x < i then sc n x else 0), tI (n : Int), tI (n : Int), tI (i : Int)] = some [tI 0, tA8 z, tA8 (sA (whP n))] := by
 refine up_loop _ ?_ (fun i hi ih => ?_)
 · apply vi_wholePart_3
   rw [show sA (whP n) = A8 n (whP n).f from rfl, A8_congr (g := (whP n).f) (fun x hx => by rw [if_pos hx, whP_f hx])]
   simp [bi_wholePart_3]
 · apply vi_wholePart_3
   have h1 := sc_lt hi
   have h0 : ¬ (n : Int) = 0 := by omega
   have w8 : wu8 ((sc n i : Nat) : Int) = ((sc n i : Nat) : Int) := by rw [wrap_u8] <;> omega
   have w : wi64 ((i : Int) + 1) = ((i + 1 : Nat) : Int) := by rw [wrap_i64] <;> omega
   simp (disch := omega) only [bi_wholePart_3, decide_eq_true, cond_true, Bool.and_true, Int.toNat_natCast, bne_dec, decide_eq_false h0, Bool.not_false, turn_i hi hn, w8, A8_set hi hn]
   rw [A8_congr (g := fun x => if x < i + 1 then sc n x else 0) (fun x hx => by
    by_cases h2 : x = i
    · subst h2; simp
    · by_cases h3 : x < i
      · have : x < i + 1 := by omega
        simp [h2, h3, this]
      · have : ¬ x < i + 1 := by omega
        simp [h2, h3, this]), w]
   exact ih
theorem c_wholePart (n : Nat) (hn : n ≤ 8) : R ii_wholePart [tI (n : Int)] = some [tA8 (sA (whP n))] := by
 apply vi_wholePart
 have h := c_wholePart_3 n hn (List.replicate 8 0) 0 (Nat.zero_le _)
 rw [A8_congr (g := fun _ => 0) (fun x hx => by simp), ← A8_zero] at h
 simp only [Int.natCast_zero] at h
 simp only [bi_wholePart, h, Option.bind_some, getTV_here, getTV_next]
theorem c_l07Complement (n : Nat) (hn : n ≤ 8) (s : Pm n) : R is_l07Complement [tA8 (sA s), tI (n : Int)] = some [tA8 (sA (s⁻¹ * whP n))] := by
 apply vs_l07Complement
 simp only [bs_l07Complement, c_l07Back n hn, c_l07Whole n hn, c_l07Then n hn, Option.bind_some, getTV_here]
theorem c_complementPart (n : Nat) (hn : n ≤ 8) (s : Pm n) : R ii_complementPart [tA8 (sA s), tI (n : Int)] = some [tA8 (sA (s⁻¹ * whP n))] := by
 have h1 : R ii_backPart [tA8 (sA s), tI (n : Int)] = some [tA8 (sA s⁻¹)] := by
  apply vi_backPart
  simp only [bi_backPart, c_backOf n hn, Option.bind_some, getTV_here]
 have h2 : R ii_thenPart [tA8 (sA s⁻¹), tA8 (sA (whP n)), tI (n : Int)] = some [tA8 (sA (s⁻¹ * whP n))] := by
  apply vi_thenPart
  simp only [bi_thenPart, c_then n hn, Option.bind_some, getTV_here]
 apply vi_complementPart
 simp only [bi_complementPart, h1, c_wholePart n hn, h2, Option.bind_some, getTV_here]
theorem isPt_cases (a : List Int) (k : Int) : isPt a k = false ∨ (isPt a k = true ∧ ∃ (n : Nat) (g : Nat → Nat) (s : Pm n), 1 ≤ n ∧ n ≤ 8 ∧ k = n ∧ Can n g ∧ crs n g = false ∧ a = A8 n (mdf n g) ∧ a = sA s) := by
 by_cases h : 1 ≤ k ∧ k ≤ 8 ∧ IsP k.toNat a
 · right
   refine ⟨decp_t h, ?_⟩
   obtain ⟨h1, h2, g, hg, hc, rfl⟩ := h
   obtain ⟨s, hs, _⟩ := mdf_pm hg
   exact ⟨k.toNat, g, s, by omega, by omega, by omega, hg, hc, rfl, hs⟩
 · left
   exact decp_f h
def st (n : Nat) (f : Nat → Nat) (i y : Nat) : Nat := if y = 0 then (if i = n then sc n (f (n - 1)) else 0) else if y ≤ i then sc n (f (y - 1)) else 0
end Go.Ev.Yteclcmiopobnaaa.P
namespace Go.Ev.Yteclcmiopobnaaa.P
open Go.Ev.Yteclcmiopobnaaa
open Go.Ev Go.Gar
def sm (a b : Nat → Nat) (x y : Nat) : Bool := decide (a x = a y) && decide (b x = b y)
theorem sm_iff {a b : Nat → Nat} {x y : Nat} : sm a b x y = true ↔ a x = a y ∧ b x = b y := by simp [sm]
def ls (a b : Nat → Nat) (i : Nat) : Nat → Nat → Nat
 | 0, _ => i
 | d + 1, j => if sm a b j i then j else ls a b i d (j + 1)
def lst (a b : Nat → Nat) (i : Nat) : Nat := ls a b i i 0
theorem ls_spec (a b : Nat → Nat) (i : Nat) : ∀ d j, j + d = i → (∀ y, y < j → sm a b y i = false) → ls a b i d j ≤ i ∧ sm a b (ls a b i d j) i = true ∧ ∀ y, y < ls a b i d j → sm a b y i = false := by
 intro d
 induction d with
 | zero =>
  intro j hj h
  have : j = i := by omega
  subst this
  exact ⟨Nat.le_refl _, sm_iff.2 ⟨rfl, rfl⟩, h⟩
 | succ d ih =>
  intro j hj h
  rw [ls]
  by_cases h1 : sm a b j i = true
  · rw [if_pos h1]
    exact ⟨by omega, h1, h⟩
  · rw [if_neg h1]
    refine ih (j + 1) (by omega) (fun y hy => ?_)
    by_cases h2 : y = j
    · rw [h2]; simpa using h1
    · exact h y (by omega)
theorem lst_spec (a b : Nat → Nat) (i : Nat) : lst a b i ≤ i ∧ sm a b (lst a b i) i = true ∧ ∀ y, y < lst a b i → sm a b y i = false := ls_spec a b i i 0 (by omega) (fun y hy => by omega)
theorem lst_eq {a b : Nat → Nat} {x y : Nat} (h : sm a b x y = true) : lst a b x = lst a b y := by
 have hx := lst_spec a b x
 have hy := lst_spec a b y
 rw [sm_iff] at h
 apply Classical.byContradiction
 intro hne
 rcases Nat.lt_or_gt_of_ne hne with h1 | h1
 · have := hy.2.2 _ h1
   have h2 := sm_iff.1 hx.2.1
   rw [sm_iff.2 ⟨by omega, by omega⟩] at this
   exact Bool.noConfusion this
 · have := hx.2.2 _ h1
   have h2 := sm_iff.1 hy.2.1
   rw [sm_iff.2 ⟨by omega, by omega⟩] at this
   exact Bool.noConfusion this
theorem lst_can (n : Nat) (a b : Nat → Nat) : Can n (lst a b) := fun x _ => ⟨(lst_spec a b x).1, lst_eq (lst_spec a b x).2.1⟩
def us (n : Nat) (a b : Nat → Nat) (i v : Nat) : Nat → Nat → Nat
 | 0, _ => v
 | d + 1, c => if c < n ∧ sm a b c i = true then c else us n a b i v d (c + 1)
theorem us_lst {n : Nat} {a b : Nat → Nat} {i v : Nat} (hi : i < n) : ∀ d c, c ≤ lst a b i → n ≤ c + d → us n a b i v d c = lst a b i := by
 have hs := lst_spec a b i
 intro d
 induction d with
 | zero => intro c h1 h2; omega
 | succ d ih =>
  intro c h1 h2
  rw [us]
  by_cases h : c = lst a b i
  · rw [if_pos ⟨by omega, by rw [h]; exact hs.2.1⟩, h]
  · have hf := hs.2.2 c (by omega)
    rw [if_neg (by rw [hf]; simp), ih (c + 1) (by omega) (by omega)]
theorem c_l07Meet_8 (n : Nat) (hn : n ≤ 8) (a b : Nat → Nat) (x0 : List Int) (i : Nat) (hi : i < n) (v : Nat) : ∀ (c : Nat) (h : Nat → Nat), c ≤ 8 → h i = us n a b i v (8 - c) c →
  R is_l07Meet_8 [tA8 x0, tAi8 (A8 n a), tAi8 (A8 n b), tAi8 (A8 n h), tI (n : Int), tI (i : Int), tI ((c : Int) - 1)] = some [tI 0, tA8 x0, tAi8 (A8 n a), tAi8 (A8 n b), tAi8 (A8 n (fun x => if x = i then lst a b i else h x)), tI (n : Int), tI (i : Int)] := by
 intro c
 induction c with
 | zero =>
  intro h _ hh
  apply vs_l07Meet_8
  have h1 : ¬ ((0 : Int) ≤ ((0 : Nat) : Int) - 1) := by omega
  have e : A8 n h = A8 n (fun x => if x = i then lst a b i else h x) := by
   apply A8_congr
   intro x _
   by_cases hx : x = i
   · rw [if_pos hx, hx, hh, us_lst hi 8 0 (Nat.zero_le _) (by omega)]
   · rw [if_neg hx]
  rw [← e]
  simp only [bs_l07Meet_8, decide_eq_false h1, cond_false]
 | succ c ih =>
  intro h hc hh
  have e8 : 8 - c = (8 - (c + 1)) + 1 := by omega
  have hu : us n a b i v (8 - c) c = if c < n ∧ sm a b c i = true then c else us n a b i v (8 - (c + 1)) (c + 1) := by rw [e8, us]
  have e0 : ((c + 1 : Nat) : Int) - 1 = (c : Int) := by omega
  have w : wi64 ((c : Int) - 1) = (c : Int) - 1 := by rw [wrap_i64] <;> omega
  have v1 : decide ((0 : Int) ≤ (c : Int)) = true := decide_eq_true (by omega)
  have v2 : decide ((c : Int) < 8) = true := decide_eq_true (by omega)
  have v3 : decide ((0 : Int) ≤ (i : Int)) = true := decide_eq_true (by omega)
  have v4 : decide ((i : Int) < 8) = true := decide_eq_true (by omega)
  apply vs_l07Meet_8
  rw [e0]
  by_cases hcn : c < n
  · have v5 : decide ((c : Int) < (n : Int)) = true := decide_eq_true (by omega)
    simp only [bs_l07Meet_8, v1, v2, v3, v4, v5, cond_true, Bool.and_true, Int.toNat_natCast, A8_get hcn hn, A8_get hi hn, beq_nn, w, A8_set hi hn]
    by_cases e1 : a c = a i
    · by_cases e2 : b c = b i
      · rw [if_pos ⟨hcn, sm_iff.2 ⟨e1, e2⟩⟩] at hu
        have ih' := ih (fun x => if x = i then c else h x) (by omega) (by simp only [if_true]; exact hu.symm)
        have e : A8 n (fun x => if x = i then lst a b i else if x = i then c else h x) = A8 n (fun x => if x = i then lst a b i else h x) := by
         apply A8_congr
         intro x _
         by_cases hx : x = i
         · rw [if_pos hx, if_pos hx]
         · rw [if_neg hx, if_neg hx, if_neg hx]
        rw [e] at ih'
        simp only [decide_eq_true e1, decide_eq_true e2, cond_true, ih']
      · rw [if_neg (fun h => e2 (sm_iff.1 h.2).2)] at hu
        simp only [decide_eq_true e1, decide_eq_false e2, cond_true, cond_false, ih h (by omega) (by rw [hh, hu])]
    · rw [if_neg (fun h => e1 (sm_iff.1 h.2).1)] at hu
      simp only [decide_eq_false e1, cond_false, ih h (by omega) (by rw [hh, hu])]
  · have v5 : decide ((c : Int) < (n : Int)) = false := decide_eq_false (by omega)
    rw [if_neg (fun h => hcn h.1)] at hu
    simp only [bs_l07Meet_8, v1, v5, cond_true, cond_false, w, ih h (by omega) (by rw [hh, hu])]
theorem c_l07Meet_5 (n : Nat) (hn : n ≤ 8) (a b : Nat → Nat) (x0 : List Int) : ∀ (c : Nat), c ≤ n →
  R is_l07Meet_5 [tA8 x0, tAi8 (A8 n a), tAi8 (A8 n b), tAi8 (A8 n (fun x => if c ≤ x then lst a b x else 0)), tI (n : Int), tI ((c : Int) - 1)] = some [tI 0, tA8 x0, tAi8 (A8 n (lst a b)), tI (n : Int)] := by
 intro c
 induction c with
 | zero =>
  intro _
  apply vs_l07Meet_5
  have h1 : ¬ ((0 : Int) ≤ ((0 : Nat) : Int) - 1) := by omega
  have e : A8 n (fun x => if 0 ≤ x then lst a b x else 0) = A8 n (lst a b) := A8_congr (fun x _ => if_pos (Nat.zero_le _))
  simp only [bs_l07Meet_5, decide_eq_false h1, cond_false]
  rw [e]
 | succ c ih =>
  intro hc
  have hi : c < n := by omega
  have e0 : ((c + 1 : Nat) : Int) - 1 = (c : Int) := by omega
  have w : wi64 ((c : Int) - 1) = (c : Int) - 1 := by rw [wrap_i64] <;> omega
  have v1 : decide ((0 : Int) ≤ (c : Int)) = true := decide_eq_true (by omega)
  have h8 := c_l07Meet_8 n hn a b x0 c hi 0 8 (fun x => if c + 1 ≤ x then lst a b x else 0) (Nat.le_refl _) (by
   show (if c + 1 ≤ c then lst a b c else 0) = 0
   rw [if_neg (by omega)])
  have e : A8 n (fun x => if x = c then lst a b c else if c + 1 ≤ x then lst a b x else 0) = A8 n (fun x => if c ≤ x then lst a b x else 0) := by
   apply A8_congr
   intro x _
   by_cases hx : x = c
   · rw [if_pos hx, if_pos (by omega), hx]
   · rw [if_neg hx]
     by_cases hx' : c + 1 ≤ x
     · rw [if_pos hx', if_pos (by omega)]
     · rw [if_neg hx', if_neg (by omega)]
  rw [e] at h8
  have e7 : ((8 : Nat) : Int) - 1 = 7 := rfl
  rw [e7] at h8
  apply vs_l07Meet_5
  rw [e0]
  simp only [bs_l07Meet_5, v1, cond_true, h8, Option.bind_some, getTV_here, getTV_next, w, ih (by omega)]
theorem c_l07Meet (n : Nat) (hn1 : 1 ≤ n) (hn : n ≤ 8) (a b : Nat → Nat) (ha : Can n a) (hb : Can n b) : R is_l07Meet [tA8 (A8 n (mdf n a)), tA8 (A8 n (mdf n b)), tI (n : Int)] = some [tA8 (A8 n (mdf n (lst a b)))] := by
 have h5 := c_l07Meet_5 n hn a b (List.replicate 8 0) n (Nat.le_refl _)
 have e : A8 n (fun x => if n ≤ x then lst a b x else 0) = List.replicate 8 0 := by
  rw [A8_zero n]
  apply A8_congr
  intro x hx
  rw [if_neg (by omega)]
 have w : wi64 ((n : Int) - 1) = (n : Int) - 1 := by rw [wrap_i64] <;> omega
 rw [e] at h5
 apply vs_l07Meet
 simp only [bs_l07Meet, c_l07Least n hn a ha, c_l07Least n hn b hb, Option.bind_some, getTV_here, getTV_next, w, h5, c_l07Made n hn _ (lst_can n a b)]
def mi (a b : Nat → Nat) (i j x : Nat) : Nat := if x < i then lst a b x else if x = i then (if lst a b i < j then lst a b i else i) else x
theorem mi_step {n : Nat} {a b : Nat → Nat} {i j : Nat} (hi : i < n) (hj : j < i) (h : sm a b j i = true) : Gl n (mrg (mi a b i j) j i) = Gl n (mi a b i (j + 1)) := by
 have hl := lst_eq h
 have hsi := lst_spec a b i
 have hsj := lst_spec a b j
 have e1 : mi a b i j j = lst a b i := by
  unfold mi
  rw [if_pos hj, hl]
 have hji : lst a b i ≤ j := by omega
 apply Gl_congr
 intro x hx
 have hsx := lst_spec a b x
 unfold mrg
 by_cases hlt : lst a b i < j
 · have e2 : mi a b i j i = lst a b i := by
    unfold mi
    rw [if_neg (by omega), if_pos rfl, if_pos hlt]
   rw [e1, e2, Nat.max_self, Nat.min_self]
   have e3 : mi a b i (j + 1) x = mi a b i j x := by
    unfold mi
    rw [if_pos hlt, if_pos (show lst a b i < j + 1 by omega)]
   rw [e3]
   split
   · rename_i h; exact h.symm
   · rfl
 · have e2 : mi a b i j i = i := by
    unfold mi
    rw [if_neg (by omega), if_pos rfl, if_neg hlt]
   rw [e1, e2, Nat.max_eq_right (by omega), Nat.min_eq_left (by omega)]
   unfold mi
   by_cases h1 : x < i
   · rw [if_pos h1, if_pos h1, if_neg (by omega)]
   · rw [if_neg h1, if_neg h1]
     by_cases h2 : x = i
     · rw [if_pos h2, if_pos h2, if_neg hlt, if_pos rfl, if_pos (by omega)]
     · rw [if_neg h2, if_neg h2, if_neg h2]
theorem mi_same {n : Nat} {a b : Nat → Nat} {i j : Nat} (h : sm a b j i = false) : Gl n (mi a b i j) = Gl n (mi a b i (j + 1)) := by
 apply Gl_congr
 intro x _
 have hs := (lst_spec a b i).2.1
 have hne : lst a b i ≠ j := fun h1 => by rw [h1, h] at hs; exact Bool.noConfusion hs
 unfold mi
 by_cases h1 : lst a b i < j
 · rw [if_pos h1, if_pos (show lst a b i < j + 1 by omega)]
 · rw [if_neg h1, if_neg (show ¬ lst a b i < j + 1 by omega)]
theorem mi_next {n : Nat} (a b : Nat → Nat) (i : Nat) : Gl n (mi a b i i) = Gl n (mi a b (i + 1) 0) := by
 apply Gl_congr
 intro x _
 have hs := (lst_spec a b i).1
 unfold mi
 by_cases h1 : x < i
 · rw [if_pos h1, if_pos (by omega)]
 · rw [if_neg h1]
   by_cases h2 : x = i
   · subst h2
     rw [if_pos rfl, if_pos (show x < x + 1 by omega)]
     split
     · rfl
     · omega
   · rw [if_neg h2, if_neg (show ¬ x < i + 1 by omega)]
     split
     · rename_i h3
       rw [if_neg (Nat.not_lt_zero _), h3]
     · rfl
theorem c_meetParts_8 (n : Nat) (hn : n ≤ 8) (a b : Nat → Nat) (x0 : List Int) (i : Nat) (hi : i < n) (x5 x6 : Int) : ∀ (j : Nat), j ≤ i →
  R ii_meetParts_8 [tA8 x0, tLI (Gl n a), tLI (Gl n b), tLI (Gl n (mi a b i j)), tI (i : Int), tI x5, tI x6, tI (i : Int), tI (j : Int)] = some [tI 0, tA8 x0, tLI (Gl n a), tLI (Gl n b), tLI (Gl n (mi a b i i)), tI x5, tI x6] := by
 refine up_loop _ ?_ (fun j hj ih => ?_)
 · apply vi_meetParts_8
   have h1 : ¬ ((i : Int) < (i : Int)) := by omega
   simp only [bi_meetParts_8, decide_eq_false h1, cond_false]
 · apply vi_meetParts_8
   have hjn : j < n := by omega
   have w : wi64 ((j : Int) + 1) = ((j + 1 : Nat) : Int) := by rw [wrap_i64] <;> omega
   have v1 : decide ((j : Int) < (i : Int)) = true := decide_eq_true (by omega)
   have v2 : decide ((0 : Int) ≤ (j : Int)) = true := decide_eq_true (by omega)
   have v3 : decide ((0 : Int) ≤ (i : Int)) = true := decide_eq_true (by omega)
   have v4 : decide ((i : Int) < (n : Int)) = true := decide_eq_true (by omega)
   have v5 : decide ((j : Int) < (n : Int)) = true := decide_eq_true (by omega)
   simp only [bi_meetParts_8, Gl_len, v1, v2, v3, v4, v5, cond_true, Bool.and_true, Int.toNat_natCast, Gl_get hjn, Gl_get hi, beq_nn, w, c_merge n hn _ j i hjn hi, Option.bind_some, getTV_here]
   by_cases e1 : a j = a i
   · by_cases e2 : b j = b i
     · simp only [decide_eq_true e1, decide_eq_true e2, cond_true, mi_step hi hj (sm_iff.2 ⟨e1, e2⟩), ih]
     · have hs : sm a b j i = false := by
        rw [Bool.eq_false_iff]
        exact fun h => e2 (sm_iff.1 h).2
       simp only [decide_eq_true e1, decide_eq_false e2, cond_true, cond_false, mi_same hs, ih]
   · have hs : sm a b j i = false := by
      rw [Bool.eq_false_iff]
      exact fun h => e1 (sm_iff.1 h).1
     simp only [decide_eq_false e1, cond_false, mi_same hs, ih]
theorem c_meetParts_5 (n : Nat) (hn : n ≤ 8) (a b : Nat → Nat) (x0 : List Int) : ∀ (i : Nat), i ≤ n →
  R ii_meetParts_5 [tA8 x0, tLI (Gl n a), tLI (Gl n b), tLI (Gl n (mi a b i 0)), tI (n : Int), tI (i : Int)] = some [tI 0, tA8 x0, tLI (Gl n (lst a b))] := by
 refine up_loop _ ?_ (fun i hi ih => ?_)
 · apply vi_meetParts_5
   have h1 : ¬ ((n : Int) < (n : Int)) := by omega
   have e : Gl n (mi a b n 0) = Gl n (lst a b) := Gl_congr (fun x hx => if_pos hx)
   simp only [bi_meetParts_5, decide_eq_false h1, cond_false, e]
 · apply vi_meetParts_5
   have w : wi64 ((i : Int) + 1) = ((i + 1 : Nat) : Int) := by rw [wrap_i64] <;> omega
   have v1 : decide ((i : Int) < (n : Int)) = true := decide_eq_true (by omega)
   have h8 := c_meetParts_8 n hn a b x0 i hi (n : Int) (i : Int) 0 (Nat.zero_le _)
   rw [mi_next] at h8
   simp only [Int.natCast_zero] at h8
   simp only [bi_meetParts_5, v1, cond_true, h8, Option.bind_some, getTV_here, getTV_next, w, ih]
theorem c_meetParts (n : Nat) (hn1 : 1 ≤ n) (hn : n ≤ 8) (a b : Nat → Nat) (ha : Can n a) (hb : Can n b) : R ii_meetParts [tA8 (A8 n (mdf n a)), tA8 (A8 n (mdf n b)), tI (n : Int)] = some [tA8 (A8 n (mdf n (lst a b)))] := by
 have h5 := c_meetParts_5 n hn a b (List.replicate 8 0) 0 (Nat.zero_le _)
 have e : Gl n (mi a b 0 0) = Gl n id := by
  apply Gl_congr
  intro x _
  unfold mi
  rw [if_neg (by omega)]
  by_cases h : x = 0
  · rw [if_pos h, if_neg (by omega), h]; rfl
  · rw [if_neg h]; rfl
 rw [e] at h5
 simp only [Int.natCast_zero] at h5
 apply vi_meetParts
 simp only [bi_meetParts, c_groupsOf n hn a ha, c_groupsOf n hn b hb, c_fineGroups n hn, Option.bind_some, getTV_here, getTV_next, h5, c_part n hn _ (lst_can n a b)]
end Go.Ev.Yteclcmiopobnaaa.P
namespace Go.Ev.Yteclcmiopobnaaa.P
open Go.Ev.Yteclcmiopobnaaa
open Go.Ev Go.Gar
inductive Eo {n : Nat} (s : Pm n) : Nat → Nat → Prop
 | re (x : Nat) : Eo s x x
 | st (x : Nat) : Eo s x (s.f x)
 | sy {x y : Nat} : Eo s x y → Eo s y x
 | tr {x y z : Nat} : Eo s x y → Eo s y z → Eo s x z
structure Lb (n : Nat) (s : Pm n) (l : Nat → Nat) : Prop where
 can : Can n l
 inv : ∀ x, x < n → l (s.f x) = l x
 orb : ∀ x, x < n → Eo s x (l x)
theorem Eo.same {n : Nat} {s : Pm n} {l : Nat → Nat} (h : ∀ x, x < n → l (s.f x) = l x) {x y : Nat} (e : Eo s x y) : (x < n ↔ y < n) ∧ (x < n → l x = l y) := by
 induction e with
 | re x => exact ⟨Iff.rfl, fun _ => rfl⟩
 | st x =>
  refine ⟨⟨fun hx => s.lt hx, fun hx => ?_⟩, fun hx => (h x hx).symm⟩
  apply Classical.byContradiction
  intro hne
  rw [s.out x (by omega)] at hx
  exact hne hx
 | sy _ ih => exact ⟨ih.1.symm, fun hy => (ih.2 (ih.1.2 hy)).symm⟩
 | tr _ _ i1 i2 => exact ⟨i1.1.trans i2.1, fun hx => (i1.2 hx).trans (i2.2 (i1.1.1 hx))⟩
theorem Lb.le {n : Nat} {s : Pm n} {l l' : Nat → Nat} (h : Lb n s l) (h' : Lb n s l') {x : Nat} (hx : x < n) : l' x ≤ l x := by
 have e := (h.orb x hx).same h'.inv
 have h1 := e.2 hx
 have h2 := (h'.can (l x) (e.1.1 hx)).1
 omega
theorem Lb.unique {n : Nat} {s : Pm n} {l l' : Nat → Nat} (h : Lb n s l) (h' : Lb n s l') {x : Nat} (hx : x < n) : l x = l' x := Nat.le_antisymm (h'.le h hx) (h.le h' hx)
theorem lb_groupsOf_3 (n : Nat) (hn : n ≤ 8) (s : Pm n) : ∀ i, i ≤ n → ∀ G : Nat → Nat, Can n G → (∀ x, x < i → G (s.f x) = G x) → (∀ x, x < n → Eo s x (G x)) →
  ∃ G' : Nat → Nat, Lb n s G' ∧ R ii_groupsOf_3 [tA8 (sA s), tLI (Gl n G), tI (n : Int), tI (n : Int), tI (i : Int)] = some [tI 0, tA8 (sA s), tLI (Gl n G')] := by
 refine up_loop _ (fun G hG h1 h2 => ?_) (fun i hi ih G hG h1 h2 => ?_)
 · refine ⟨G, ⟨hG, h1, h2⟩, ?_⟩
   apply vi_groupsOf_3
   have h1 : ¬ ((n : Int) < (n : Int)) := by omega
   simp only [bi_groupsOf_3, decide_eq_false h1, cond_false]
 · have hf := s.lt hi
   have v1 : ((i : Int) < (n : Int)) := by omega
   have u1 : ((i : Int) < 8) := by omega
   have u2 : ((0 : Int) ≤ (i : Int)) := by omega
   have w : wi64 ((i : Int) + 1) = ((i + 1 : Nat) : Int) := by rw [wrap_i64] <;> omega
   have w2 : wi64 ((s.f i : Nat) : Int) = ((s.f i : Nat) : Int) := by rw [wrap_i64] <;> omega
   have v2 : ¬ ((n : Int) ≤ ((s.f i : Nat) : Int)) := by omega
   have hm : mrg G i (s.f i) i = mrg G i (s.f i) (s.f i) := by
    unfold mrg
    by_cases h : G i ≤ G (s.f i)
    · rw [Nat.max_eq_right h, Nat.min_eq_left h, if_pos rfl]
      split
      · rfl
      · rfl
    · rw [Nat.max_eq_left (by omega), Nat.min_eq_right (by omega), if_pos rfl]
      split
      · rfl
      · rfl
   have hmc : ∀ x y, G x = G y → mrg G i (s.f i) x = mrg G i (s.f i) y := by
    intro x y h
    unfold mrg
    rw [h]
   have e0 : Eo s (G i) (G (s.f i)) := ((h2 i hi).sy.tr (Eo.st i)).tr (h2 _ hf)
   have emm : Eo s (max (G i) (G (s.f i))) (min (G i) (G (s.f i))) := by
    by_cases h : G i ≤ G (s.f i)
    · rw [Nat.max_eq_right h, Nat.min_eq_left h]
      exact e0.sy
    · rw [Nat.max_eq_left (by omega), Nat.min_eq_right (by omega)]
      exact e0
   obtain ⟨G', r1, r2⟩ := ih (mrg G i (s.f i)) (mrg_can hG hi hf) (fun x hx => by
    by_cases h : x = i
    · rw [h]; exact hm.symm
    · exact hmc _ _ (h1 x (by omega))) (fun x hx => by
    unfold mrg
    by_cases h : G x = max (G i) (G (s.f i))
    · rw [if_pos h]
      have := h2 x hx
      rw [h] at this
      exact this.tr emm
    · rw [if_neg h]
      exact h2 x hx)
   refine ⟨G', r1, ?_⟩
   apply vi_groupsOf_3
   simp only [bi_groupsOf_3, decide_eq_true v1, decide_eq_true u1, decide_eq_true u2, cond_true, Bool.and_true, Int.toNat_natCast, sA_get hi hn, w2, decide_eq_false v2, cond_false, c_merge n hn G i (s.f i) hi hf, Option.bind_some, getTV_here, w, r2]
theorem lb_groupsOf (n : Nat) (hn : n ≤ 8) (s : Pm n) : ∃ (l : Nat → Nat) (b : Bool), Lb n s l ∧ R ii_groupsOf [tA8 (sA s), tI (n : Int)] = some [tLI (Gl n l), tB b] := by
 have hid : Can n id := fun x _ => ⟨Nat.le_refl _, rfl⟩
 obtain ⟨l, r1, r2⟩ := lb_groupsOf_3 n hn s 0 (Nat.zero_le _) id hid (fun x h => by omega) (fun x _ => Eo.re x)
 simp only [Int.natCast_zero] at r2
 refine ⟨l, decide (A8 n (mdf n l) = sA s), r1, ?_⟩
 apply vi_groupsOf
 have c0 : ((0 : Int) == 0) = true := rfl
 simp only [bi_groupsOf, c_fineGroups n hn, r2, Option.bind_some, getTV_here, getTV_next, c0, cond_true, c_part n hn l r1.can, beq_ll]
structure Cl (n i : Nat) (s : Pm n) (l : Nat → Nat) (S : Nat → Bool) : Prop where
 L : Li n i l S
 f : ∀ x, x < n → S x = true → S (s.f x) = true ∧ l (s.f x) = l x
 p : ∀ y, y < n → S y = true → ∃ x, x < n ∧ S x = true ∧ s.f x = y
 e : ∀ x, x < n → S x = true → Eo s x (l x)
structure Cm (n i : Nat) (s : Pm n) (l : Nat → Nat) (S : Nat → Bool) (q : Nat) : Prop where
 L : Li n i l S
 f : ∀ x, x < n → S x = true → (s.f x = q ∧ l x = i) ∨ (S (s.f x) = true ∧ l (s.f x) = l x)
 p : ∀ y, y < n → S y = true → y ≠ i → ∃ x, x < n ∧ S x = true ∧ s.f x = y
 e : ∀ x, x < n → S x = true → Eo s x (l x)
 t : S q = true → q = i ∧ l i = i ∧ ∃ x, x < n ∧ S x = true ∧ s.f x = i
 b : (q = i ∧ S i = false) ∨ (S i = true ∧ l i = i ∧ ∃ x, x < n ∧ S x = true ∧ s.f x = q)
 o : Eo s i q
def up (l : Nat → Nat) (q i x : Nat) : Nat := if x = q then i else l x
def uS (S : Nat → Bool) (q x : Nat) : Bool := if x = q then true else S x
theorem lb_14 (n : Nat) (hn : n ≤ 8) (s : Pm n) (x1 : List Int) (i : Nat) (hi : i < n) : ∀ (m q : Nat) (l : Nat → Nat) (S : Nat → Bool), q < n → (List.range n).countP (fun x => !S x) ≤ m → Cm n i s l S q →
  ∃ (l' : Nat → Nat) (S' : Nat → Bool), R is_l07Least_14 [tA8 (sA s), tAi8 x1, tAi8 (A8 n l), tAB8 (Bo S), tI (n : Int), tI (i : Int), tI (q : Int)] =
   some [tI 0, tA8 (sA s), tAi8 x1, tAi8 (A8 n l'), tAB8 (Bo S'), tI (n : Int), tI (i : Int)] ∧ Cl n (i + 1) s l' S' := by
 have stop : ∀ (q : Nat) (l : Nat → Nat) (S : Nat → Bool), q < n → Cm n i s l S q → S q = true → ∃ (l' : Nat → Nat) (S' : Nat → Bool), R is_l07Least_14 [tA8 (sA s), tAi8 x1, tAi8 (A8 n l), tAB8 (Bo S), tI (n : Int), tI (i : Int), tI (q : Int)] =
   some [tI 0, tA8 (sA s), tAi8 x1, tAi8 (A8 n l'), tAB8 (Bo S'), tI (n : Int), tI (i : Int)] ∧ Cl n (i + 1) s l' S' := by
  intro q l S hq C hS
  obtain ⟨e1, e2, e3⟩ := C.t hS
  subst e1
  refine ⟨l, S, least_stop _ _ _ _ _ _ q (by omega) hS, ⟨C.L.c, fun x hx => ?_⟩, fun x hx hSx => ?_, fun y hy hSy => ?_, C.e⟩
  · by_cases h : x = q
    · rw [h]; exact hS
    · exact C.L.b x (by omega)
  · rcases C.f x hx hSx with ⟨h1, h2⟩ | h
    · rw [h1, h2]
      exact ⟨hS, e2⟩
    · exact h
  · by_cases h : y = q
    · rw [h]; exact e3
    · exact C.p y hy hSy h
 intro m
 induction m with
 | zero =>
  intro q l S hq hc C
  by_cases hS : S q = true
  · exact stop q l S hq C hS
  · have := List.countP_pos_iff (p := fun x => !S x) (l := List.range n) |>.2 ⟨q, List.mem_range.2 hq, by simp [hS]⟩
    omega
 | succ m ih =>
  intro q l S hq hc C
  by_cases hS : S q = true
  · exact stop q l S hq C hS
  · have hS' : S q = false := by simpa using hS
    have hqi : i ≤ q := by
     apply Classical.byContradiction
     intro h
     exact hS (C.L.b q (by omega))
    have hsq := s.lt hq
    have hl1 : (up l q i) i = i := by
     show (if i = q then i else l i) = i
     rcases C.b with ⟨h, _⟩ | ⟨_, h, _⟩
     · rw [if_pos h.symm]
     · split
       · rfl
       · exact h
    have hs1 : (uS S q) i = true := by
     show (if i = q then true else S i) = true
     rcases C.b with ⟨h, _⟩ | ⟨h, _⟩
     · rw [if_pos h.symm]
     · split
       · rfl
       · exact h
    have hsub : ∀ x, S x = true → (uS S q) x = true := fun x hx => by
     show (if x = q then true else S x) = true
     split
     · rfl
     · exact hx
    have hlx : ∀ x, S x = true → (up l q i) x = l x := fun x hx => by
     show (if x = q then i else l x) = l x
     rw [if_neg (fun h => by rw [h] at hx; exact hS hx)]
    have hor : ∀ x, (uS S q) x = true → x = q ∨ S x = true := fun x hx => by
     by_cases h : x = q
     · exact .inl h
     · right
       have hx' : (if x = q then true else S x) = true := hx
       rw [if_neg h] at hx'
       exact hx'
    have L1 : Li n i (up l q i) (uS S q) := by
     refine ⟨fun x hx hSx => ?_, fun x hx => hsub x (C.L.b x hx)⟩
     rcases hor x hSx with h | h
     · subst h
       have e : (up l x i) x = i := if_pos rfl
       rw [e]
       exact ⟨hqi, hs1, hl1⟩
     · obtain ⟨q1, q2, q3⟩ := C.L.c x hx h
       rw [hlx x h]
       exact ⟨q1, hsub _ q2, by rw [hlx _ q2]; exact q3⟩
    have hqq : (uS S q) q = true := if_pos rfl
    have hlq : (up l q i) q = i := if_pos rfl
    have hC1 : Cm n i s (up l q i) (uS S q) (s.f q) := by
     refine ⟨L1, fun x hx hSx => ?_, fun y hy hSy hyi => ?_, fun x hx hSx => ?_, fun hSs => ?_, .inr ⟨hs1, hl1, q, hq, hqq, rfl⟩, C.o.tr (Eo.st q)⟩
     · rcases hor x hSx with h | h
       · subst h
         exact .inl ⟨rfl, hlq⟩
       · rcases C.f x hx h with ⟨h1, h2⟩ | ⟨h1, h2⟩
         · right
           rw [h1, hlx x h, h2]
           exact ⟨hqq, hlq⟩
         · right
           rw [hlx _ h1, hlx x h]
           exact ⟨hsub _ h1, h2⟩
     · rcases hor y hSy with h | h
       · subst h
         rcases C.b with ⟨h1, _⟩ | ⟨_, _, x, hx, hx1, hx2⟩
         · exact (hyi h1).elim
         · exact ⟨x, hx, hsub x hx1, hx2⟩
       · obtain ⟨x, hx, hx1, hx2⟩ := C.p y hy h hyi
         exact ⟨x, hx, hsub x hx1, hx2⟩
     · rcases hor x hSx with h | h
       · subst h
         rw [hlq]
         exact C.o.sy
       · rw [hlx x h]
         exact C.e x hx h
     · have hfi : s.f q = i := by
        apply Classical.byContradiction
        intro hne
        rcases hor _ hSs with h | h
        · rcases C.b with ⟨h1, _⟩ | ⟨_, _, x, hx, hx1, hx2⟩
          · rw [h, h1] at hne
            exact hne rfl
          · have : x = q := s.inj (by rw [hx2, h])
            rw [this] at hx1
            exact hS hx1
        · obtain ⟨x, hx, hx1, hx2⟩ := C.p _ hsq h hne
          have : x = q := s.inj hx2
          rw [this] at hx1
          exact hS hx1
       exact ⟨hfi, hl1, q, hq, hqq, hfi⟩
    have hc' : (List.range n).countP (fun x => !(uS S q) x) ≤ m := by
     have := Pm.countP_lt (p := fun x => !(uS S q) x) (q := fun x => !S x) (l := List.range n) (x := q) (fun y _ hy => by
      by_cases h : y = q
      · simp [h, uS] at hy
      · simpa [h, uS] using hy) (List.mem_range.2 hq) (by simp [uS]) (by simp [hS'])
     omega
    obtain ⟨l', S', r1, r2⟩ := ih (s.f q) _ _ hsq hc' hC1
    exact ⟨l', S', least_go n hn s.f l x1 S i q hi hq hsq hS' r1, r2⟩
theorem lb_11 (n : Nat) (hn : n ≤ 8) (s : Pm n) (x1 : List Int) : ∀ i, i ≤ n → ∀ (l : Nat → Nat) (S : Nat → Bool), Cl n i s l S →
  ∃ l' : Nat → Nat, R is_l07Least_11 [tA8 (sA s), tAi8 x1, tAi8 (A8 n l), tAB8 (Bo S), tI (n : Int), tI (i : Int)] = some [tI 0, tAi8 x1, tAi8 (A8 n l')] ∧ Lb n s l' := by
 refine up_loop _ (fun l S C => ?_) (fun i hi ih l S C => ?_)
 · have hS : ∀ x, x < n → S x = true := C.L.b
   refine ⟨l, ?_, fun x hx => ⟨(C.L.c x hx (hS x hx)).1, (C.L.c x hx (hS x hx)).2.2⟩, fun x hx => (C.f x hx (hS x hx)).2, fun x hx => C.e x hx (hS x hx)⟩
   apply vs_l07Least_11
   have h1 : ¬ ((n : Int) < (n : Int)) := by omega
   simp only [bs_l07Least_11, decide_eq_false h1, cond_false]
 · have hin : ∃ (l1 : Nat → Nat) (S1 : Nat → Bool), R is_l07Least_14 [tA8 (sA s), tAi8 x1, tAi8 (A8 n l), tAB8 (Bo S), tI (n : Int), tI (i : Int), tI (i : Int)] =
    some [tI 0, tA8 (sA s), tAi8 x1, tAi8 (A8 n l1), tAB8 (Bo S1), tI (n : Int), tI (i : Int)] ∧ Cl n (i + 1) s l1 S1 := by
    by_cases hS : S i = true
    · refine ⟨l, S, least_stop _ _ _ _ _ _ i (by omega) hS, ⟨C.L.c, fun x hx => ?_⟩, C.f, C.p, C.e⟩
      by_cases h : x = i
      · rw [h]; exact hS
      · exact C.L.b x (by omega)
    · have hS' : S i = false := by simpa using hS
      exact lb_14 n hn s x1 i hi _ i l S hi (Nat.le_refl _) ⟨C.L, fun x hx h => .inr (C.f x hx h), fun y hy h _ => C.p y hy h, C.e, fun h => (hS h).elim, .inl ⟨rfl, hS'⟩, Eo.re i⟩
   obtain ⟨l1, S1, r1, r2⟩ := hin
   obtain ⟨l', r3, r4⟩ := ih l1 S1 r2
   refine ⟨l', ?_, r4⟩
   apply vs_l07Least_11
   have h1 : ((i : Int) < (n : Int)) := by omega
   have w : wi64 ((i : Int) + 1) = ((i + 1 : Nat) : Int) := by rw [wrap_i64] <;> omega
   simp only [bs_l07Least_11, decide_eq_true h1, cond_true, r1, Option.bind_some, getTV_here, getTV_next, w, r3]
theorem lb_l07Least (n : Nat) (hn : n ≤ 8) (s : Pm n) : ∃ l : Nat → Nat, Lb n s l ∧ R is_l07Least [tA8 (sA s), tI (n : Int)] = some [tAi8 (A8 n l), tB true] := by
 have ha := sA_B8 hn s
 have h3 := c_l07Least_3 n hn _ ha (List.replicate 8 0) (List.replicate 8 0) 8 (List.replicate 8 false) (Nat.le_refl _) (by simp)
 rw [if_pos ((chk_sA hn ha).2 ⟨s, rfl⟩)] at h3
 simp only [Nat.sub_self, Int.natCast_zero] at h3
 obtain ⟨l, r1, r2⟩ := lb_11 n hn s (List.replicate 8 0) 0 (Nat.zero_le _) (fun _ => 0) (fun _ => false) ⟨⟨fun x _ h => by simp at h, fun x h => by omega⟩, fun x _ h => by simp at h, fun x _ h => by simp at h, fun x _ h => by simp at h⟩
 rw [← A8_zero, ← Bo_false] at r1
 simp only [Int.natCast_zero] at r1
 refine ⟨l, r2, ?_⟩
 apply vs_l07Least
 have c0 : ((0 : Int) == 0) = true := rfl
 simp only [bs_l07Least, h3, Option.bind_some, getTV_here, getTV_next, c0, cond_true, r1]
theorem lbl_ex (n : Nat) (hn : n ≤ 8) (s : Pm n) : ∃ l : Nat → Nat, Can n l ∧ R is_l07Least [tA8 (sA s), tI (n : Int)] = some [tAi8 (A8 n l), tB true] ∧ ∃ b, R ii_groupsOf [tA8 (sA s), tI (n : Int)] = some [tLI (Gl n l), tB b] := by
 obtain ⟨l, h1, h2⟩ := lb_l07Least n hn s
 obtain ⟨l', b, h3, h4⟩ := lb_groupsOf n hn s
 refine ⟨l, h1.can, h2, b, ?_⟩
 rw [h4, Gl_congr (fun x hx => h3.unique h1 hx)]
theorem meet_ex (n : Nat) (hn1 : 1 ≤ n) (hn : n ≤ 8) (s t : Pm n) : ∃ r : List Int, r.length = 8 ∧ R is_l07Meet [tA8 (sA s), tA8 (sA t), tI (n : Int)] = some [tA8 r] ∧ R ii_meetParts [tA8 (sA s), tA8 (sA t), tI (n : Int)] = some [tA8 r] := by
 obtain ⟨a, ha, a1, ba, a2⟩ := lbl_ex n hn s
 obtain ⟨b, hb, b1, bb, b2⟩ := lbl_ex n hn t
 refine ⟨A8 n (mdf n (lst a b)), A8_len _ _, ?_, ?_⟩
 · have h5 := c_l07Meet_5 n hn a b (List.replicate 8 0) n (Nat.le_refl _)
   have e : A8 n (fun x => if n ≤ x then lst a b x else 0) = List.replicate 8 0 := by
    rw [A8_zero n]
    apply A8_congr
    intro x hx
    rw [if_neg (by omega)]
   have w : wi64 ((n : Int) - 1) = (n : Int) - 1 := by rw [wrap_i64] <;> omega
   rw [e] at h5
   apply vs_l07Meet
   simp only [bs_l07Meet, a1, b1, Option.bind_some, getTV_here, getTV_next, w, h5, c_l07Made n hn _ (lst_can n a b)]
 · have h5 := c_meetParts_5 n hn a b (List.replicate 8 0) 0 (Nat.zero_le _)
   have e : Gl n (mi a b 0 0) = Gl n id := by
    apply Gl_congr
    intro x _
    unfold mi
    rw [if_neg (by omega)]
    by_cases h : x = 0
    · rw [if_pos h, if_neg (by omega), h]; rfl
    · rw [if_neg h]; rfl
   rw [e] at h5
   simp only [Int.natCast_zero] at h5
   apply vi_meetParts
   simp only [bi_meetParts, a2, b2, c_fineGroups n hn, Option.bind_some, getTV_here, getTV_next, h5, c_part n hn _ (lst_can n a b)]
end Go.Ev.Yteclcmiopobnaaa.P
namespace Go.Ev.Yteclcmiopobnaaa.P
open Go.Ev.Yteclcmiopobnaaa
open Go.Ev Go.Gar
def Xr (g : Nat → Nat) (a b c y : Nat) : Prop := g a = g c ∧ g b = g y ∧ g a ≠ g b
theorem c5_iff (g : Nat → Nat) (a b c : Nat) : ∀ d x, c5 g a b c d x = true ↔ ∃ y, x ≤ y ∧ y < x + d ∧ Xr g a b c y := by
 intro d
 induction d with
 | zero => intro x; simp only [c5]; exact ⟨fun h => Bool.noConfusion h, fun ⟨y, h1, h2, _⟩ => by omega⟩
 | succ d ih =>
  intro x
  rw [c5, Bool.or_eq_true, ih]
  constructor
  · rintro (h | ⟨y, h1, h2, h3⟩)
    · refine ⟨x, Nat.le_refl _, by omega, ?_⟩
      simp only [Bool.and_eq_true, decide_eq_true_eq, Bool.not_eq_true', decide_eq_false_iff_not] at h
      exact ⟨h.1.1, h.1.2, h.2⟩
    · exact ⟨y, by omega, by omega, h3⟩
  · rintro ⟨y, h1, h2, h3⟩
    by_cases h : y = x
    · left
      subst h
      simp only [Bool.and_eq_true, decide_eq_true_eq, Bool.not_eq_true', decide_eq_false_iff_not]
      exact ⟨⟨h3.1, h3.2.1⟩, h3.2.2⟩
    · exact .inr ⟨y, by omega, by omega, h3⟩
theorem c4_iff (n : Nat) (g : Nat → Nat) (a b : Nat) : ∀ d x, x + d = n → (c4 n g a b d x = true ↔ ∃ c y, x ≤ c ∧ c < y ∧ y < n ∧ Xr g a b c y) := by
 intro d
 induction d with
 | zero => intro x hx; simp only [c4]; exact ⟨fun h => Bool.noConfusion h, fun ⟨c, y, h1, h2, h3, _⟩ => by omega⟩
 | succ d ih =>
  intro x hx
  rw [c4, Bool.or_eq_true, ih (x + 1) (by omega), c5_iff]
  constructor
  · rintro (⟨y, h1, h2, h3⟩ | ⟨c, y, h1, h2, h3, h4⟩)
    · exact ⟨x, y, Nat.le_refl _, by omega, by omega, h3⟩
    · exact ⟨c, y, by omega, h2, h3, h4⟩
  · rintro ⟨c, y, h1, h2, h3, h4⟩
    by_cases h : c = x
    · subst h
      exact .inl ⟨y, by omega, by omega, h4⟩
    · exact .inr ⟨c, y, by omega, h2, h3, h4⟩
theorem c3_iff (n : Nat) (g : Nat → Nat) (a : Nat) : ∀ d x, x + d = n → (c3 n g a d x = true ↔ ∃ b c y, x ≤ b ∧ b < c ∧ c < y ∧ y < n ∧ Xr g a b c y) := by
 intro d
 induction d with
 | zero => intro x hx; simp only [c3]; exact ⟨fun h => Bool.noConfusion h, fun ⟨b, c, y, h1, h2, h3, h4, _⟩ => by omega⟩
 | succ d ih =>
  intro x hx
  rw [c3, Bool.or_eq_true, ih (x + 1) (by omega), c4_iff n g a x _ _ (by omega)]
  constructor
  · rintro (⟨c, y, h1, h2, h3, h4⟩ | ⟨b, c, y, h1, h2, h3, h4, h5⟩)
    · exact ⟨x, c, y, Nat.le_refl _, by omega, h2, h3, h4⟩
    · exact ⟨b, c, y, by omega, h2, h3, h4, h5⟩
  · rintro ⟨b, c, y, h1, h2, h3, h4, h5⟩
    by_cases h : b = x
    · subst h
      exact .inl ⟨c, y, by omega, h3, h4, h5⟩
    · exact .inr ⟨b, c, y, by omega, h2, h3, h4, h5⟩
theorem crs_iff (n : Nat) (g : Nat → Nat) : crs n g = true ↔ ∃ a b c y, a < b ∧ b < c ∧ c < y ∧ y < n ∧ Xr g a b c y := by
 have : ∀ d x, x + d = n → (c2 n g d x = true ↔ ∃ a b c y, x ≤ a ∧ a < b ∧ b < c ∧ c < y ∧ y < n ∧ Xr g a b c y) := by
  intro d
  induction d with
  | zero => intro x hx; simp only [c2]; exact ⟨fun h => Bool.noConfusion h, fun ⟨a, b, c, y, h1, h2, h3, h4, h5, _⟩ => by omega⟩
  | succ d ih =>
   intro x hx
   rw [c2, Bool.or_eq_true, ih (x + 1) (by omega), c3_iff n g x _ _ (by omega)]
   constructor
   · rintro (⟨b, c, y, h1, h2, h3, h4, h5⟩ | ⟨a, b, c, y, h1, h2, h3, h4, h5, h6⟩)
     · exact ⟨x, b, c, y, Nat.le_refl _, by omega, h2, h3, h4, h5⟩
     · exact ⟨a, b, c, y, by omega, h2, h3, h4, h5, h6⟩
   · rintro ⟨a, b, c, y, h1, h2, h3, h4, h5, h6⟩
     by_cases h : a = x
     · subst h
       exact .inl ⟨b, c, y, by omega, h3, h4, h5, h6⟩
     · exact .inr ⟨a, b, c, y, by omega, h2, h3, h4, h5, h6⟩
 unfold crs
 rw [this n 0 (by omega)]
 constructor
 · rintro ⟨a, b, c, y, _, h⟩; exact ⟨a, b, c, y, h⟩
 · rintro ⟨a, b, c, y, h⟩; exact ⟨a, b, c, y, Nat.zero_le _, h⟩
theorem no_cross {n : Nat} {g : Nat → Nat} (h : crs n g = false) {a b c y : Nat} (h1 : a < b) (h2 : b < c) (h3 : c < y) (h4 : y < n) (e1 : g a = g c) (e2 : g b = g y) : g a = g b := by
 apply Classical.byContradiction
 intro hne
 have := (crs_iff n g).2 ⟨a, b, c, y, h1, h2, h3, h4, e1, e2, hne⟩
 rw [h] at this
 exact Bool.noConfusion this
def Cz (n : Nat) (l : Nat → Nat) (z x : Nat) : Prop := ∀ u v, u < n → v < n → l u = l v → (z ≤ u ∧ u < x) → (z ≤ v ∧ v < x)
open Classical in
noncomputable def hs (n : Nat) (l : Nat → Nat) (x : Nat) : Nat → Nat → Nat
 | 0, z => z
 | d + 1, z => if Cz n l z x then z else hs n l x d (z + 1)
noncomputable def hl (n : Nat) (l : Nat → Nat) (x : Nat) : Nat := hs n l x x 0
end Go.Ev.Yteclcmiopobnaaa.P
namespace Go.Ev.Yteclcmiopobnaaa.P
open Go.Ev.Yteclcmiopobnaaa
open Go.Ev Go.Gar
theorem one_step {n i : Nat} (hi : i < n) (hn : n ≤ 8) : List.set (A8 n fun x => if x < i then x else 0) i (wu8 (i : Int)) = A8 n fun x => if x < i + 1 then x else 0 := by
 have w8 : wu8 (i : Int) = (i : Int) := by rw [wrap_u8] <;> omega
 rw [w8, A8_set hi hn]
 apply A8_congr
 intro x _
 by_cases h : x = i
 · rw [if_pos h, if_pos (by omega), h]
 · rw [if_neg h]
   by_cases h2 : x < i
   · rw [if_pos h2, if_pos (by omega)]
   · rw [if_neg h2, if_neg (by omega)]
theorem one_zero (n : Nat) : (A8 n fun x => if x < 0 then x else 0) = List.replicate 8 0 := by
 rw [A8_zero n]
 apply A8_congr
 intro x _
 rw [if_neg (by omega)]
theorem one_all (n : Nat) : (A8 n fun x => if x < n then x else 0) = sA (1 : Pm n) := A8_congr (fun x hx => if_pos hx)
theorem c_nothing_3 (n : Nat) (hn : n ≤ 8) (z : List Int) : ∀ i, i ≤ n → R ii_nothing_3 [tA8 z, tA8 (A8 n fun x => if x < i then x else 0), tI (n : Int), tI (i : Int)] = some [tI 0, tA8 z, tA8 (sA (1 : Pm n))] := by
 refine up_loop _ ?_ (fun i hi ih => ?_)
 · apply vi_nothing_3
   have h1 : ¬ ((n : Int) < (n : Int)) := by omega
   simp only [bi_nothing_3, decide_eq_false h1, cond_false, one_all]
 · apply vi_nothing_3
   have v1 : decide ((i : Int) < (n : Int)) = true := decide_eq_true (by omega)
   have v2 : decide ((0 : Int) ≤ (i : Int)) = true := decide_eq_true (by omega)
   have v3 : decide ((i : Int) < 8) = true := decide_eq_true (by omega)
   have w : wi64 ((i : Int) + 1) = ((i + 1 : Nat) : Int) := by rw [wrap_i64] <;> omega
   simp only [bi_nothing_3, v1, v2, v3, cond_true, Bool.and_true, Int.toNat_natCast, one_step hi hn, w, ih]
theorem c_finePart (n : Nat) (hn : n ≤ 8) : R ii_finePart [tI (n : Int)] = some [tA8 (sA (1 : Pm n))] := by
 have h := c_nothing_3 n hn (List.replicate 8 0) 0 (Nat.zero_le _)
 rw [one_zero] at h
 simp only [Int.natCast_zero] at h
 have h2 : R ii_nothing [tI (n : Int)] = some [tA8 (sA (1 : Pm n))] := by
  apply vi_nothing
  simp only [bi_nothing, h, Option.bind_some, getTV_here, getTV_next]
 apply vi_finePart
 simp only [bi_finePart, h2, Option.bind_some, getTV_here]
theorem c_l01Strands_3 (n : Nat) (hn : n ≤ 8) (l z : List Int) : ∀ i, i ≤ n → R is_l01Strands_3 [tLI l, tA8 z, tA8 (A8 n fun x => if x < i then x else 0), tI (n : Int), tI (i : Int)] = some [tI 0, tLI l, tA8 z, tA8 (sA (1 : Pm n))] := by
 refine up_loop _ ?_ (fun i hi ih => ?_)
 · apply vs_l01Strands_3
   have h1 : ¬ ((n : Int) < (n : Int)) := by omega
   simp only [bs_l01Strands_3, decide_eq_false h1, cond_false, one_all]
 · apply vs_l01Strands_3
   have v1 : decide ((i : Int) < (n : Int)) = true := decide_eq_true (by omega)
   have v2 : decide ((0 : Int) ≤ (i : Int)) = true := decide_eq_true (by omega)
   have v3 : decide ((i : Int) < 8) = true := decide_eq_true (by omega)
   have w : wi64 ((i : Int) + 1) = ((i + 1 : Nat) : Int) := by rw [wrap_i64] <;> omega
   simp only [bs_l01Strands_3, v1, v2, v3, cond_true, Bool.and_true, Int.toNat_natCast, one_step hi hn, w, ih]
theorem c_l01Perm_3 (n : Nat) (hn : n ≤ 8) (z : List Int) : ∀ i, i ≤ n → R is_l01Perm_3 [tA8 z, tA8 (sA (1 : Pm n)), tA8 (A8 n fun x => if x < i then x else 0), tI (n : Int), tI (i : Int)] = some [tI 0, tA8 z, tA8 (sA (1 : Pm n))] := by
 refine up_loop _ ?_ (fun i hi ih => ?_)
 · apply vs_l01Perm_3
   have h1 : ¬ ((n : Int) < (n : Int)) := by omega
   simp only [bs_l01Perm_3, decide_eq_false h1, cond_false, one_all]
 · apply vs_l01Perm_3
   have v1 : decide ((i : Int) < (n : Int)) = true := decide_eq_true (by omega)
   have v2 : decide ((0 : Int) ≤ (i : Int)) = true := decide_eq_true (by omega)
   have v3 : decide ((i : Int) < 8) = true := decide_eq_true (by omega)
   have w : wi64 ((i : Int) + 1) = ((i + 1 : Nat) : Int) := by rw [wrap_i64] <;> omega
   have hg : List.getD (sA (1 : Pm n)) i 0 = (i : Int) := sA_get hi hn
   simp only [bs_l01Perm_3, v1, v2, v3, cond_true, Bool.and_true, Int.toNat_natCast, hg, one_step hi hn, w, ih]
theorem c_l07Fine (n : Nat) (hn : n ≤ 8) : R is_l07Fine [tI (n : Int)] = some [tA8 (sA (1 : Pm n))] := by
 have h := c_l01Strands_3 n hn [] (List.replicate 8 0) 0 (Nat.zero_le _)
 have h' := c_l01Perm_3 n hn (List.replicate 8 0) 0 (Nat.zero_le _)
 rw [one_zero] at h h'
 simp only [Int.natCast_zero] at h h'
 have h7 : R is_l01Strands_7 [tLI [], tA8 (List.replicate 8 0), tA8 (sA (1 : Pm n)), tI 0] = some [tI 0, tA8 (List.replicate 8 0), tA8 (sA (1 : Pm n))] := by
  apply vs_l01Strands_7
  simp [bs_l01Strands_7]
 have h2 : R is_l01Strands [tI (n : Int), tLI []] = some [tA8 (sA (1 : Pm n))] := by
  apply vs_l01Strands
  simp only [bs_l01Strands, h, h7, Option.bind_some, getTV_here, getTV_next]
 have h3 : R is_l01Perm [tI (n : Int), tLI []] = some [tA8 (sA (1 : Pm n))] := by
  apply vs_l01Perm
  simp only [bs_l01Perm, h2, h', Option.bind_some, getTV_here, getTV_next]
 apply vs_l07Fine
 simp only [bs_l07Fine, h3, Option.bind_some, getTV_here]
theorem bne_ll (a b : List Int) : (a != b) = !decide (a = b) := by rw [Bool.eq_iff_iff]; simp
theorem dual_loop (n : Nat) (hn1 : 1 ≤ n) (hn : n ≤ 8) (L : List (List Int)) (hL : ∀ x ∈ L, B8 x) (hl : L.length ≤ 1000000) (x0 x1 : Int) : ∀ i, i ≤ L.length → (∀ j (hj : j < L.length), j + 1 = i → isPt L[j] (n : Int) = true) →
  ∃ r : List TV, R is_l07Dual_5 [tI x0, tI x1, tLA8 L, tI (n : Int), tI (i : Int)] = some r ∧ R ii_IsDual_5 [tI x0, tI x1, tLA8 L, tI (n : Int), tI (L.length : Int), tI (i : Int)] = some r ∧ ((r = [tI 0] ∧ ∀ j (hj : j < L.length), i ≤ j → isPt L[j] (n : Int) = true) ∨ r = [tI 1, tB false]) := by
 refine up_loop _ (fun _ => ?_) (fun i hi ih hpre => ?_)
 · refine ⟨[tI 0], ?_, ?_, .inl ⟨rfl, fun j hj h => by omega⟩⟩
   · apply vs_l07Dual_5
     have h1 : ¬ ((L.length : Int) < (L.length : Int)) := by omega
     simp only [bs_l07Dual_5, decide_eq_false h1, cond_false]
   · apply vi_IsDual_5
     have h1 : ¬ ((L.length : Int) < (L.length : Int)) := by omega
     simp only [bi_IsDual_5, decide_eq_false h1, cond_false]
 · have v1 : decide ((i : Int) < (L.length : Int)) = true := decide_eq_true (by omega)
   have v2 : decide ((0 : Int) ≤ (i : Int)) = true := decide_eq_true (by omega)
   have w : wi64 ((i : Int) + 1) = ((i + 1 : Nat) : Int) := by rw [wrap_i64] <;> omega
   have gd : List.getD L i (List.replicate 8 0) = L[i] := by simp [List.getD_eq_getElem?_getD, List.getElem?_eq_getElem hi]
   have hB := hL L[i] (List.getElem_mem hi)
   by_cases hp : isPt L[i] (n : Int) = true
   · by_cases h1 : L[i] = sA (1 : Pm n)
     · refine ⟨[tI 1, tB false], ?_, ?_, .inr rfl⟩
       · apply vs_l07Dual_5
         simp only [bs_l07Dual_5, v1, v2, cond_true, Bool.and_true, Int.toNat_natCast, gd, c_l07Is _ hB, hp, Option.bind_some, getTV_here, Bool.not_true, cond_false, c_l07Fine n hn, beq_ll, decide_eq_true h1]
       · apply vi_IsDual_5
         simp only [bi_IsDual_5, v1, v2, cond_true, Bool.and_true, Int.toNat_natCast, gd, c_IsPart _ hB, hp, Option.bind_some, getTV_here, Bool.not_true, cond_false, c_finePart n hn, beq_ll, decide_eq_true h1]
     · by_cases h2 : L[i] = sA (whP n)
       · refine ⟨[tI 1, tB false], ?_, ?_, .inr rfl⟩
         · apply vs_l07Dual_5
           simp only [bs_l07Dual_5, v1, v2, cond_true, Bool.and_true, Int.toNat_natCast, gd, c_l07Is _ hB, hp, Option.bind_some, getTV_here, Bool.not_true, cond_false, c_l07Fine n hn, beq_ll, decide_eq_false h1, c_l07Whole n hn, decide_eq_true h2]
         · apply vi_IsDual_5
           simp only [bi_IsDual_5, v1, v2, cond_true, Bool.and_true, Int.toNat_natCast, gd, c_IsPart _ hB, hp, Option.bind_some, getTV_here, Bool.not_true, cond_false, c_finePart n hn, beq_ll, decide_eq_false h1, c_wholePart n hn, decide_eq_true h2]
       · obtain ⟨r, r1, r2, r3⟩ := ih (fun j hj hji => by
          have : j = i := by omega
          subst this
          exact hp)
         have r3 : (r = [tI 0] ∧ ∀ j (hj : j < L.length), i ≤ j → isPt L[j] (n : Int) = true) ∨ r = [tI 1, tB false] := by
          rcases r3 with ⟨q1, q2⟩ | q1
          · refine .inl ⟨q1, fun j hj hij => ?_⟩
            by_cases e : j = i
            · subst e; exact hp
            · exact q2 j hj (by omega)
          · exact .inr q1
         by_cases h0 : i = 0
         · have v3 : decide ((0 : Int) < (i : Int)) = false := decide_eq_false (by omega)
           refine ⟨r, ?_, ?_, r3⟩
           · apply vs_l07Dual_5
             simp only [bs_l07Dual_5, v1, v2, v3, cond_true, Bool.and_true, Int.toNat_natCast, gd, c_l07Is _ hB, hp, Option.bind_some, getTV_here, Bool.not_true, cond_false, c_l07Fine n hn, beq_ll, decide_eq_false h1, c_l07Whole n hn, decide_eq_false h2, w, r1]
           · apply vi_IsDual_5
             simp only [bi_IsDual_5, v1, v2, v3, cond_true, Bool.and_true, Int.toNat_natCast, gd, c_IsPart _ hB, hp, Option.bind_some, getTV_here, Bool.not_true, cond_false, c_finePart n hn, beq_ll, decide_eq_false h1, c_wholePart n hn, decide_eq_false h2, w, r2]
         · obtain ⟨j, rfl⟩ : ∃ j, i = j + 1 := ⟨i - 1, by omega⟩
           have hj : j < L.length := by omega
           have v3 : decide ((0 : Int) < ((j + 1 : Nat) : Int)) = true := decide_eq_true (by omega)
           have w0 : wi64 (((j + 1 : Nat) : Int) - 1) = (j : Int) := by rw [wrap_i64] <;> omega
           have v4 : decide ((0 : Int) ≤ (j : Int)) = true := decide_eq_true (by omega)
           have v5 : decide ((j : Int) < (L.length : Int)) = true := decide_eq_true (by omega)
           have gd' : List.getD L j (List.replicate 8 0) = L[j] := by simp [List.getD_eq_getElem?_getD, List.getElem?_eq_getElem hj]
           have hpj := hpre j hj rfl
           obtain ⟨s, hs⟩ : ∃ s : Pm n, L[j] = sA s := by
            rcases isPt_cases L[j] (n : Int) with h | ⟨_, m, _, s, _, _, hm, _, _, _, hs⟩
            · rw [h] at hpj; exact Bool.noConfusion hpj
            · have : n = m := by omega
              subst this
              exact ⟨s, hs⟩
           obtain ⟨t, ht⟩ : ∃ t : Pm n, L[j + 1] = sA t := by
            rcases isPt_cases L[j + 1] (n : Int) with h | ⟨_, m, _, s, _, _, hm, _, _, _, hs⟩
            · rw [h] at hp; exact Bool.noConfusion hp
            · have : n = m := by omega
              subst this
              exact ⟨s, hs⟩
           obtain ⟨x, hx8, m1, m2⟩ := meet_ex n hn1 hn (s⁻¹ * whP n) t
           have e1 : R is_l07Complement [tA8 L[j], tI (n : Int)] = some [tA8 (sA (s⁻¹ * whP n))] := by rw [hs]; exact c_l07Complement n hn s
           have e2 : R ii_complementPart [tA8 L[j], tI (n : Int)] = some [tA8 (sA (s⁻¹ * whP n))] := by rw [hs]; exact c_complementPart n hn s
           rw [← ht] at m1 m2
           by_cases h3 : x = sA (1 : Pm n)
           · refine ⟨r, ?_, ?_, r3⟩
             · apply vs_l07Dual_5
               simp only [bs_l07Dual_5, v1, v2, v3, v4, v5, w0, cond_true, Bool.and_true, Int.toNat_natCast, gd, gd', c_l07Is _ hB, hp, Option.bind_some, getTV_here, Bool.not_true, cond_false, c_l07Fine n hn, beq_ll, bne_ll, decide_eq_false h1, c_l07Whole n hn, decide_eq_false h2, e1, m1, decide_eq_true h3, w, r1]
             · apply vi_IsDual_5
               simp only [bi_IsDual_5, v1, v2, v3, v4, v5, w0, cond_true, Bool.and_true, Int.toNat_natCast, gd, gd', c_IsPart _ hB, hp, Option.bind_some, getTV_here, Bool.not_true, cond_false, c_finePart n hn, beq_ll, bne_ll, decide_eq_false h1, c_wholePart n hn, decide_eq_false h2, e2, m2, decide_eq_true h3, w, r2]
           · refine ⟨[tI 1, tB false], ?_, ?_, .inr rfl⟩
             · apply vs_l07Dual_5
               simp only [bs_l07Dual_5, v1, v2, v3, v4, v5, w0, cond_true, Bool.and_true, Int.toNat_natCast, gd, gd', c_l07Is _ hB, hp, Option.bind_some, getTV_here, Bool.not_true, Bool.not_false, cond_false, c_l07Fine n hn, beq_ll, bne_ll, decide_eq_false h1, c_l07Whole n hn, decide_eq_false h2, e1, m1, decide_eq_false h3]
             · apply vi_IsDual_5
               simp only [bi_IsDual_5, v1, v2, v3, v4, v5, w0, cond_true, Bool.and_true, Int.toNat_natCast, gd, gd', c_IsPart _ hB, hp, Option.bind_some, getTV_here, Bool.not_true, Bool.not_false, cond_false, c_finePart n hn, beq_ll, bne_ll, decide_eq_false h1, c_wholePart n hn, decide_eq_false h2, e2, m2, decide_eq_false h3]
   · have hp' : isPt L[i] (n : Int) = false := by simpa using hp
     refine ⟨[tI 1, tB false], ?_, ?_, .inr rfl⟩
     · apply vs_l07Dual_5
       simp only [bs_l07Dual_5, v1, v2, cond_true, Bool.and_true, Int.toNat_natCast, gd, c_l07Is _ hB, hp', Option.bind_some, getTV_here, Bool.not_false]
     · apply vi_IsDual_5
       simp only [bi_IsDual_5, v1, v2, cond_true, Bool.and_true, Int.toNat_natCast, gd, c_IsPart _ hB, hp', Option.bind_some, getTV_here, Bool.not_false]
theorem dual_strong (a : Int × Int × List (List Int)) (hL : ∀ x ∈ a.2.2, B8 x) (hl : a.2.2.length ≤ 1048576) : ∃ b : Bool, R is_l07Dual [tPIPILA8 a] = some [tB b] ∧ R ii_IsDual [tPIPILA8 a] = some [tB b] ∧ (b = true → 1 ≤ a.1 ∧ a.1 ≤ 8 ∧ -400 ≤ a.2.1 ∧ a.2.1 ≤ 400 ∧ a.2.2.length ≤ 400 ∧ ∀ x ∈ a.2.2, isPt x a.1 = true) := by
 have hct : R ii_isCount [tI a.1] = some [tB (decide (1 ≤ a.1) && decide (a.1 ≤ 8))] := by
  apply vi_isCount
  simp only [bi_isCount, c_within, Option.bind_some, getTV_here]
 by_cases h1 : (decide (1 ≤ a.1) && decide (a.1 ≤ 8)) = true
 · by_cases h2 : (decide (-400 ≤ a.2.1) && decide (a.2.1 ≤ 400)) = true
   · by_cases h3 : (400 : Int) < (a.2.2.length : Int)
     · refine ⟨false, ?_, ?_, fun h => Bool.noConfusion h⟩
       · apply vs_l07Dual
         simp only [bs_l07Dual, c_l01In, h1, h2, Option.bind_some, getTV_here, Bool.not_true, cond_false, decide_eq_true h3, cond_true]
       · apply vi_IsDual
         simp only [bi_IsDual, hct, c_within, h1, h2, Option.bind_some, getTV_here, Bool.not_true, cond_false, decide_eq_true h3, cond_true]
     · have hb : 1 ≤ a.1 ∧ a.1 ≤ 8 := by simpa using h1
       obtain ⟨n, hn⟩ : ∃ n : Nat, a.1 = n := ⟨a.1.toNat, by omega⟩
       obtain ⟨r, r1, r2, r3⟩ := dual_loop n (by omega) (by omega) a.2.2 hL (by omega) a.1 a.2.1 0 (Nat.zero_le _) (fun j _ h => by omega)
       rw [← hn] at r1 r2
       simp only [Int.natCast_zero] at r1 r2
       have c0 : ((0 : Int) == 0) = true := rfl
       have c1 : ((1 : Int) == 0) = false := rfl
       have go : ∃ b : Bool, (b = true → ∀ x ∈ a.2.2, isPt x a.1 = true) ∧ ((if a.1 = 1 ∧ a.2.1 ≠ 0 then false else true) = true → (R is_l07Dual [tPIPILA8 a] = some [tB b] ∧ R ii_IsDual [tPIPILA8 a] = some [tB b])) := by
        rcases r3 with ⟨rfl, hall⟩ | rfl
        · refine ⟨true, fun _ x hx => ?_, fun hc => ⟨?_, ?_⟩⟩
          · obtain ⟨j, hj, rfl⟩ := List.mem_iff_getElem.1 hx
            rw [hn]
            exact hall j hj (Nat.zero_le _)
          · apply vs_l07Dual
            by_cases hx : a.1 = 1
            · have hy : a.2.1 = 0 := by
               apply Classical.byContradiction
               intro hne
               rw [if_pos ⟨hx, hne⟩] at hc
               exact Bool.noConfusion hc
              have hx' : a.1 < 2 := by omega
              simp only [bs_l07Dual, c_l01In, h1, h2, Option.bind_some, getTV_here, Bool.not_true, cond_false, decide_eq_false h3, decide_eq_true hx', cond_true, bne_dec, decide_eq_true hy, r1, c0]
            · have hx' : ¬ a.1 < 2 := by omega
              simp only [bs_l07Dual, c_l01In, h1, h2, Option.bind_some, getTV_here, Bool.not_true, cond_false, decide_eq_false h3, decide_eq_false hx', cond_true, r1, c0]
          · apply vi_IsDual
            by_cases hx : a.1 = 1
            · have hy : a.2.1 = 0 := by
               apply Classical.byContradiction
               intro hne
               rw [if_pos ⟨hx, hne⟩] at hc
               exact Bool.noConfusion hc
              simp only [bi_IsDual, hct, c_within, h1, h2, Option.bind_some, getTV_here, Bool.not_true, cond_false, decide_eq_false h3, beq_dec a.1, decide_eq_true hx, cond_true, bne_dec, decide_eq_true hy, r2, c0]
            · simp only [bi_IsDual, hct, c_within, h1, h2, Option.bind_some, getTV_here, Bool.not_true, cond_false, decide_eq_false h3, beq_dec a.1, decide_eq_false hx, cond_true, r2, c0]
        · refine ⟨false, fun h => Bool.noConfusion h, fun hc => ⟨?_, ?_⟩⟩
          · apply vs_l07Dual
            by_cases hx : a.1 = 1
            · have hy : a.2.1 = 0 := by
               apply Classical.byContradiction
               intro hne
               rw [if_pos ⟨hx, hne⟩] at hc
               exact Bool.noConfusion hc
              have hx' : a.1 < 2 := by omega
              simp only [bs_l07Dual, c_l01In, h1, h2, Option.bind_some, getTV_here, getTV_next, Bool.not_true, cond_false, decide_eq_false h3, decide_eq_true hx', cond_true, bne_dec, decide_eq_true hy, r1, c1]
            · have hx' : ¬ a.1 < 2 := by omega
              simp only [bs_l07Dual, c_l01In, h1, h2, Option.bind_some, getTV_here, getTV_next, Bool.not_true, cond_false, decide_eq_false h3, decide_eq_false hx', cond_true, r1, c1]
          · apply vi_IsDual
            by_cases hx : a.1 = 1
            · have hy : a.2.1 = 0 := by
               apply Classical.byContradiction
               intro hne
               rw [if_pos ⟨hx, hne⟩] at hc
               exact Bool.noConfusion hc
              simp only [bi_IsDual, hct, c_within, h1, h2, Option.bind_some, getTV_here, getTV_next, Bool.not_true, cond_false, decide_eq_false h3, beq_dec a.1, decide_eq_true hx, cond_true, bne_dec, decide_eq_true hy, r2, c1]
            · simp only [bi_IsDual, hct, c_within, h1, h2, Option.bind_some, getTV_here, getTV_next, Bool.not_true, cond_false, decide_eq_false h3, beq_dec a.1, decide_eq_false hx, cond_true, r2, c1]
       by_cases hc : a.1 = 1 ∧ a.2.1 ≠ 0
       · have hx' : a.1 < 2 := by omega
         refine ⟨false, ?_, ?_, fun h => Bool.noConfusion h⟩
         · apply vs_l07Dual
           simp only [bs_l07Dual, c_l01In, h1, h2, Option.bind_some, getTV_here, Bool.not_true, Bool.not_false, cond_false, decide_eq_false h3, decide_eq_true hx', cond_true, bne_dec, decide_eq_false hc.2]
         · apply vi_IsDual
           simp only [bi_IsDual, hct, c_within, h1, h2, Option.bind_some, getTV_here, Bool.not_true, Bool.not_false, cond_false, decide_eq_false h3, beq_dec a.1, decide_eq_true hc.1, cond_true, bne_dec, decide_eq_false hc.2]
       · obtain ⟨b, hb0, hb1⟩ := go
         obtain ⟨k1, k2⟩ := hb1 (if_neg hc)
         have hp : -400 ≤ a.2.1 ∧ a.2.1 ≤ 400 := by simpa using h2
         exact ⟨b, k1, k2, fun e => ⟨hb.1, hb.2, hp.1, hp.2, by omega, hb0 e⟩⟩
   · have h2' : (decide (-400 ≤ a.2.1) && decide (a.2.1 ≤ 400)) = false := by simpa using h2
     refine ⟨false, ?_, ?_, fun h => Bool.noConfusion h⟩
     · apply vs_l07Dual
       simp only [bs_l07Dual, c_l01In, h1, h2', Option.bind_some, getTV_here, Bool.not_true, Bool.not_false, cond_false, cond_true]
     · apply vi_IsDual
       simp only [bi_IsDual, hct, c_within, h1, h2', Option.bind_some, getTV_here, Bool.not_true, Bool.not_false, cond_false, cond_true]
 · have h1' : (decide (1 ≤ a.1) && decide (a.1 ≤ 8)) = false := by simpa using h1
   refine ⟨false, ?_, ?_, fun h => Bool.noConfusion h⟩
   · apply vs_l07Dual
     simp only [bs_l07Dual, c_l01In, h1', Option.bind_some, getTV_here, Bool.not_false, cond_true]
   · apply vi_IsDual
     simp only [bi_IsDual, hct, h1', Option.bind_some, getTV_here, Bool.not_false, cond_true]
theorem dual_both (a : Int × Int × List (List Int)) (hL : ∀ x ∈ a.2.2, B8 x) (hl : a.2.2.length ≤ 1048576) : ∃ b : Bool, R is_IsDual [tPIPILA8 a] = some [tB b] ∧ R ii_IsDual [tPIPILA8 a] = some [tB b] := by
 obtain ⟨b, h1, h2, _⟩ := dual_strong a hL hl
 refine ⟨b, ?_, h2⟩
 apply vs_IsDual
 have h1' : R is_l07Dual [tPIPILA8 (a.1, a.2.1, a.2.2)] = some [tB b] := h1
 simp only [bs_IsDual, h1', Option.bind_some, getTV_here]
end Go.Ev.Yteclcmiopobnaaa.P
