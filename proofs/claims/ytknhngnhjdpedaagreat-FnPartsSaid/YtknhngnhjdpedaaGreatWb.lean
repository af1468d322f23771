/- Texts merged: Mp1 Mp2 Mp3 Mp4 Mp5 Mp6 Mp7 Mp9 Mp10 Mp11 Mp8 Mp12. -/
import Derived.Test.YtknhngnhjdpedaaGreatWa
set_option linter.unusedVariables false
set_option linter.unusedSimpArgs false
namespace Go.Ev.YtknhngnhjdpedaaGreat
open Go.Ev
def dnL (b : Int) : Nat → List Int
 | 0 => []
 | d + 1 => (b + d + 1) :: dnL b d
theorem zF5 (b : Int) : ∀ d, (dnL b d).length = d
 | 0 => rfl
 | d + 1 => by simp [dnL, zF5 b d]
theorem zNI (b : Int) : ∀ d, dnL (b + 1) d ++ [b + 1] = dnL b (d + 1)
 | 0 => by simp [dnL]
 | d + 1 => by
  rw [dnL, List.cons_append, zNI b d]; simp only [dnL]; congr 1; omega
def upL (x : Int) : Nat → List Int
 | 0 => []
 | d + 1 => (-x) :: upL (x + 1) d
theorem zLb : ∀ (d : Nat) (x : Int), (upL x d).length = d
 | 0, x => rfl
 | d + 1, x => by simp [upL, zLb d]
theorem zQq (p b : Int) (hb : 0 ≤ b) (hb' : b ≤ 100) : ∀ (d : Nat) (l : List Int), d ≤ 100 → l.length + d ≤ 1000 → R zFO [tLI l, tI p, tI b, tI (b + d)] = some [tI 0, tLI (l ++ dnL b d), tI p, tI b] := by
 intro d
 induction d with
 | zero =>
  intro l _ _; apply zKU; simp [zFf, dnL]
 | succ d ih =>
  intro l hd hl; apply zKU; have h1 : b < b + ((d + 1 : Nat) : Int) := by omega
  have w : wi64 (b + ((d + 1 : Nat) : Int) - 1) = b + (d : Int) := by rw [zB] <;> omega
  have ap : apOk l [b + ((d + 1 : Nat) : Int)] = true := zG3 (by omega); simp only [zFf, decide_eq_true h1, cond_true, ap, w]; rw [ih _ (by omega) (by simp; omega), show b + ((d + 1 : Nat) : Int) = b + d + 1 by omega, List.append_assoc]
  rfl
theorem zMV (p b : Int) (hb : 0 ≤ b) (hb' : b ≤ 100) : ∀ (d : Nat) (l : List Int), d ≤ 100 → l.length + d ≤ 1000 → R zB2 [tLI l, tI p, tI b, tI (b + 1 + d)] = some [tI 0, tLI (l ++ dnL (b + 1) d), tI p, tI b] := by
 intro d; have wb : wi64 (b + 1) = b + 1 := by rw [zB] <;> omega
 induction d with
 | zero =>
  intro l _ _; apply zGT; simp [zCC, dnL, wb]
 | succ d ih =>
  intro l hd hl; apply zGT; have h1 : b + 1 < b + 1 + ((d + 1 : Nat) : Int) := by omega
  have w : wi64 (b + 1 + ((d + 1 : Nat) : Int) - 1) = b + 1 + (d : Int) := by rw [zB] <;> omega
  have ap : apOk l [b + 1 + ((d + 1 : Nat) : Int)] = true := zG3 (by omega); simp only [zCC, wb, decide_eq_true h1, cond_true, ap, w]; rw [ih _ (by omega) (by simp; omega), show b + 1 + ((d + 1 : Nat) : Int) = b + 1 + d + 1 by omega, List.append_assoc]
  rfl
theorem zQp (p : Int) (hp : p ≤ 100) : ∀ (d : Nat) (x : Int) (l : List Int), 0 ≤ x → x + d = p + 1 → l.length + d ≤ 1000 → R zFN [tLI l, tI p, tI x] = some [tI 0, tLI (l ++ upL x d)] := by
 intro d
 induction d with
 | zero =>
  intro x l hx hxd _; apply zKT; have h1 : ¬ x ≤ p := by omega
  simp [zFe, upL, h1]
 | succ d ih =>
  intro x l hx hxd hl; apply zKT; have h1 : x ≤ p := by omega
  have w : wi64 (x + 1) = x + 1 := by rw [zB] <;> omega
  have w0 : wi64 (0 - x) = -x := by rw [zB] <;> omega
  have ap : apOk l [-x] = true := zG3 (by omega); simp only [zFe, decide_eq_true h1, cond_true, w0, ap, w]; rw [ih (x + 1) _ (by omega) (by omega) (by simp; omega), List.append_assoc]
  rfl
theorem zMU (p : Int) (hp : p ≤ 100) : ∀ (d : Nat) (x : Int) (l : List Int), 0 ≤ x → x + d = p + 1 → l.length + d ≤ 1000 → R zB1 [tLI l, tI p, tI x] = some [tI 0, tLI (l ++ upL x d)] := by
 intro d
 induction d with
 | zero =>
  intro x l hx hxd _; apply zGS; have h1 : ¬ x ≤ p := by omega
  simp [zCB, upL, h1]
 | succ d ih =>
  intro x l hx hxd hl; apply zGS; have h1 : x ≤ p := by omega
  have w : wi64 (x + 1) = x + 1 := by rw [zB] <;> omega
  have w0 : wi64 (0 - x) = -x := by rw [zB] <;> omega
  have ap : apOk l [-x] = true := zG3 (by omega); simp only [zCB, decide_eq_true h1, cond_true, w0, ap, w]; rw [ih (x + 1) _ (by omega) (by omega) (by simp; omega), List.append_assoc]
  rfl
def bandL (p b : Int) : List Int := dnL b (p - b).toNat ++ upL (b + 2) (p - b - 1).toNat
theorem zIT (p b : Int) (h : b < p) (hp : p ≤ 100) (hb : 0 ≤ b) : (bandL p b).length ≤ 200 := by
 unfold bandL; rw [List.length_append, zF5, zLb]; omega
theorem zRT (p b : Int) (hb : 0 ≤ b) (h : b < p) (hp : p ≤ 100) : R zJu [tI p, tI b] = some [tLI (bandL p b)] := by
 apply zRk; have h3 := zQq p b hb (by omega) (p - b).toNat [] (by omega) (by simp; omega); rw [show b + (((p - b).toNat : Nat) : Int) = p by omega] at h3; have w : wi64 (b + 2) = b + 2 := by rw [zB] <;> omega
 have h7 := zQp p hp (p - b - 1).toNat (b + 2) (dnL b (p - b).toNat) (by omega) (by omega) (by rw [zF5]; omega); simp only [List.nil_append] at h3; simp only [zMg, h3, Option.bind_some, getTV_here, getTV_next, w, h7]
 rfl
theorem zPu (p b : Int) (hb : 0 ≤ b) (h : b < p) (hp : p ≤ 100) : R zF1 [tI p, tI b] = some [tLI (bandL p b)] := by
 apply zNc; have h3 := zMV p b hb (by omega) (p - b - 1).toNat [] (by omega) (by simp; omega); rw [show b + 1 + (((p - b - 1).toNat : Nat) : Int) = p by omega] at h3; have w : wi64 (b + 2) = b + 2 := by rw [zB] <;> omega
 have w1 : wi64 (b + 1) = b + 1 := by rw [zB] <;> omega
 have hs : dnL (b + 1) (p - b - 1).toNat ++ [b + 1] = dnL b (p - b).toNat := by
  rw [zNI]; congr 1; omega
 have h7 := zMU p hp (p - b - 1).toNat (b + 2) (dnL b (p - b).toNat) (by omega) (by omega) (by rw [zF5]; omega); have ap : apOk (dnL (b + 1) (p - b - 1).toNat) [b + 1] = true := zG3 (by rw [zF5]; omega); simp only [List.nil_append] at h3; simp only [zGF, h3, Option.bind_some, getTV_here, getTV_next, w, w1, ap, cond_true, hs, h7]
 rfl
def vBand (n p b : Int) : (Int × List Int) × Int := if 2 ≤ n ∧ n ≤ 8 ∧ 1 ≤ p ∧ p ≤ n - 1 ∧ 0 ≤ b ∧ b ≤ p - 1 then ((n, bandL p b), 0) else ((0, []), 2)
theorem zOh (n p b : Int) : (vBand n p b).1.2.length ≤ 200 := by
 unfold vBand
 split
 · rename_i h; exact zIT p b (by omega) (by omega) (by omega)
 · simp
theorem zOP (n p b : Int) : R zHo [tI n, tI p, tI b] = some [jE (vBand n p b).1, tI (vBand n p b).2] := by
 apply zOZ; simp only [zIG, zEg, Option.bind_some, getTV_here, vBand]
 by_cases h1 : 2 ≤ n ∧ n ≤ 8
 · have w : wi64 (n - 1) = n - 1 := by rw [zB] <;> omega
   have x1 := h1.1; have x2 := h1.2
   by_cases h2 : 1 ≤ p ∧ p ≤ n - 1
   · have w2 : wi64 (p - 1) = p - 1 := by rw [zB] <;> omega
     have y1 := h2.1; have y2 := h2.2
     by_cases h3 : 0 ≤ b ∧ b ≤ p - 1
     · have z1 := h3.1; have z2 := h3.2; simp only [w, w2, decide_eq_true x1, decide_eq_true x2, decide_eq_true y1, decide_eq_true y2, decide_eq_true z1, decide_eq_true z2, Bool.and_true, Bool.not_true, cond_false, zPu p b z1 (by omega) (by omega), Option.bind_some, getTV_here, if_pos (show 2 ≤ n ∧ n ≤ 8 ∧ 1 ≤ p ∧ p ≤ n - 1 ∧ 0 ≤ b ∧ b ≤ p - 1 from ⟨x1, x2, y1, y2, z1, z2⟩)]
     · have hd : (decide (0 ≤ b) && decide (b ≤ p - 1)) = false := by
        rw [← Bool.decide_and]; exact decide_eq_false h3
       simp only [w, w2, decide_eq_true x1, decide_eq_true x2, decide_eq_true y1, decide_eq_true y2, hd, Bool.and_true, Bool.not_true, Bool.not_false, cond_false, cond_true, if_neg (show ¬ (2 ≤ n ∧ n ≤ 8 ∧ 1 ≤ p ∧ p ≤ n - 1 ∧ 0 ≤ b ∧ b ≤ p - 1) from fun h => h3 ⟨h.2.2.2.2.1, h.2.2.2.2.2⟩)]
   · have hd : (decide (1 ≤ p) && decide (p ≤ n - 1)) = false := by
      rw [← Bool.decide_and]; exact decide_eq_false h2
     simp only [w, decide_eq_true x1, decide_eq_true x2, hd, Bool.and_true, Bool.not_true, Bool.not_false, cond_false, cond_true, if_neg (show ¬ (2 ≤ n ∧ n ≤ 8 ∧ 1 ≤ p ∧ p ≤ n - 1 ∧ 0 ≤ b ∧ b ≤ p - 1) from fun h => h2 ⟨h.2.2.1, h.2.2.2.1⟩)]
 · have hd : (decide (2 ≤ n) && decide (n ≤ 8)) = false := by
    rw [← Bool.decide_and]; exact decide_eq_false h1
   simp only [hd, Bool.not_false, cond_true, if_neg (show ¬ (2 ≤ n ∧ n ≤ 8 ∧ 1 ≤ p ∧ p ≤ n - 1 ∧ 0 ≤ b ∧ b ≤ p - 1) from fun h => h1 ⟨h.1, h.2.1⟩)]
theorem zOQ (n p b : Int) : R zHt [tI n, tI p, tI b] = some [jE (vBand n p b).1, tI (vBand n p b).2] := by
 apply zOg; simp only [zIR, zC6, Option.bind_some, getTV_here, vBand]
 by_cases h1 : 2 ≤ n ∧ n ≤ 8
 · have w : wi64 (n - 1) = n - 1 := by rw [zB] <;> omega
   have x1 := h1.1; have x2 := h1.2
   by_cases h2 : 0 ≤ p ∧ p ≤ n - 1
   · have w2 : wi64 (p - 1) = p - 1 := by rw [zB] <;> omega
     have y1 := h2.1; have y2 := h2.2
     by_cases h3 : 0 ≤ b ∧ b ≤ p - 1
     · have z1 := h3.1; have z2 := h3.2; simp only [w, w2, decide_eq_true x1, decide_eq_true x2, decide_eq_true y1, decide_eq_true y2, decide_eq_true z1, decide_eq_true z2, Bool.and_true, Bool.not_true, cond_false, zRT p b z1 (by omega) (by omega), Option.bind_some, getTV_here, if_pos (show 2 ≤ n ∧ n ≤ 8 ∧ 1 ≤ p ∧ p ≤ n - 1 ∧ 0 ≤ b ∧ b ≤ p - 1 from ⟨x1, x2, by omega, y2, z1, z2⟩)]
     · have hd : (decide (0 ≤ b) && decide (b ≤ p - 1)) = false := by
        rw [← Bool.decide_and]; exact decide_eq_false h3
       simp only [w, w2, decide_eq_true x1, decide_eq_true x2, decide_eq_true y1, decide_eq_true y2, hd, Bool.and_true, Bool.not_true, Bool.not_false, cond_false, cond_true, if_neg (show ¬ (2 ≤ n ∧ n ≤ 8 ∧ 1 ≤ p ∧ p ≤ n - 1 ∧ 0 ≤ b ∧ b ≤ p - 1) from fun h => h3 ⟨h.2.2.2.2.1, h.2.2.2.2.2⟩)]
   · have hd : (decide (0 ≤ p) && decide (p ≤ n - 1)) = false := by
      rw [← Bool.decide_and]; exact decide_eq_false h2
     simp only [w, decide_eq_true x1, decide_eq_true x2, hd, Bool.and_true, Bool.not_true, Bool.not_false, cond_false, cond_true, if_neg (show ¬ (2 ≤ n ∧ n ≤ 8 ∧ 1 ≤ p ∧ p ≤ n - 1 ∧ 0 ≤ b ∧ b ≤ p - 1) from fun h => h2 ⟨by omega, h.2.2.2.1⟩)]
 · have hd : (decide (2 ≤ n) && decide (n ≤ 8)) = false := by
    rw [← Bool.decide_and]; exact decide_eq_false h1
   simp only [hd, Bool.not_false, cond_true, if_neg (show ¬ (2 ≤ n ∧ n ≤ 8 ∧ 1 ≤ p ∧ p ≤ n - 1 ∧ 0 ≤ b ∧ b ≤ p - 1) from fun h => h1 ⟨h.1, h.2.1⟩)]
end Go.Ev.YtknhngnhjdpedaaGreat
namespace Go.Ev
open Go.Gar
def Can (n : Nat) (g : Nat → Nat) : Prop := ∀ x, x < n → g x ≤ x ∧ g (g x) = g x
def nx (g : Nat → Nat) (i : Nat) : Nat → Nat → Nat
 | 0, _ => g i
 | d + 1, j => if g j = g i then j else nx g i d (j + 1)
def mdf (n : Nat) (g : Nat → Nat) (i : Nat) : Nat := nx g i (n - (i + 1)) (i + 1)
theorem zR3 (g : Nat → Nat) (i : Nat) : ∀ d j, (∃ k, j ≤ k ∧ k < j + d ∧ g k = g i ∧ (∀ y, j ≤ y → y < k → g y ≠ g i) ∧ nx g i d j = k) ∨ ((∀ y, j ≤ y → y < j + d → g y ≠ g i) ∧ nx g i d j = g i) := by
 intro d
 induction d with
 | zero => intro j; right; exact ⟨fun y h1 h2 => by omega, rfl⟩
 | succ d ih =>
  intro j
  by_cases h : g j = g i
  · left; exact ⟨j, Nat.le_refl _, by omega, h, fun y h1 h2 => by omega, by rw [nx, if_pos h]⟩
  · rw [nx, if_neg h]
    rcases ih (j + 1) with ⟨k, k1, k2, k3, k4, k5⟩ | ⟨k1, k2⟩
    · left; refine ⟨k, by omega, by omega, k3, fun y h1 h2 => ?_, k5⟩
      by_cases hy : y = j
      · rw [hy]; exact h
      · exact k4 y (by omega) h2
    · right; refine ⟨fun y h1 h2 => ?_, k2⟩
      by_cases hy : y = j
      · rw [hy]; exact h
      · exact k1 y (by omega) (by omega)
theorem zP {n : Nat} {g : Nat → Nat} {i : Nat} (hi : i < n) : (∃ k, i < k ∧ k < n ∧ g k = g i ∧ (∀ y, i < y → y < k → g y ≠ g i) ∧ mdf n g i = k) ∨ ((∀ y, i < y → y < n → g y ≠ g i) ∧ mdf n g i = g i) := by
 rcases zR3 g i (n - (i + 1)) (i + 1) with ⟨k, k1, k2, k3, k4, k5⟩ | ⟨k1, k2⟩
 · exact .inl ⟨k, by omega, by omega, k3, fun y h1 h2 => k4 y (by omega) h2, k5⟩
 · exact .inr ⟨fun y h1 h2 => k1 y (by omega) (by omega), k2⟩
theorem zIy {n : Nat} {g : Nat → Nat} (hg : Can n g) {i : Nat} (hi : i < n) : mdf n g i < n := by
 rcases zP (g := g) hi with ⟨k, _, k2, _, _, k5⟩ | ⟨_, k2⟩
 · omega
 · have := (hg i hi).1; omega
theorem zSA {n : Nat} {g : Nat → Nat} (hg : Can n g) {x y : Nat} (hx : x < n) (hy : y < n) (h : mdf n g x = mdf n g y) : x = y := by
 have gx := hg x hx; have gy := hg y hy
 rcases zP (g := g) hx with ⟨k, k1, k2, k3, k4, k5⟩ | ⟨k1, k2⟩
 · rcases zP (g := g) hy with ⟨l, l1, l2, l3, l4, l5⟩ | ⟨l1, l2⟩
   · have e : k = l := by omega
     subst e; apply Classical.byContradiction; intro hne
     rcases Nat.lt_or_gt_of_ne hne with h1 | h1
     · exact k4 y h1 l1 (by omega)
     · exact l4 x h1 k1 (by omega)
   · have e : k = g y := by omega
     subst e; omega
 · rcases zP (g := g) hy with ⟨l, l1, l2, l3, l4, l5⟩ | ⟨l1, l2⟩
   · have e : l = g x := by omega
     subst e; omega
   · have e : g x = g y := by omega
     apply Classical.byContradiction; intro hne
     rcases Nat.lt_or_gt_of_ne hne with h1 | h1
     · exact k1 y h1 hy e.symm
     · exact l1 x h1 hx e
theorem zGk {n : Nat} {g : Nat → Nat} (hg : Can n g) : ∃ s : Pm n, A8 n (mdf n g) = sA s ∧ ∀ x, x < n → s.f x = mdf n g x := by
 obtain ⟨s, hs⟩ := zR1 (n := n) (f := mdf n g) (fun x hx => zIy hg hx) (fun x y hx hy h => zSA hg hx hy h); exact ⟨s, zF (fun x hx => (hs x hx).symm), hs⟩
theorem zFK {n : Nat} {g h : Nat → Nat} (e : ∀ x, x < n → g x = h x) {i : Nat} (hi : i < n) : mdf n g i = mdf n h i := by
 have : ∀ d j, j + d ≤ n → nx g i d j = nx h i d j := by
  intro d
  induction d with
  | zero => intro j _; exact e i hi
  | succ d ih =>
   intro j hj; rw [nx, nx, e j (by omega), e i hi, ih (j + 1) (by omega)]
 exact this _ _ (by omega)
def sn (n : Nat) (g : Nat → Nat) (i q : Nat) (x : Nat) : Bool := decide (x < n ∧ (g x < i ∨ (g x = i ∧ x < q)))
def lab (g : Nat → Nat) (i q : Nat) (x : Nat) : Nat := if g x < i ∨ (g x = i ∧ x < q) then g x else 0
def mg (g : Nat → Nat) (i : Nat) (x : Nat) : Nat := if (List.range x).any (fun y => decide (i ≤ y ∧ g y = g x)) then x else g x
theorem jU (g : Nat → Nat) (i x : Nat) : (∃ y, i ≤ y ∧ y < x ∧ g y = g x) ∧ mg g i x = x ∨ (∀ y, i ≤ y → y < x → g y ≠ g x) ∧ mg g i x = g x := by
 unfold mg
 by_cases h : (List.range x).any (fun y => decide (i ≤ y ∧ g y = g x)) = true
 · left; rw [if_pos h]; obtain ⟨y, hy, hd⟩ := List.any_eq_true.1 h; have := of_decide_eq_true hd; exact ⟨⟨y, this.1, List.mem_range.1 hy, this.2⟩, rfl⟩
 · right; rw [if_neg h]; refine ⟨fun y h1 h2 h3 => h (List.any_eq_true.2 ⟨y, List.mem_range.2 h2, decide_eq_true ⟨h1, h3⟩⟩), rfl⟩
theorem zR7 {n : Nat} {g : Nat → Nat} (hg : Can n g) {x : Nat} (hx : x < n) : mg g 0 x = x := by
 rcases jU g 0 x with ⟨_, e⟩ | ⟨h, e⟩
 · exact e
 · have h1 := hg x hx
   by_cases h2 : g x < x
   · exact (h (g x) (by omega) h2 h1.2).elim
   · omega
theorem zR9 {n : Nat} (g : Nat → Nat) {x : Nat} (hx : x < n) : mg g n x = g x := by
 rcases jU g n x with ⟨⟨y, h1, h2, _⟩, _⟩ | ⟨_, e⟩
 · omega
 · exact e
def mrg (G : Nat → Nat) (i j : Nat) (x : Nat) : Nat := if G x = max (G i) (G j) then min (G i) (G j) else G x
theorem zLu {n : Nat} {G : Nat → Nat} (hG : Can n G) {i j : Nat} (hi : i < n) (hj : j < n) : Can n (mrg G i j) := by
 intro x hx; have h1 := hG x hx; have h2 := hG i hi; have h3 := hG j hj; have hlo : G (min (G i) (G j)) = min (G i) (G j) := by
  by_cases h : G i ≤ G j
  · rw [Nat.min_eq_left h]; exact h2.2
  · rw [Nat.min_eq_right (by omega)]; exact h3.2
 unfold mrg
 by_cases h : G x = max (G i) (G j)
 · rw [if_pos h]; refine ⟨by omega, ?_⟩; rw [hlo]; split <;> rfl
 · rw [if_neg h]; refine ⟨h1.1, ?_⟩; rw [h1.2, if_neg h]
theorem zR8 {n : Nat} {g : Nat → Nat} (hg : Can n g) {i : Nat} (hi : i < n) {x : Nat} (hx : x < n) : mrg (mg g i) i (mdf n g i) x = mg g (i + 1) x := by
 have gi := hg i hi; have gx := hg x hx; have e1 : mg g i i = g i := by
  rcases jU g i i with ⟨⟨y, h1, h2, _⟩, _⟩ | ⟨_, e⟩
  · omega
  · exact e
 rcases zP (g := g) hi with ⟨k, k1, k2, k3, k4, k5⟩ | ⟨k1, k2⟩
 · have gk := hg k k2; have e2 : mg g i k = k := by
    rcases jU g i k with ⟨_, e⟩ | ⟨h, _⟩
    · exact e
    · exact (h i (Nat.le_refl _) k1 k3.symm).elim
   unfold mrg; rw [k5, e1, e2, Nat.max_eq_right (by omega), Nat.min_eq_left (by omega)]
   rcases jU g i x with ⟨⟨y, y1, y2, y3⟩, e⟩ | ⟨h, e⟩
   · rw [e]
     by_cases hxk : x = k
     · rw [if_pos hxk]
       rcases jU g (i + 1) x with ⟨⟨z, z1, z2, z3⟩, e'⟩ | ⟨h', e'⟩
       · subst hxk; exact (k4 z (by omega) z2 (by omega)).elim
       · rw [e', hxk, k3]
     · rw [if_neg hxk]
       rcases jU g (i + 1) x with ⟨_, e'⟩ | ⟨h', e'⟩
       · exact e'.symm
       · by_cases hy : y = i
         · subst hy
           rcases Nat.lt_or_gt_of_ne hxk with h1 | h1
           · exact (k4 x y2 h1 y3.symm).elim
           · exact (h' k (by omega) h1 (by omega)).elim
         · exact (h' y (by omega) y2 y3).elim
   · rw [e]; have hne : ¬ g x = k := by
      intro hk; rw [hk] at gx; omega
     rw [if_neg hne]
     rcases jU g (i + 1) x with ⟨⟨z, z1, z2, z3⟩, _⟩ | ⟨_, e'⟩
     · exact (h z (by omega) z2 z3).elim
     · exact e'.symm
 · have e2 : mg g i (g i) = g i := by
    rcases jU g i (g i) with ⟨⟨y, h1, h2, _⟩, _⟩ | ⟨_, e⟩
    · omega
    · rw [e]; exact gi.2
   have e3 : mrg (mg g i) i (mdf n g i) x = mg g i x := by
    unfold mrg; rw [k2, e1, e2, Nat.max_self, Nat.min_self]
    split
    · rename_i h; exact h.symm
    · rfl
   rw [e3]
   rcases jU g i x with ⟨⟨y, y1, y2, y3⟩, e⟩ | ⟨h, e⟩
   · rcases jU g (i + 1) x with ⟨_, e'⟩ | ⟨h', e'⟩
     · rw [e, e']
     · by_cases hy : y = i
       · subst hy; exact (k1 x y2 hx y3.symm).elim
       · exact (h' y (by omega) y2 y3).elim
   · rcases jU g (i + 1) x with ⟨⟨z, z1, z2, z3⟩, _⟩ | ⟨_, e'⟩
     · exact (h z (by omega) z2 z3).elim
     · rw [e, e']
def c5 (g : Nat → Nat) (a b c : Nat) : Nat → Nat → Bool
 | 0, _ => false
 | d + 1, x => (decide (g a = g c) && decide (g b = g x) && !decide (g a = g b)) || c5 g a b c d (x + 1)
def c4 (n : Nat) (g : Nat → Nat) (a b : Nat) : Nat → Nat → Bool
 | 0, _ => false
 | d + 1, c => c5 g a b c (n - (c + 1)) (c + 1) || c4 n g a b d (c + 1)
def c3 (n : Nat) (g : Nat → Nat) (a : Nat) : Nat → Nat → Bool
 | 0, _ => false
 | d + 1, b => c4 n g a b (n - (b + 1)) (b + 1) || c3 n g a d (b + 1)
def c2 (n : Nat) (g : Nat → Nat) : Nat → Nat → Bool
 | 0, _ => false
 | d + 1, a => c3 n g a (n - (a + 1)) (a + 1) || c2 n g d (a + 1)
def crs (n : Nat) (g : Nat → Nat) : Bool := c2 n g n 0
theorem zQu {n : Nat} {g h : Nat → Nat} (e : ∀ x, x < n → g x = h x) {a b c : Nat} (ha : a < n) (hb : b < n) (hc : c < n) : ∀ d x, x + d ≤ n → c5 g a b c d x = c5 h a b c d x := by
 intro d
 induction d with
 | zero => intro x _; rfl
 | succ d ih => intro x hx; rw [c5, c5, e a ha, e b hb, e c hc, e x (by omega), ih (x + 1) (by omega)]
theorem zQv {n : Nat} {g h : Nat → Nat} (e : ∀ x, x < n → g x = h x) {a b : Nat} (ha : a < n) (hb : b < n) : ∀ d x, x + d ≤ n → c4 n g a b d x = c4 n h a b d x := by
 intro d
 induction d with
 | zero => intro x _; rfl
 | succ d ih => intro x hx; rw [c4, c4, zQu e ha hb (by omega) _ _ (by omega), ih (x + 1) (by omega)]
theorem zQw {n : Nat} {g h : Nat → Nat} (e : ∀ x, x < n → g x = h x) {a : Nat} (ha : a < n) : ∀ d x, x + d ≤ n → c3 n g a d x = c3 n h a d x := by
 intro d
 induction d with
 | zero => intro x _; rfl
 | succ d ih => intro x hx; rw [c3, c3, zQv e ha (by omega) _ _ (by omega), ih (x + 1) (by omega)]
theorem zH1 {n : Nat} {g h : Nat → Nat} (e : ∀ x, x < n → g x = h x) : crs n g = crs n h := by
 have : ∀ d x, x + d ≤ n → c2 n g d x = c2 n h d x := by
  intro d
  induction d with
  | zero => intro x _; rfl
  | succ d ih => intro x hx; rw [c2, c2, zQw e (by omega) _ _ (by omega), ih (x + 1) (by omega)]
 exact this n 0 (by omega)
def Gl (n : Nat) (g : Nat → Nat) : List Int := (List.range n).map fun x => (g x : Int)
theorem kh (n : Nat) (g : Nat → Nat) : (Gl n g).length = n := by simp [Gl]
theorem Gl_get? (n : Nat) (g : Nat → Nat) {x : Nat} (h : x < n) : (Gl n g)[x]? = some (g x : Int) := by simp [Gl, h]
theorem zCH {n : Nat} {g : Nat → Nat} {x : Nat} (h : x < n) : List.getD (Gl n g) x 0 = (g x : Int) := by
 rw [List.getD_eq_getElem?_getD, Gl_get? n g h]
 rfl
theorem jC {n : Nat} {g h : Nat → Nat} (e : ∀ x, x < n → g x = h x) : Gl n g = Gl n h := by
 unfold Gl; apply List.map_congr_left; intro x hx; rw [e x (List.mem_range.1 hx)]
theorem zTT {n : Nat} {g : Nat → Nat} {k v : Nat} (hk : k < n) : List.set (Gl n g) k (v : Int) = Gl n (fun x => if x = k then v else g x) := by
 apply List.ext_getElem?; intro x
 by_cases hx : x < n
 · rw [List.getElem?_set, Gl_get? n _ hx, Gl_get? n _ hx, kh]
   by_cases h1 : k = x
   · subst h1; simp [hx]
   · have h2 : ¬ x = k := fun h => h1 h.symm; simp [h1, h2]
 · rw [List.getElem?_eq_none (by rw [List.length_set, kh]; omega), List.getElem?_eq_none (by rw [kh]; omega)]
def Bo (S : Nat → Bool) : List Bool := (List.range 8).map S
theorem Bo_get? (S : Nat → Bool) {x : Nat} (h : x < 8) : (Bo S)[x]? = some (S x) := by simp [Bo, h]
theorem zQF {S : Nat → Bool} {x : Nat} (h : x < 8) : List.getD (Bo S) x false = S x := by
 rw [List.getD_eq_getElem?_getD, Bo_get? S h]
 rfl
theorem zFj {S T : Nat → Bool} (e : ∀ x, x < 8 → S x = T x) : Bo S = Bo T := by
 unfold Bo; apply List.map_congr_left; intro x hx; rw [e x (List.mem_range.1 hx)]
theorem zRf {S : Nat → Bool} {k : Nat} {v : Bool} (hk : k < 8) : List.set (Bo S) k v = Bo (fun x => if x = k then v else S x) := by
 apply List.ext_getElem?; intro x
 by_cases hx : x < 8
 · rw [List.getElem?_set, Bo_get? _ hx, Bo_get? _ hx, show (Bo S).length = 8 by simp [Bo]]
   by_cases h1 : k = x
   · subst h1; simp [hx]
   · have h2 : ¬ x = k := fun h => h1 h.symm; simp [h1, h2]
 · rw [List.getElem?_eq_none (by rw [List.length_set]; simp [Bo]; omega), List.getElem?_eq_none (by simp [Bo]; omega)]
theorem zKI : List.replicate 8 false = Bo (fun _ => false) := rfl
end Go.Ev
namespace Go.Ev.YtknhngnhjdpedaaGreat
open Go.Ev Go.Gar
theorem zFg (a b : Nat) : (((a : Int)) == (b : Int)) = decide (a = b) := by
 rw [zGL]
 by_cases h : a = b
 · simp [h]
 · have : ¬ (a : Int) = b := by omega
   simp [h, this]
theorem zP4 (a b : Nat) : (((a : Int)) != (b : Int)) = !decide (a = b) := by
 rw [ja]
 by_cases h : a = b
 · simp [h]
 · have : ¬ (a : Int) = b := by omega
   simp [h, this]
theorem zGr (n : Nat) (hn : n ≤ 8) (a : List Int) (ha : B8 a) (x1 x2 : List Int) : ∀ (k : Nat) (met : List Bool), k ≤ 8 → met.length = 8 →
  R zR [tA8 a, tAi8 x1, tAi8 x2, tAB8 met, tI (n : Int), tI ((8 - k : Nat) : Int)] = some (if chk n a k met then [tI 0, tA8 a, tAi8 x1, tAi8 x2, tI (n : Int)] else [tI 1, tAi8 x2, tB false]) := by
 intro k
 induction k with
 | zero =>
  intro met _ _; apply zEt; simp [zBI, chk]
 | succ k ih =>
  intro met hk hm; have hb := (ha.at (show 7 - k < 8 by omega)).2; have e : 8 - (k + 1) = 7 - k := by omega
  apply zEt; rw [e]; unfold chk; have e1 : wi64 (((7 - k : Nat) : Int) + 1) = ((8 - k : Nat) : Int) := by rw [zB] <;> omega
  have e2 : wi64 (List.getD a (7 - k) 0) = List.getD a (7 - k) 0 := zB (by omega) (by omega); have u1 : (((7 - k : Nat) : Int) < 8) := by omega
  have u2 : ((0 : Int) ≤ ((7 - k : Nat) : Int)) := by omega
  simp only [zBI, decide_eq_true u1, decide_eq_true u2, cond_true, Bool.and_true, Int.toNat_natCast, e1, e2]
  by_cases h : n ≤ 7 - k
  · have h' : ((n : Int) ≤ ((7 - k : Nat) : Int)) := by omega
    have h'' : ¬ (((7 - k : Nat) : Int) < (n : Int)) := by omega
    rw [if_pos h]; simp only [decide_eq_true h', decide_eq_false h'', cond_true, cond_false, ih met (by omega) hm]
    by_cases h2 : List.getD a (7 - k) 0 = 0
    · simp only [h2, bne_self_eq_false, cond_false, beq_self_eq_true, Bool.true_and]
    · have h3 : (List.getD a (7 - k) 0 == 0) = false := by rw [zGL, decide_eq_false h2]
      have h4 : (List.getD a (7 - k) 0 != 0) = true := by rw [ja, decide_eq_false h2]; rfl
      rw [h3, h4]; simp
  · have h' : ¬ ((n : Int) ≤ ((7 - k : Nat) : Int)) := by omega
    have h'' : (((7 - k : Nat) : Int) < (n : Int)) := by omega
    rw [if_neg h]; simp only [decide_eq_false h', decide_eq_true h'', cond_true, cond_false]
    by_cases h2 : (n : Int) ≤ List.getD a (7 - k) 0
    · have h3 : ¬ (List.getD a (7 - k) 0 < (n : Int)) := by omega
      rw [decide_eq_true h2, cond_true, decide_eq_false h3]; simp
    · have h3 : (List.getD a (7 - k) 0 < (n : Int)) := by omega
      have e3 : List.getD a (7 - k) 0 < 8 := by omega
      have e4 : 0 ≤ List.getD a (7 - k) 0 := hb.1; simp only [decide_eq_false h2, cond_false, decide_eq_true h3, Bool.true_and, decide_eq_true e3, decide_eq_true e4, Bool.and_true, cond_true]
      cases h4 : List.getD met (List.getD a (7 - k) 0).toNat false with
      | true => simp
      | false =>
       rw [cond_false, ih _ (by omega) (by simp [hm])]; simp
theorem zDq (x0 x1 x2 : List Int) (S : Nat → Bool) (x4 x5 : Int) (q : Nat) (hq : q < 8) (h : S q = true) : R zW [tA8 x0, tAi8 x1, tAi8 x2, tAB8 (Bo S), tI x4, tI x5, tI (q : Int)] = some [tI 0, tA8 x0, tAi8 x1, tAi8 x2, tAB8 (Bo S), tI x4, tI x5] := by
 apply zD0; have u1 : ((q : Int) < 8) := by omega
 have u2 : ((0 : Int) ≤ (q : Int)) := by omega
 simp only [zAd, decide_eq_true u1, decide_eq_true u2, Bool.and_true, cond_true, Int.toNat_natCast, zQF hq, h, Bool.not_true, cond_false]
theorem zM9 (n : Nat) (hn : n ≤ 8) (f l : Nat → Nat) (x1 : List Int) (S : Nat → Bool) (i q : Nat) (hi : i < n) (hq : q < n) (hf : f q < n) (h : S q = false) {o : List TV}
  (hR : R zW [tA8 (A8 n f), tAi8 x1, tAi8 (A8 n (fun x => if x = q then i else l x)), tAB8 (Bo (fun x => if x = q then true else S x)), tI (n : Int), tI (i : Int), tI ((f q : Nat) : Int)] = some o) :
  R zW [tA8 (A8 n f), tAi8 x1, tAi8 (A8 n l), tAB8 (Bo S), tI (n : Int), tI (i : Int), tI (q : Int)] = some o := by
 apply zD0; have u1 : ((q : Int) < 8) := by omega
 have u2 : ((0 : Int) ≤ (q : Int)) := by omega
 have w : wi64 ((f q : Nat) : Int) = ((f q : Nat) : Int) := by rw [zB] <;> omega
 simp only [zAd, decide_eq_true u1, decide_eq_true u2, Bool.and_true, cond_true, Int.toNat_natCast, zQF (show q < 8 by omega), h, Bool.not_false, jQ hq hn, w, zAy hq hn, zRf (show q < 8 by omega)]; exact hR
theorem zJ4 (n : Nat) (hn : n ≤ 8) (g : Nat → Nat) (hg : Can n g) (x1 : List Int) (i : Nat) (hi : i < n) : ∀ (m q : Nat), q < n → g q = i → n ≤ q + m →
  R zW [tA8 (A8 n (mdf n g)), tAi8 x1, tAi8 (A8 n (lab g i q)), tAB8 (Bo (sn n g i q)), tI (n : Int), tI (i : Int), tI (q : Int)] =
   some [tI 0, tA8 (A8 n (mdf n g)), tAi8 x1, tAi8 (A8 n (lab g (i + 1) 0)), tAB8 (Bo (sn n g (i + 1) 0)), tI (n : Int), tI (i : Int)] := by
 intro m
 induction m with
 | zero => intro q h1 _ h2; omega
 | succ m ih =>
  intro q hq hgq hm; have gq := hg q hq; have hS : sn n g i q q = false := by
   unfold sn; apply decide_eq_false; omega
  apply zM9 n hn (mdf n g) (lab g i q) x1 (sn n g i q) i q hi hq (zIy hg hq) hS
  rcases zP (g := g) hq with ⟨k, k1, k2, k3, k4, k5⟩ | ⟨k1, k2⟩
  · rw [k5]; have ih' := ih k k2 (by omega) (by omega); have hx : ∀ x, x < n → ((g x < i ∨ (g x = i ∧ x < k)) ↔ (x = q ∨ (g x < i ∨ (g x = i ∧ x < q)))) := by
     intro x hx
     constructor
     · rintro (h | ⟨h, h'⟩)
       · exact .inr (.inl h)
       · by_cases hxq : x ≤ q
         · rcases Nat.lt_or_eq_of_le hxq with h3 | h3
           · exact .inr (.inr ⟨h, h3⟩)
           · exact .inl h3
         · exact (k4 x (by omega) h' (by omega)).elim
     · rintro (h | h | ⟨h, h'⟩)
       · subst h; exact .inr ⟨hgq, k1⟩
       · exact .inl h
       · exact .inr ⟨h, by omega⟩
    have e1 : A8 n (fun x => if x = q then i else lab g i q x) = A8 n (lab g i k) := by
     apply zF; intro x hx'; have := hx x hx'; unfold lab
     by_cases h1 : x = q
     · rw [if_pos h1, if_pos (this.2 (.inl h1)), h1, hgq]
     · rw [if_neg h1]
       by_cases h2 : g x < i ∨ (g x = i ∧ x < q)
       · rw [if_pos h2, if_pos (this.2 (.inr h2))]
       · rw [if_neg h2, if_neg (fun h => (this.1 h).elim h1 h2)]
    have e2 : Bo (fun x => if x = q then true else sn n g i q x) = Bo (sn n g i k) := by
     apply zFj; intro x _; unfold sn
     by_cases hxn : x < n
     · have := hx x hxn
       by_cases h1 : x = q
       · rw [if_pos h1]; exact (decide_eq_true ⟨hxn, this.2 (.inl h1)⟩).symm
       · rw [if_neg h1, decide_eq_decide]
         constructor
         · exact fun h => ⟨hxn, this.2 (.inr h.2)⟩
         · exact fun h => ⟨hxn, (this.1 h.2).elim (fun h' => (h1 h').elim) id⟩
     · rw [if_neg (by omega), decide_eq_false (by omega), decide_eq_false (by omega)]
    rw [e1, e2]; exact ih'
  · rw [k2, hgq]; have hx : ∀ x, x < n → ((g x < i + 1 ∨ (g x = i + 1 ∧ x < 0)) ↔ (x = q ∨ (g x < i ∨ (g x = i ∧ x < q)))) := by
     intro x hx
     constructor
     · rintro (h | ⟨_, h'⟩)
       · by_cases h3 : g x = i
         · rcases Nat.lt_trichotomy x q with h4 | h4 | h4
           · exact .inr (.inr ⟨h3, h4⟩)
           · exact .inl h4
           · exact (k1 x h4 hx (by omega)).elim
         · exact .inr (.inl (by omega))
       · omega
     · rintro (h | h | ⟨h, h'⟩)
       · subst h; exact .inl (by omega)
       · exact .inl (by omega)
       · exact .inl (by omega)
    have e1 : A8 n (fun x => if x = q then i else lab g i q x) = A8 n (lab g (i + 1) 0) := by
     apply zF; intro x hx'; have := hx x hx'; unfold lab
     by_cases h1 : x = q
     · rw [if_pos h1, if_pos (this.2 (.inl h1)), h1, hgq]
     · rw [if_neg h1]
       by_cases h2 : g x < i ∨ (g x = i ∧ x < q)
       · rw [if_pos h2, if_pos (this.2 (.inr h2))]
       · rw [if_neg h2, if_neg (fun h => (this.1 h).elim h1 h2)]
    have e2 : Bo (fun x => if x = q then true else sn n g i q x) = Bo (sn n g (i + 1) 0) := by
     apply zFj; intro x _; unfold sn
     by_cases hxn : x < n
     · have := hx x hxn
       by_cases h1 : x = q
       · rw [if_pos h1]; exact (decide_eq_true ⟨hxn, this.2 (.inl h1)⟩).symm
       · rw [if_neg h1, decide_eq_decide]
         constructor
         · exact fun h => ⟨hxn, this.2 (.inr h.2)⟩
         · exact fun h => ⟨hxn, (this.1 h.2).elim (fun h' => (h1 h').elim) id⟩
     · rw [if_neg (by omega), decide_eq_false (by omega), decide_eq_false (by omega)]
    rw [e1, e2]; apply zDq _ _ _ _ _ _ i (by omega); unfold sn; apply decide_eq_true; have gi : g i = i := by rw [← hgq]; exact gq.2
    omega
theorem zJ5 (n : Nat) (hn : n ≤ 8) (g : Nat → Nat) (hg : Can n g) (x1 : List Int) : ∀ i, i ≤ n →
  R kR [tA8 (A8 n (mdf n g)), tAi8 x1, tAi8 (A8 n (lab g i 0)), tAB8 (Bo (sn n g i 0)), tI (n : Int), tI (i : Int)] = some [tI 0, tAi8 x1, tAi8 (A8 n g)] := by
 refine zb _ ?_ (fun i hi ih => ?_)
 · apply zAU; have e : A8 n (lab g n 0) = A8 n g := by
    apply zF; intro x hx; have := (hg x hx).1; unfold lab; rw [if_pos (by omega)]
   have h1 : ¬ ((n : Int) < (n : Int)) := by omega
   simp only [kU, decide_eq_false h1, cond_false, e]
 · apply zAU; have h1 : ((i : Int) < (n : Int)) := by omega
   have w : wi64 ((i : Int) + 1) = ((i + 1 : Nat) : Int) := by rw [zB] <;> omega
   have gi := hg i hi
   have hin : R zW [tA8 (A8 n (mdf n g)), tAi8 x1, tAi8 (A8 n (lab g i 0)), tAB8 (Bo (sn n g i 0)), tI (n : Int), tI (i : Int), tI (i : Int)] =
    some [tI 0, tA8 (A8 n (mdf n g)), tAi8 x1, tAi8 (A8 n (lab g (i + 1) 0)), tAB8 (Bo (sn n g (i + 1) 0)), tI (n : Int), tI (i : Int)] := by
    by_cases h : g i = i
    · have h14 := zJ4 n hn g hg x1 i hi n i hi h (by omega); have e1 : A8 n (lab g i i) = A8 n (lab g i 0) := by
       apply zF; intro x hx; have := (hg x hx).1; unfold lab
       by_cases h2 : g x < i
       · rw [if_pos (.inl h2), if_pos (.inl h2)]
       · rw [if_neg (by omega), if_neg (by omega)]
      have e2 : Bo (sn n g i i) = Bo (sn n g i 0) := by
       apply zFj; intro x _; unfold sn; rw [decide_eq_decide]
       constructor
       · rintro ⟨h3, h4⟩; have := (hg x h3).1; exact ⟨h3, by omega⟩
       · rintro ⟨h3, h4⟩; exact ⟨h3, by omega⟩
      rw [e1, e2] at h14; exact h14
    · have e1 : A8 n (lab g i 0) = A8 n (lab g (i + 1) 0) := by
       apply zF; intro x hx; have hx2 := (hg x hx).2; unfold lab
       by_cases h2 : g x < i
       · rw [if_pos (.inl h2), if_pos (.inl (by omega))]
       · have : g x ≠ i := fun h3 => by rw [h3] at hx2; exact h hx2
         rw [if_neg (by omega), if_neg (by omega)]
      have e2 : Bo (sn n g i 0) = Bo (sn n g (i + 1) 0) := by
       apply zFj; intro x _; unfold sn; rw [decide_eq_decide]
       constructor
       · rintro ⟨h3, h4⟩; exact ⟨h3, by omega⟩
       · rintro ⟨h3, h4⟩; have hx2 := (hg x h3).2; have : g x ≠ i := fun h5 => by rw [h5] at hx2; exact h hx2
         exact ⟨h3, by omega⟩
      rw [e1, e2]; apply zDq _ _ _ _ _ _ i (by omega); unfold sn; apply decide_eq_true; omega
   simp only [kU, decide_eq_true h1, cond_true, hin, Option.bind_some, getTV_here, getTV_next, w, ih]
structure Li (n i : Nat) (l : Nat → Nat) (S : Nat → Bool) : Prop where
 c : ∀ x, x < n → S x = true → l x ≤ x ∧ S (l x) = true ∧ l (l x) = l x
 b : ∀ x, x < i → S x = true
theorem zTi (n : Nat) (hn : n ≤ 8) (f : Nat → Nat) (hf : ∀ x, x < n → f x < n) (x1 : List Int) (i : Nat) (hi : i < n) : ∀ (m q : Nat) (l : Nat → Nat) (S : Nat → Bool), q < n → (List.range n).countP (fun x => !S x) ≤ m → Li n i l S → (q = i ∨ (l i = i ∧ S i = true)) →
  ∃ (l' : Nat → Nat) (S' : Nat → Bool), R zW [tA8 (A8 n f), tAi8 x1, tAi8 (A8 n l), tAB8 (Bo S), tI (n : Int), tI (i : Int), tI (q : Int)] =
   some [tI 0, tA8 (A8 n f), tAi8 x1, tAi8 (A8 n l'), tAB8 (Bo S'), tI (n : Int), tI (i : Int)] ∧ Li n (i + 1) l' S' := by
 intro m
 induction m with
 | zero =>
  intro q l S hq hc L hor
  by_cases hS : S q = true
  · refine ⟨l, S, zDq _ _ _ _ _ _ q (by omega) hS, L.c, fun x hx => ?_⟩
    by_cases h : x = i
    · subst h
      rcases hor with h | h
      · rw [← h]; exact hS
      · exact h.2
    · exact L.b x (by omega)
  · have := List.countP_pos_iff (p := fun x => !S x) (l := List.range n) |>.2 ⟨q, List.mem_range.2 hq, by simp [hS]⟩
    omega
 | succ m ih =>
  intro q l S hq hc L hor
  by_cases hS : S q = true
  · refine ⟨l, S, zDq _ _ _ _ _ _ q (by omega) hS, L.c, fun x hx => ?_⟩
    by_cases h : x = i
    · subst h
      rcases hor with h | h
      · rw [← h]; exact hS
      · exact h.2
    · exact L.b x (by omega)
  · have hS' : S q = false := by simpa using hS
    have hqi : i ≤ q := by
     apply Classical.byContradiction; intro h; exact hS (L.b q (by omega))
    have hl1 : (fun x => if x = q then i else l x) i = i := by
     show (if i = q then i else l i) = i
     rcases hor with h | h
     · rw [if_pos h.symm]
     · split
       · rfl
       · exact h.1
    have hs1 : (fun x => if x = q then true else S x) i = true := by
     show (if i = q then true else S i) = true
     rcases hor with h | h
     · rw [if_pos h.symm]
     · split
       · rfl
       · exact h.2
    have L1 : Li n i (fun x => if x = q then i else l x) (fun x => if x = q then true else S x) := by
     refine ⟨fun x hx hSx => ?_, fun x hx => ?_⟩
     · by_cases h : x = q
       · subst h; simp only [if_true]; exact ⟨hqi, hs1, hl1⟩
       · simp only [if_neg h] at hSx ⊢; obtain ⟨q1, q2, q3⟩ := L.c x hx hSx; have hne : ¬ l x = q := fun h' => by rw [h'] at q2; exact hS q2
         simp only [if_neg hne]; exact ⟨q1, q2, q3⟩
     · show (if x = q then true else S x) = true
       split
       · rfl
       · exact L.b x hx
    have hc' : (List.range n).countP (fun x => !(fun x => if x = q then true else S x) x) ≤ m := by
     have := Pm.countP_lt (p := fun x => !(fun x => if x = q then true else S x) x) (q := fun x => !S x) (l := List.range n) (x := q) (fun y _ hy => by
      by_cases h : y = q
      · simp [h] at hy
      · simpa [h] using hy) (List.mem_range.2 hq) (by simp) (by simp [hS'])
     omega
    obtain ⟨l', S', r1, r2⟩ := ih (f q) _ _ (hf q hq) hc' L1 (.inr ⟨hl1, hs1⟩); exact ⟨l', S', zM9 n hn f l x1 S i q hi hq (hf q hq) hS' r1, r2⟩
theorem zTj (n : Nat) (hn : n ≤ 8) (f : Nat → Nat) (hf : ∀ x, x < n → f x < n) (x1 : List Int) : ∀ i, i ≤ n → ∀ (l : Nat → Nat) (S : Nat → Bool), Li n i l S →
  ∃ l' : Nat → Nat, R kR [tA8 (A8 n f), tAi8 x1, tAi8 (A8 n l), tAB8 (Bo S), tI (n : Int), tI (i : Int)] = some [tI 0, tAi8 x1, tAi8 (A8 n l')] ∧ Can n l' := by
 refine zb _ (fun l S L => ?_) (fun i hi ih l S L => ?_)
 · refine ⟨l, ?_, fun x hx => ⟨(L.c x hx (L.b x hx)).1, (L.c x hx (L.b x hx)).2.2⟩⟩; apply zAU; have h1 : ¬ ((n : Int) < (n : Int)) := by omega
   simp only [kU, decide_eq_false h1, cond_false]
 · obtain ⟨l1, S1, r1, r2⟩ := zTi n hn f hf x1 i hi _ i l S hi (Nat.le_refl _) L (.inl rfl); obtain ⟨l', r3, r4⟩ := ih l1 S1 r2; refine ⟨l', ?_, r4⟩; apply zAU; have h1 : ((i : Int) < (n : Int)) := by omega
   have w : wi64 ((i : Int) + 1) = ((i + 1 : Nat) : Int) := by rw [zB] <;> omega
   simp only [kU, decide_eq_true h1, cond_true, r1, Option.bind_some, getTV_here, getTV_next, w, r3]
theorem zAQ (n : Nat) (hn : n ≤ 8) (g : Nat → Nat) (hg : Can n g) : R kf [tA8 (A8 n (mdf n g)), tI (n : Int)] = some [tAi8 (A8 n g), tB true] := by
 obtain ⟨s, hs, _⟩ := zGk hg; have ha : B8 (A8 n (mdf n g)) := by rw [hs]; exact zOs hn s
 have h3 := zGr n hn _ ha (List.replicate 8 0) (List.replicate 8 0) 8 (List.replicate 8 false) (Nat.le_refl _) (by simp); rw [if_pos ((zPs hn ha).2 ⟨s, hs⟩)] at h3; have h11 := zJ5 n hn g hg (List.replicate 8 0) 0 (Nat.zero_le _); have e1 : A8 n (lab g 0 0) = List.replicate 8 0 := by
  rw [zAI n]; apply zF; intro x _; unfold lab; rw [if_neg (by omega)]
 have e2 : Bo (sn n g 0 0) = List.replicate 8 false := by
  rw [zKI]; apply zFj; intro x _; unfold sn; exact decide_eq_false (by omega)
 rw [e1, e2] at h11; simp only [Nat.sub_self, Int.natCast_zero] at h3 h11; apply zEL; have c0 : ((0 : Int) == 0) = true := rfl; simp only [zBj, h3, Option.bind_some, getTV_here, getTV_next, c0, cond_true, h11]
theorem zL4 (n : Nat) (hn : n ≤ 8) (a : List Int) (ha : B8 a) : (∃ x : List Int, R kf [tA8 a, tI (n : Int)] = some [tAi8 x, tB false] ∧ ¬ ∃ s : Pm n, a = sA s) ∨ (∃ l : Nat → Nat, Can n l ∧ R kf [tA8 a, tI (n : Int)] = some [tAi8 (A8 n l), tB true]) := by
 have h3 := zGr n hn _ ha (List.replicate 8 0) (List.replicate 8 0) 8 (List.replicate 8 false) (Nat.le_refl _) (by simp); simp only [Nat.sub_self, Int.natCast_zero] at h3
 by_cases h : chk n a 8 (List.replicate 8 false) = true
 · right; obtain ⟨s, rfl⟩ := (zPs hn ha).1 h; rw [if_pos h] at h3; obtain ⟨l, r1, r2⟩ := zTj n hn s.f (fun x hx => s.lt hx) (List.replicate 8 0) 0 (Nat.zero_le _) (fun _ => 0) (fun _ => false) ⟨fun x _ h => by simp at h, fun x h => by omega⟩; rw [← zAI, ← zKI] at r1; refine ⟨l, r2, ?_⟩; apply zEL; have c0 : ((0 : Int) == 0) = true := rfl; have r1' : R kR [tA8 (sA s), tAi8 (List.replicate 8 0), tAi8 (List.replicate 8 0), tAB8 (List.replicate 8 false), tI (n : Int), tI 0] = some [tI 0, tAi8 (List.replicate 8 0), tAi8 (A8 n l)] := r1; simp only [zBj, h3, Option.bind_some, getTV_here, getTV_next, c0, cond_true, r1']
 · left; rw [if_neg h] at h3; refine ⟨List.replicate 8 0, ?_, fun hs => h ((zPs hn ha).2 hs)⟩; apply zEL; have c0 : ((1 : Int) == 0) = false := rfl; simp only [zBj, h3, Option.bind_some, getTV_here, getTV_next, c0, cond_false]
theorem zMP (n : Nat) (hn : n ≤ 8) (g : Nat → Nat) (x1 : List Int) (i : Nat) (hi : i < n) : ∀ (c : Nat) (h : Nat → Nat), i + c < n → h i = nx g i (n - (i + c + 1)) (i + c + 1) →
  R jd [tAi8 (A8 n g), tA8 x1, tA8 (A8 n h), tI (n : Int), tI (i : Int), tI ((i + c : Nat) : Int)] = some [tI 0, tAi8 (A8 n g), tA8 x1, tA8 (A8 n (fun x => if x = i then mdf n g i else h x)), tI (n : Int), tI (i : Int)] := by
 intro c
 induction c with
 | zero =>
  intro h _ hh; apply zBp; have h1 : ¬ ((i : Int) < ((i + 0 : Nat) : Int)) := by omega
  have e : A8 n h = A8 n (fun x => if x = i then mdf n g i else h x) := by
   apply zF; intro x _
   by_cases hx : x = i
   · rw [if_pos hx, hx, hh]; rfl
   · rw [if_neg hx]
  simp only [jj, decide_eq_false h1, cond_false, e]
 | succ c ih =>
  intro h hc hh; apply zBp; have h1 : ((i : Int) < ((i + (c + 1) : Nat) : Int)) := by omega
  have u1 : (((i + (c + 1) : Nat) : Int) < 8) := by omega
  have u2 : ((0 : Int) ≤ ((i + (c + 1) : Nat) : Int)) := by omega
  have u3 : ((i : Int) < 8) := by omega
  have u4 : ((0 : Int) ≤ (i : Int)) := by omega
  have w : wi64 (((i + (c + 1) : Nat) : Int) - 1) = ((i + c : Nat) : Int) := by rw [zB] <;> omega
  have w8 : wu8 ((i + (c + 1) : Nat) : Int) = ((i + (c + 1) : Nat) : Int) := by rw [zAz] <;> omega
  have en : nx g i (n - (i + c + 1)) (i + c + 1) = if g (i + (c + 1)) = g i then i + (c + 1) else nx g i (n - (i + (c + 1) + 1)) (i + (c + 1) + 1) := by
   rw [show n - (i + c + 1) = (n - (i + (c + 1) + 1)) + 1 by omega, nx]
   rfl
  simp only [jj, decide_eq_true h1, decide_eq_true u1, decide_eq_true u2, decide_eq_true u3, decide_eq_true u4, cond_true, Bool.and_true, Int.toNat_natCast, jQ hc hn, jQ hi hn, zFg, w, w8, zAy hi hn]
  by_cases hg : g (i + (c + 1)) = g i
  · rw [if_pos hg] at en; have ih' := ih (fun x => if x = i then i + (c + 1) else h x) (by omega) (by simp only [if_true]; exact en.symm); have e : A8 n (fun x => if x = i then mdf n g i else if x = i then i + (c + 1) else h x) = A8 n (fun x => if x = i then mdf n g i else h x) := by
     apply zF; intro x _
     by_cases hx : x = i
     · rw [if_pos hx, if_pos hx]
     · rw [if_neg hx, if_neg hx, if_neg hx]
    rw [e] at ih'; rw [decide_eq_true hg, cond_true, ih']
  · rw [if_neg hg] at en; rw [decide_eq_false hg, cond_false, ih h (by omega) (by rw [hh, en])]
theorem zMQ (n : Nat) (hn : n ≤ 8) (g : Nat → Nat) (hg : Can n g) (x1 : List Int) : ∀ i, i ≤ n →
  R zAp [tAi8 (A8 n g), tA8 x1, tA8 (A8 n (fun x => if x < i then mdf n g x else 0)), tI (n : Int), tI (i : Int)] = some [tI 0, tA8 x1, tA8 (A8 n (mdf n g))] := by
 refine zb _ ?_ (fun i hi ih => ?_)
 · apply zBq; have h1 : ¬ ((n : Int) < (n : Int)) := by omega
   have e : A8 n (fun x => if x < n then mdf n g x else 0) = A8 n (mdf n g) := zF (fun x hx => if_pos hx); simp only [jk, decide_eq_false h1, cond_false, e]
 · apply zBq; have h1 : ((i : Int) < (n : Int)) := by omega
   have u3 : ((i : Int) < 8) := by omega
   have u4 : ((0 : Int) ≤ (i : Int)) := by omega
   have gi := (hg i hi).1; have w : wi64 ((n : Int) - 1) = ((i + (n - 1 - i) : Nat) : Int) := by rw [zB] <;> omega
   have w1 : wi64 ((i : Int) + 1) = ((i + 1 : Nat) : Int) := by rw [zB] <;> omega
   have w8 : wu8 ((g i : Nat) : Int) = ((g i : Nat) : Int) := by rw [zAz] <;> omega
   have h7 := zMP n hn g x1 i hi (n - 1 - i) (fun x => if x = i then g i else if x < i then mdf n g x else 0) (by omega) (by
    simp only [if_true]; rw [show n - (i + (n - 1 - i) + 1) = 0 by omega]
    rfl)
   have e : A8 n (fun x => if x = i then mdf n g i else if x = i then g i else if x < i then mdf n g x else 0) = A8 n (fun x => if x < i + 1 then mdf n g x else 0) := by
    apply zF; intro x _
    by_cases hx : x = i
    · rw [if_pos hx, if_pos (by omega), hx]
    · rw [if_neg hx, if_neg hx]
      by_cases hx' : x < i
      · rw [if_pos hx', if_pos (by omega)]
      · rw [if_neg hx', if_neg (by omega)]
   rw [e] at h7; simp only [jk, decide_eq_true h1, decide_eq_true u3, decide_eq_true u4, cond_true, Bool.and_true, Int.toNat_natCast, jQ hi hn, w8, zAy hi hn, w, h7, Option.bind_some, getTV_here, getTV_next, w1, ih]
theorem zH7 (n : Nat) (hn : n ≤ 8) (g : Nat → Nat) (hg : Can n g) : R je [tAi8 (A8 n g), tI (n : Int)] = some [tA8 (A8 n (mdf n g))] := by
 apply zIo; have h3 := zMQ n hn g hg (List.replicate 8 0) 0 (Nat.zero_le _); have e : A8 n (fun x => if x < 0 then mdf n g x else 0) = List.replicate 8 0 := by
  rw [zAI n]; apply zF; intro x _; rw [if_neg (by omega)]
 rw [e] at h3; simp only [Int.natCast_zero] at h3; simp only [zDw, h3, Option.bind_some, getTV_here, getTV_next]
theorem zG0 (n : Nat) (hn : n ≤ 8) (g : Nat → Nat) (a b c : Nat) (ha : a < n) (hb : b < n) (hc : c < n) : ∀ (d x : Nat), x + d = n →
  R zU [tAi8 (A8 n g), tI (n : Int), tI (a : Int), tI (b : Int), tI (c : Int), tI (x : Int)] = some (if c5 g a b c d x then [tI 1, tB true] else [tI 0, tAi8 (A8 n g), tI (n : Int), tI (a : Int), tI (b : Int), tI (c : Int)]) := by
 intro d
 induction d with
 | zero =>
  intro x hx; apply ki; have h1 : ¬ ((x : Int) < (n : Int)) := by omega
  simp only [ze, decide_eq_false h1, cond_false, c5]
  rfl
 | succ d ih =>
  intro x hx; apply ki; have hxn : x < n := by omega
  have h1 : ((x : Int) < (n : Int)) := by omega
  have w : wi64 ((x : Int) + 1) = ((x + 1 : Nat) : Int) := by rw [zB] <;> omega
  simp (disch := omega) only [ze, decide_eq_true, cond_true, Bool.and_true, Int.toNat_natCast, jQ ha hn, jQ hb hn, jQ hc hn, jQ hxn hn, zFg, zP4, w, ih (x + 1) (by omega), c5]
  by_cases e1 : g a = g c
  · by_cases e2 : g b = g x
    · by_cases e3 : g a = g b
      · simp only [decide_eq_true e1, decide_eq_true e2, decide_eq_true e3, cond_true, cond_false, Bool.not_true, Bool.and_false, Bool.false_or]
      · simp only [decide_eq_true e1, decide_eq_true e2, decide_eq_false e3, cond_true, cond_false, Bool.not_false, Bool.and_true, Bool.true_or, if_true]
    · simp only [decide_eq_true e1, decide_eq_false e2, cond_true, cond_false, Bool.and_false, Bool.false_and, Bool.false_or]
  · simp only [decide_eq_false e1, cond_false, Bool.false_and, Bool.false_or]
theorem zH8 (n : Nat) (hn : n ≤ 8) (g : Nat → Nat) (a b : Nat) (ha : a < n) (hb : b < n) : ∀ (d x : Nat), x + d = n →
  R kM [tAi8 (A8 n g), tI (n : Int), tI (a : Int), tI (b : Int), tI (x : Int)] = some (if c4 n g a b d x then [tI 1, tB true] else [tI 0, tAi8 (A8 n g), tI (n : Int), tI (a : Int), tI (b : Int)]) := by
 intro d
 induction d with
 | zero =>
  intro x hx; apply jR; have h1 : ¬ ((x : Int) < (n : Int)) := by omega
  simp only [zm, decide_eq_false h1, cond_false, c4]
  rfl
 | succ d ih =>
  intro x hx; apply jR; have hxn : x < n := by omega
  have h1 : ((x : Int) < (n : Int)) := by omega
  have w : wi64 ((x : Int) + 1) = ((x + 1 : Nat) : Int) := by rw [zB] <;> omega
  have h5 := zG0 n hn g a b x ha hb hxn (n - (x + 1)) (x + 1) (by omega); simp only [zm, decide_eq_true h1, cond_true, w, h5, c4]
  by_cases hb5 : c5 g a b x (n - (x + 1)) (x + 1) = true
  · simp only [hb5, if_true, Bool.true_or]
    rfl
  · have hb6 : c5 g a b x (n - (x + 1)) (x + 1) = false := by simpa using hb5
    have c0 : ((0 : Int) == 0) = true := rfl; simp only [hb6, Bool.false_eq_true, if_false, Option.bind_some, getTV_here, getTV_next, c0, cond_true, w, ih (x + 1) (by omega), Bool.false_or]
theorem zH9 (n : Nat) (hn : n ≤ 8) (g : Nat → Nat) (a : Nat) (ha : a < n) : ∀ (d x : Nat), x + d = n →
  R kN [tAi8 (A8 n g), tI (n : Int), tI (a : Int), tI (x : Int)] = some (if c3 n g a d x then [tI 1, tB true] else [tI 0, tAi8 (A8 n g), tI (n : Int), tI (a : Int)]) := by
 intro d
 induction d with
 | zero =>
  intro x hx; apply jS; have h1 : ¬ ((x : Int) < (n : Int)) := by omega
  simp only [zn, decide_eq_false h1, cond_false, c3]
  rfl
 | succ d ih =>
  intro x hx; apply jS; have hxn : x < n := by omega
  have h1 : ((x : Int) < (n : Int)) := by omega
  have w : wi64 ((x : Int) + 1) = ((x + 1 : Nat) : Int) := by rw [zB] <;> omega
  have h5 := zH8 n hn g a x ha hxn (n - (x + 1)) (x + 1) (by omega); simp only [zn, decide_eq_true h1, cond_true, w, h5, c3]
  by_cases hb5 : c4 n g a x (n - (x + 1)) (x + 1) = true
  · simp only [hb5, if_true, Bool.true_or]
    rfl
  · have hb6 : c4 n g a x (n - (x + 1)) (x + 1) = false := by simpa using hb5
    have c0 : ((0 : Int) == 0) = true := rfl; simp only [hb6, Bool.false_eq_true, if_false, Option.bind_some, getTV_here, getTV_next, c0, cond_true, w, ih (x + 1) (by omega), Bool.false_or]
theorem zIA (n : Nat) (hn : n ≤ 8) (g : Nat → Nat) : ∀ (d x : Nat), x + d = n →
  R kO [tAi8 (A8 n g), tI (n : Int), tI (x : Int)] = some (if c2 n g d x then [tI 1, tB true] else [tI 0]) := by
 intro d
 induction d with
 | zero =>
  intro x hx; apply jT; have h1 : ¬ ((x : Int) < (n : Int)) := by omega
  simp only [zo, decide_eq_false h1, cond_false, c2]
  rfl
 | succ d ih =>
  intro x hx; apply jT; have hxn : x < n := by omega
  have h1 : ((x : Int) < (n : Int)) := by omega
  have w : wi64 ((x : Int) + 1) = ((x + 1 : Nat) : Int) := by rw [zB] <;> omega
  have h5 := zH9 n hn g x hxn (n - (x + 1)) (x + 1) (by omega); simp only [zo, decide_eq_true h1, cond_true, w, h5, c2]
  by_cases hb5 : c3 n g x (n - (x + 1)) (x + 1) = true
  · simp only [hb5, if_true, Bool.true_or]
    rfl
  · have hb6 : c3 n g x (n - (x + 1)) (x + 1) = false := by simpa using hb5
    have c0 : ((0 : Int) == 0) = true := rfl; simp only [hb6, Bool.false_eq_true, if_false, Option.bind_some, getTV_here, getTV_next, c0, cond_true, w, ih (x + 1) (by omega), Bool.false_or]
theorem zFY (n : Nat) (hn : n ≤ 8) (g : Nat → Nat) : R zu [tAi8 (A8 n g), tI (n : Int)] = some [tB (crs n g)] := by
 apply zD1; have h2 := zIA n hn g n 0 (by omega); simp only [Int.natCast_zero] at h2; simp only [zAe, h2, Option.bind_some, crs]
 cases c2 n g n 0 <;> rfl
def IsP (n : Nat) (a : List Int) : Prop := ∃ g, Can n g ∧ crs n g = false ∧ a = A8 n (mdf n g)
open Classical in
noncomputable def isPt (a : List Int) (k : Int) : Bool := decide (1 ≤ k ∧ k ≤ 8 ∧ IsP k.toNat a)
theorem zJV {x y : List Int} (h : tAi8 x = tAi8 y) : x = y := by
 have := congrArg (fun t => gAi8 [t] 0) h; simpa using this
theorem zNK {p : Prop} {i : Decidable p} (h : p) : @decide p i = true := decide_eq_true h
theorem zGq {p : Prop} {i : Decidable p} (h : ¬ p) : @decide p i = false := decide_eq_false h
theorem zRY (a b : List Int) : (a == b) = decide (a = b) := by rw [Bool.eq_iff_iff]; simp
theorem zCN (a : List Int) (ha : B8 a) (k : Int) : R zBA [tA8 a, tI k] = some [tB (isPt a k)] := by
 apply zQL; simp only [zKB, zEg, Option.bind_some, getTV_here, isPt]
 by_cases h1 : 1 ≤ k ∧ k ≤ 8
 · have x1 := h1.1; have x2 := h1.2; obtain ⟨n, rfl⟩ : ∃ n : Nat, k = n := ⟨k.toNat, by omega⟩; simp only [decide_eq_true x1, decide_eq_true x2, Bool.and_true, Bool.not_true, cond_false]; have hn : n ≤ 8 := by omega
   rcases zL4 n hn a ha with ⟨x, r1, r2⟩ | ⟨l, r1, r2⟩
   · have hP : ¬ (1 ≤ (n : Int) ∧ (n : Int) ≤ 8 ∧ IsP (n : Int).toNat a) := by
      rintro ⟨_, _, g, hg, _, rfl⟩; obtain ⟨s, hs, _⟩ := zGk hg; exact r2 ⟨s, hs⟩
     simp only [r1, Option.bind_some, getTV_here, getTV_next, cond_false, zGq hP]
   · simp only [r2, Option.bind_some, getTV_here, getTV_next, cond_true, zH7 n hn l r1, zRY]
     by_cases he : A8 n (mdf n l) = a
     · simp only [decide_eq_true he, cond_true, zFY n hn l, Option.bind_some, getTV_here]
       by_cases hc : crs n l = false
       · have hP : (1 ≤ (n : Int) ∧ (n : Int) ≤ 8 ∧ IsP (n : Int).toNat a) := ⟨x1, x2, l, r1, hc, he.symm⟩; rw [zNK hP, hc]
         rfl
       · have hP : ¬ (1 ≤ (n : Int) ∧ (n : Int) ≤ 8 ∧ IsP (n : Int).toNat a) := by
          rintro ⟨_, _, g, hg, hc', ha'⟩; rw [Int.toNat_natCast] at hg hc' ha'; subst ha'; have h2 := zAQ n hn g hg; rw [h2] at r2; simp only [Option.some.injEq, List.cons.injEq, and_true] at r2; have e3 := zJV r2; exact hc (by rw [← zH1 (zNU hn e3)]; exact hc')
         have hc1 : crs n l = true := by simpa using hc
         rw [zGq hP, hc1]
         rfl
     · have hP : ¬ (1 ≤ (n : Int) ∧ (n : Int) ≤ 8 ∧ IsP (n : Int).toNat a) := by
        rintro ⟨_, _, g, hg, hc', ha'⟩; rw [Int.toNat_natCast] at hg hc' ha'; subst ha'; have h2 := zAQ n hn g hg; rw [h2] at r2; simp only [Option.some.injEq, List.cons.injEq, and_true] at r2; have e3 := zJV r2; exact he (zF (fun x hx => (zFK (zNU hn e3) hx).symm))
       simp only [decide_eq_false he, cond_false, zGq hP]
 · have hd : (decide (1 ≤ k) && decide (k ≤ 8)) = false := by
    rw [← Bool.decide_and]; exact decide_eq_false h1
   have hP : ¬ (1 ≤ k ∧ k ≤ 8 ∧ IsP k.toNat a) := fun h => h1 ⟨h.1, h.2.1⟩; simp only [hd, Bool.not_false, cond_true, zGq hP]
end Go.Ev.YtknhngnhjdpedaaGreat
namespace Go.Ev.YtknhngnhjdpedaaGreat
open Go.Ev Go.Gar
theorem zSf (n : Nat) (g : Nat → Nat) : Gl n g ++ [((g n : Nat) : Int)] = Gl (n + 1) g := by
 unfold Gl; rw [List.range_succ, List.map_append]
 rfl
theorem zSe (g : Nat → Nat) : Gl 0 g = [] := rfl
theorem zJ1 (n : Nat) (hn : n ≤ 8) : ∀ i, i ≤ n → R jI [tLI (Gl i id), tI (n : Int), tI (i : Int)] = some [tI 0, tLI (Gl n id)] := by
 refine zb _ ?_ (fun i hi ih => ?_)
 · apply zAW; have h1 : ¬ ((n : Int) < (n : Int)) := by omega
   simp only [kW, decide_eq_false h1, cond_false]
 · apply zAW; have h1 : ((i : Int) < (n : Int)) := by omega
   have w : wi64 ((i : Int) + 1) = ((i + 1 : Nat) : Int) := by rw [zB] <;> omega
   have ap : apOk (Gl i id) [(i : Int)] = true := zG3 (by rw [kh]; omega); have e : Gl i id ++ [(i : Int)] = Gl (i + 1) id := zSf i id; simp only [kW, decide_eq_true h1, cond_true, ap, w, e, ih]
theorem ji (n : Nat) (hn : n ≤ 8) : R kt [tI (n : Int)] = some [tLI (Gl n id)] := by
 have h3 := zJ1 n hn 0 (Nat.zero_le _); rw [zSe] at h3; simp only [Int.natCast_zero] at h3; have h2 : R zAs [tI (n : Int)] = some [tLI (Gl n id)] := by
  apply zGX; simp only [zCF, h3, Option.bind_some, getTV_here, getTV_next]
 apply zJQ; simp only [zDF, h2, Option.bind_some, getTV_here]
theorem zPt (n : Nat) (hn : n ≤ 8) (G : Nat → Nat) (lo hi : Nat) : ∀ k, k ≤ n → R i_i_groups__merge_2 [tLI (Gl n (fun x => if x < k ∧ G x = hi then lo else G x)), tI (lo : Int), tI (hi : Int), tI (n : Int), tI (k : Int)] = some [tI 0, tLI (Gl n (fun x => if G x = hi then lo else G x))] := by
 refine zb _ ?_ (fun k hk ih => ?_)
 · apply zBY; have h1 : ¬ ((n : Int) < (n : Int)) := by omega
   have e : Gl n (fun x => if x < n ∧ G x = hi then lo else G x) = Gl n (fun x => if G x = hi then lo else G x) := by
    apply jC; intro x hx
    by_cases h : G x = hi
    · rw [if_pos ⟨hx, h⟩, if_pos h]
    · rw [if_neg (fun h' => h h'.2), if_neg h]
   simp only [b_i_groups__merge_2, decide_eq_false h1, cond_false, e]
 · apply zBY; have h1 : ((k : Int) < (n : Int)) := by omega
   have u2 : ((0 : Int) ≤ (k : Int)) := by omega
   have w : wi64 ((k : Int) + 1) = ((k + 1 : Nat) : Int) := by rw [zB] <;> omega
   have hk0 : (if k < k ∧ G k = hi then lo else G k) = G k := if_neg (by omega); simp only [b_i_groups__merge_2, decide_eq_true h1, decide_eq_true u2, cond_true, Bool.and_true, Int.toNat_natCast, kh, zCH hk, hk0, zFg, w, zTT hk]
   by_cases h : G k = hi
   · have e : Gl n (fun x => if x = k then lo else if x < k ∧ G x = hi then lo else G x) = Gl n (fun x => if x < k + 1 ∧ G x = hi then lo else G x) := by
      apply jC; intro x _
      by_cases hx : x = k
      · rw [if_pos hx, if_pos ⟨by omega, by rw [hx]; exact h⟩]
      · rw [if_neg hx]
        by_cases hx' : x < k ∧ G x = hi
        · rw [if_pos hx', if_pos ⟨by omega, hx'.2⟩]
        · rw [if_neg hx', if_neg (fun h' => hx' ⟨by omega, h'.2⟩)]
     rw [decide_eq_true h, cond_true, e, ih]
   · have e : Gl n (fun x => if x < k ∧ G x = hi then lo else G x) = Gl n (fun x => if x < k + 1 ∧ G x = hi then lo else G x) := by
      apply jC; intro x _
      by_cases hx' : x < k ∧ G x = hi
      · rw [if_pos hx', if_pos ⟨by omega, hx'.2⟩]
      · rw [if_neg hx']; rw [if_neg]; rintro ⟨h1, h2⟩
        by_cases hx : x = k
        · exact h (by rw [← hx]; exact h2)
        · exact hx' ⟨by omega, h2⟩
     rw [decide_eq_false h, cond_false, e, ih]
theorem zF7 (n : Nat) (hn : n ≤ 8) (G : Nat → Nat) (i j : Nat) (hi : i < n) (hj : j < n) : R i_i_groups__merge [tLI (Gl n G), tI (i : Int), tI (j : Int)] = some [tLI (Gl n (mrg G i j))] := by
 apply zFn; have u1 : ((i : Int) < (n : Int)) := by omega
 have u2 : ((0 : Int) ≤ (i : Int)) := by omega
 have u3 : ((j : Int) < (n : Int)) := by omega
 have u4 : ((0 : Int) ≤ (j : Int)) := by omega
 have m1 : mn ((G i : Nat) : Int) ((G j : Nat) : Int) = ((min (G i) (G j) : Nat) : Int) := by unfold mn; split <;> omega
 have m2 : mx ((G i : Nat) : Int) ((G j : Nat) : Int) = ((max (G i) (G j) : Nat) : Int) := by unfold mx; split <;> omega
 have h2 := zPt n hn G (min (G i) (G j)) (max (G i) (G j)) 0 (Nat.zero_le _); have e : Gl n (fun x => if x < 0 ∧ G x = max (G i) (G j) then min (G i) (G j) else G x) = Gl n G := by
  apply jC; intro x _; rw [if_neg (by omega)]
 rw [e] at h2; simp only [Int.natCast_zero] at h2; simp only [b_i_groups__merge, kh, decide_eq_true u1, decide_eq_true u2, decide_eq_true u3, decide_eq_true u4, Bool.and_true, cond_true, Int.toNat_natCast, zCH hi, zCH hj, m1, m2, h2, Option.bind_some, getTV_here, getTV_next]
 rfl
theorem zLF (n : Nat) (hn : n ≤ 8) (g : Nat → Nat) (hg : Can n g) : ∀ i, i ≤ n → R zq [tA8 (A8 n (mdf n g)), tLI (Gl n (mg g i)), tI (n : Int), tI (n : Int), tI (i : Int)] = some [tI 0, tA8 (A8 n (mdf n g)), tLI (Gl n g)] := by
 refine zb _ ?_ (fun i hi ih => ?_)
 · apply jl; have h1 : ¬ ((n : Int) < (n : Int)) := by omega
   have e : Gl n (mg g n) = Gl n g := jC (fun x hx => zR9 g hx); simp only [kJ, decide_eq_false h1, cond_false, e]
 · apply jl; have h1 : ((i : Int) < (n : Int)) := by omega
   have u1 : ((i : Int) < 8) := by omega
   have u2 : ((0 : Int) ≤ (i : Int)) := by omega
   have w : wi64 ((i : Int) + 1) = ((i + 1 : Nat) : Int) := by rw [zB] <;> omega
   have hl := zIy hg hi; have w2 : wi64 ((mdf n g i : Nat) : Int) = ((mdf n g i : Nat) : Int) := by rw [zB] <;> omega
   have h2 : ¬ ((n : Int) ≤ ((mdf n g i : Nat) : Int)) := by omega
   have e : Gl n (mrg (mg g i) i (mdf n g i)) = Gl n (mg g (i + 1)) := jC (fun x hx => zR8 hg hi hx); simp only [kJ, decide_eq_true h1, decide_eq_true u1, decide_eq_true u2, cond_true, Bool.and_true, Int.toNat_natCast, jQ hi hn, w2, decide_eq_false h2, cond_false, zF7 n hn (mg g i) i (mdf n g i) hi hl, Option.bind_some, getTV_here, e, w, ih]
theorem zJw (n : Nat) (hn : n ≤ 8) (a : List Int) (ha : B8 a) : ∀ i, i ≤ n → ∀ G : Nat → Nat, Can n G →
  R zq [tA8 a, tLI (Gl n G), tI (n : Int), tI (n : Int), tI (i : Int)] = some [tI 1, tLI [], tB false] ∧ (∃ y, y < n ∧ (n : Int) ≤ List.getD a y 0) ∨
  ∃ G' : Nat → Nat, Can n G' ∧ R zq [tA8 a, tLI (Gl n G), tI (n : Int), tI (n : Int), tI (i : Int)] = some [tI 0, tA8 a, tLI (Gl n G')] := by
 refine zb _ (fun G hG => ?_) (fun i hi ih G hG => ?_)
 · right; refine ⟨G, hG, ?_⟩; apply jl; have h1 : ¬ ((n : Int) < (n : Int)) := by omega
   simp only [kJ, decide_eq_false h1, cond_false]
 · have h1 : ((i : Int) < (n : Int)) := by omega
   have u1 : ((i : Int) < 8) := by omega
   have u2 : ((0 : Int) ≤ (i : Int)) := by omega
   have w : wi64 ((i : Int) + 1) = ((i + 1 : Nat) : Int) := by rw [zB] <;> omega
   have hb := (ha.at (show i < 8 by omega)).2; have w2 : wi64 (List.getD a i 0) = List.getD a i 0 := by rw [zB] <;> omega
   by_cases h2 : (n : Int) ≤ List.getD a i 0
   · left; refine ⟨?_, i, hi, h2⟩; apply jl; simp only [kJ, decide_eq_true h1, decide_eq_true u1, decide_eq_true u2, cond_true, Bool.and_true, Int.toNat_natCast, w2, decide_eq_true h2]
   · obtain ⟨j, hj⟩ : ∃ j : Nat, List.getD a i 0 = (j : Int) := ⟨(List.getD a i 0).toNat, by omega⟩; have hm := zF7 n hn G i j hi (by omega); have hstep : ∀ o : List TV, R zq [tA8 a, tLI (Gl n (mrg G i j)), tI (n : Int), tI (n : Int), tI ((i + 1 : Nat) : Int)] = some o → R zq [tA8 a, tLI (Gl n G), tI (n : Int), tI (n : Int), tI (i : Int)] = some o := by
      intro o ho; apply jl; simp only [kJ, decide_eq_true h1, decide_eq_true u1, decide_eq_true u2, cond_true, Bool.and_true, Int.toNat_natCast, w2, decide_eq_false h2, cond_false]; rw [hj]; simp only [hm, Option.bind_some, getTV_here, w]; exact ho
     rcases ih (mrg G i j) (zLu hG hi (by omega)) with ⟨r1, r2⟩ | ⟨G', r1, r2⟩
     · exact .inl ⟨hstep _ r1, r2⟩
     · exact .inr ⟨G', r1, hstep _ r2⟩
theorem zQl (n : Nat) (hn : n ≤ 8) (g : Nat → Nat) (x1 : List Int) (i : Nat) (hi : i < n) (x6 x7 : Int) : ∀ (d j : Nat) (h : Nat → Nat), j + d = n → h i = g i →
  R i_i_groups__part_7 [tLI (Gl n g), tA8 x1, tA8 (A8 n h), tI (i : Int), tI ((g i : Nat) : Int), tI (j : Int), tI x6, tI x7] = some [tI 0, tLI (Gl n g), tA8 x1, tA8 (A8 n (fun x => if x = i then nx g i d j else h x)), tI x6, tI x7] := by
 intro d
 induction d with
 | zero =>
  intro j h hj hh; apply zBs; have h1 : ¬ ((j : Int) < (n : Int)) := by omega
  have e : A8 n h = A8 n (fun x => if x = i then nx g i 0 j else h x) := by
   apply zF; intro x _
   by_cases hx : x = i
   · rw [if_pos hx, hx, hh]; rfl
   · rw [if_neg hx]
  rw [← e]; simp only [b_i_groups__part_7, kh, decide_eq_false h1, cond_false]
 | succ d ih =>
  intro j h hj hh; apply zBs; have hjn : j < n := by omega
  have h1 : ((j : Int) < (n : Int)) := by omega
  have u2 : ((0 : Int) ≤ (j : Int)) := by omega
  have u3 : ((i : Int) < 8) := by omega
  have u4 : ((0 : Int) ≤ (i : Int)) := by omega
  have w : wi64 ((j : Int) + 1) = ((j + 1 : Nat) : Int) := by rw [zB] <;> omega
  have w8 : wu8 (j : Int) = (j : Int) := by rw [zAz] <;> omega
  simp only [b_i_groups__part_7, kh, decide_eq_true h1, decide_eq_true u2, decide_eq_true u3, decide_eq_true u4, cond_true, Bool.and_true, Int.toNat_natCast, zCH hjn, zFg, w, w8, zAy hi hn, nx]
  by_cases hg : g j = g i
  · simp only [decide_eq_true hg, cond_true, if_pos hg]
  · simp only [decide_eq_false hg, cond_false, if_neg hg, ih (j + 1) h (by omega) hh]
theorem zQm (n : Nat) (hn : n ≤ 8) (g : Nat → Nat) (hg : Can n g) (x1 : List Int) : ∀ i, i ≤ n →
  R i_i_groups__part_3 [tLI (Gl n g), tA8 x1, tA8 (A8 n (fun x => if x < i then mdf n g x else 0)), tI (n : Int), tI (i : Int)] = some [tI 0, tA8 x1, tA8 (A8 n (mdf n g))] := by
 refine zb _ ?_ (fun i hi ih => ?_)
 · apply zBt; have h1 : ¬ ((n : Int) < (n : Int)) := by omega
   have e : A8 n (fun x => if x < n then mdf n g x else 0) = A8 n (mdf n g) := zF (fun x hx => if_pos hx); simp only [b_i_groups__part_3, decide_eq_false h1, cond_false, e]
 · apply zBt; have h1 : ((i : Int) < (n : Int)) := by omega
   have u3 : ((i : Int) < 8) := by omega
   have u4 : ((0 : Int) ≤ (i : Int)) := by omega
   have gi := (hg i hi).1; have w1 : wi64 ((i : Int) + 1) = ((i + 1 : Nat) : Int) := by rw [zB] <;> omega
   have w8 : wu8 ((g i : Nat) : Int) = ((g i : Nat) : Int) := by rw [zAz] <;> omega
   have h7 := zQl n hn g x1 i hi (n : Int) (i : Int) (n - (i + 1)) (i + 1) (fun x => if x = i then g i else if x < i then mdf n g x else 0) (by omega) (by simp); have e : A8 n (fun x => if x = i then nx g i (n - (i + 1)) (i + 1) else if x = i then g i else if x < i then mdf n g x else 0) = A8 n (fun x => if x < i + 1 then mdf n g x else 0) := by
    apply zF; intro x _
    by_cases hx : x = i
    · rw [if_pos hx, if_pos (by omega), hx]; rfl
    · rw [if_neg hx, if_neg hx]
      by_cases hx' : x < i
      · rw [if_pos hx', if_pos (by omega)]
      · rw [if_neg hx', if_neg (by omega)]
   rw [e] at h7; simp only [b_i_groups__part_3, kh, decide_eq_true h1, decide_eq_true u3, decide_eq_true u4, cond_true, Bool.and_true, Int.toNat_natCast, zCH hi, w8, zAy hi hn, w1, h7, Option.bind_some, getTV_here, getTV_next, ih]
theorem zJG (n : Nat) (hn : n ≤ 8) (g : Nat → Nat) (hg : Can n g) : R i_i_groups__part [tLI (Gl n g)] = some [tA8 (A8 n (mdf n g))] := by
 apply zGw; have h3 := zQm n hn g hg (List.replicate 8 0) 0 (Nat.zero_le _); have e : A8 n (fun x => if x < 0 then mdf n g x else 0) = List.replicate 8 0 := by
  rw [zAI n]; apply zF; intro x _; rw [if_neg (by omega)]
 rw [e] at h3; simp only [Int.natCast_zero] at h3; simp only [b_i_groups__part, kh, h3, Option.bind_some, getTV_here, getTV_next]
theorem zCd (n : Nat) (hn : n ≤ 8) (g : Nat → Nat) (hg : Can n g) : R kg [tA8 (A8 n (mdf n g)), tI (n : Int)] = some [tLI (Gl n g), tB true] := by
 have h3 := zLF n hn g hg 0 (Nat.zero_le _); have e : Gl n (mg g 0) = Gl n id := jC (fun x hx => zR7 hg hx); rw [e] at h3; simp only [Int.natCast_zero] at h3; apply zEN; have c0 : ((0 : Int) == 0) = true := rfl; simp only [zBm, ji n hn, h3, Option.bind_some, getTV_here, getTV_next, c0, cond_true, zJG n hn g hg, beq_self_eq_true]
theorem zL5 (n : Nat) (hn : n ≤ 8) (a : List Int) (ha : B8 a) : (∃ x, R kg [tA8 a, tI (n : Int)] = some [tLI x, tB false] ∧ ¬ ∃ g, Can n g ∧ a = A8 n (mdf n g)) ∨ ∃ g, Can n g ∧ a = A8 n (mdf n g) := by
 by_cases hP : ∃ g, Can n g ∧ a = A8 n (mdf n g)
 · exact .inr hP
 · left; have hid : Can n id := fun x _ => ⟨Nat.le_refl _, rfl⟩; have c0 : ((0 : Int) == 0) = true := rfl; have c1 : ((1 : Int) == 0) = false := rfl
   rcases zJw n hn a ha 0 (Nat.zero_le _) id hid with ⟨r1, _⟩ | ⟨G', r1, r2⟩
   · refine ⟨[], ?_, hP⟩; simp only [Int.natCast_zero] at r1; apply zEN; simp only [zBm, ji n hn, r1, Option.bind_some, getTV_here, getTV_next, c1, cond_false]
   · refine ⟨Gl n G', ?_, hP⟩; simp only [Int.natCast_zero] at r2; have hne : ¬ A8 n (mdf n G') = a := fun h => hP ⟨G', r1, h.symm⟩; apply zEN; simp only [zBm, ji n hn, r2, Option.bind_some, getTV_here, getTV_next, c0, cond_true, zJG n hn G' r1, zRY, decide_eq_false hne]
theorem zJ9 (n : Nat) (hn : n ≤ 8) (g : Nat → Nat) (a b c : Nat) (ha : a < n) (hb : b < n) (hc : c < n) (x6 x7 : Int) : ∀ (d x : Nat), x + d = n →
  R i_i_groups__crossing_12 [tLI (Gl n g), tI (n : Int), tI (a : Int), tI (b : Int), tI (c : Int), tI (x : Int), tI x6, tI x7] = some (if c5 g a b c d x then [tI 1, tI (a : Int), tI (b : Int), tB true] else [tI 0, tLI (Gl n g), tI (n : Int), tI (a : Int), tI (b : Int), tI (c : Int), tI x6, tI x7]) := by
 intro d
 induction d with
 | zero =>
  intro x hx; apply jn; have h1 : ¬ ((x : Int) < (n : Int)) := by omega
  simp only [b_i_groups__crossing_12, decide_eq_false h1, cond_false, c5]
  rfl
 | succ d ih =>
  intro x hx; apply jn; have hxn : x < n := by omega
  have h1 : ((x : Int) < (n : Int)) := by omega
  have w : wi64 ((x : Int) + 1) = ((x + 1 : Nat) : Int) := by rw [zB] <;> omega
  simp (disch := omega) only [b_i_groups__crossing_12, kh, decide_eq_true, cond_true, Bool.and_true, Int.toNat_natCast, zCH ha, zCH hb, zCH hc, zCH hxn, zFg, zP4, w, ih (x + 1) (by omega), c5]
  by_cases e1 : g a = g c
  · by_cases e2 : g b = g x
    · by_cases e3 : g a = g b
      · simp only [decide_eq_true e1, decide_eq_true e2, decide_eq_true e3, cond_true, cond_false, Bool.not_true, Bool.and_false, Bool.false_or]
      · simp only [decide_eq_true e1, decide_eq_true e2, decide_eq_false e3, cond_true, cond_false, Bool.not_false, Bool.and_true, Bool.true_or, if_true]
    · simp only [decide_eq_true e1, decide_eq_false e2, cond_true, cond_false, Bool.and_false, Bool.false_and, Bool.false_or]
  · simp only [decide_eq_false e1, cond_false, Bool.false_and, Bool.false_or]
theorem zGs (n : Nat) (hn : n ≤ 8) (g : Nat → Nat) (a b : Nat) (ha : a < n) (hb : b < n) (x6 x7 : Int) : ∀ (d x : Nat), x + d = n →
  R i_i_groups__crossing_9 [tLI (Gl n g), tI (n : Int), tI (a : Int), tI (b : Int), tI (x : Int), tI x6, tI x7] = some (if c4 n g a b d x then [tI 1, tI (a : Int), tI (b : Int), tB true] else [tI 0, tLI (Gl n g), tI (n : Int), tI (a : Int), tI (b : Int), tI x6, tI x7]) := by
 intro d
 induction d with
 | zero =>
  intro x hx; apply zAJ; have h1 : ¬ ((x : Int) < (n : Int)) := by omega
  simp only [b_i_groups__crossing_9, decide_eq_false h1, cond_false, c4]
  rfl
 | succ d ih =>
  intro x hx; apply zAJ; have hxn : x < n := by omega
  have h1 : ((x : Int) < (n : Int)) := by omega
  have w : wi64 ((x : Int) + 1) = ((x + 1 : Nat) : Int) := by rw [zB] <;> omega
  have h5 := zJ9 n hn g a b x ha hb hxn x6 x7 (n - (x + 1)) (x + 1) (by omega); simp only [b_i_groups__crossing_9, decide_eq_true h1, cond_true, w, h5, c4]
  by_cases hb5 : c5 g a b x (n - (x + 1)) (x + 1) = true
  · simp only [hb5, if_true, Bool.true_or]
    rfl
  · have hb6 : c5 g a b x (n - (x + 1)) (x + 1) = false := by simpa using hb5
    have c0 : ((0 : Int) == 0) = true := rfl; simp only [hb6, Bool.false_eq_true, if_false, Option.bind_some, getTV_here, getTV_next, c0, cond_true, w, ih (x + 1) (by omega), Bool.false_or]
theorem zLH (n : Nat) (hn : n ≤ 8) (g : Nat → Nat) (a : Nat) (ha : a < n) (x6 x7 : Int) : ∀ (d x : Nat), x + d = n →
  ∃ p q : Int, R i_i_groups__crossing_6 [tLI (Gl n g), tI (n : Int), tI (a : Int), tI (x : Int), tI x6, tI x7] = some (if c3 n g a d x then [tI 1, tI p, tI q, tB true] else [tI 0, tLI (Gl n g), tI (n : Int), tI x6, tI x7]) := by
 intro d
 induction d with
 | zero =>
  intro x hx; refine ⟨0, 0, ?_⟩; apply zM; have h1 : ¬ ((x : Int) < (n : Int)) := by omega
  simp only [b_i_groups__crossing_6, decide_eq_false h1, cond_false, c3]
  rfl
 | succ d ih =>
  intro x hx; have hxn : x < n := by omega
  have h1 : ((x : Int) < (n : Int)) := by omega
  have w : wi64 ((x : Int) + 1) = ((x + 1 : Nat) : Int) := by rw [zB] <;> omega
  have h5 := zGs n hn g a x ha hxn x6 x7 (n - (x + 1)) (x + 1) (by omega); obtain ⟨p, q, ih'⟩ := ih (x + 1) (by omega)
  by_cases hb5 : c4 n g a x (n - (x + 1)) (x + 1) = true
  · refine ⟨a, x, ?_⟩; apply zM; simp only [b_i_groups__crossing_6, decide_eq_true h1, cond_true, w, h5, c3]; simp only [hb5, if_true, Bool.true_or]
    rfl
  · refine ⟨p, q, ?_⟩; have hb6 : c4 n g a x (n - (x + 1)) (x + 1) = false := by simpa using hb5
    have c0 : ((0 : Int) == 0) = true := rfl; apply zM; simp only [b_i_groups__crossing_6, decide_eq_true h1, cond_true, w, h5, c3]; simp only [hb6, Bool.false_eq_true, if_false, Option.bind_some, getTV_here, getTV_next, c0, cond_true, w, ih', Bool.false_or]
theorem zLI (n : Nat) (hn : n ≤ 8) (g : Nat → Nat) : ∀ (d x : Nat), x + d = n →
  ∃ p q : Int, R i_i_groups__crossing_3 [tLI (Gl n g), tI (n : Int), tI (n : Int), tI (x : Int)] = some (if c2 n g d x then [tI 1, tI p, tI q, tB true] else [tI 0]) := by
 intro d
 induction d with
 | zero =>
  intro x hx; refine ⟨0, 0, ?_⟩; apply zN; have h1 : ¬ ((x : Int) < (n : Int)) := by omega
  simp only [b_i_groups__crossing_3, decide_eq_false h1, cond_false, c2]
  rfl
 | succ d ih =>
  intro x hx; have hxn : x < n := by omega
  have h1 : ((x : Int) < (n : Int)) := by omega
  have w : wi64 ((x : Int) + 1) = ((x + 1 : Nat) : Int) := by rw [zB] <;> omega
  obtain ⟨p, q, h5⟩ := zLH n hn g x hxn (n : Int) (x : Int) (n - (x + 1)) (x + 1) (by omega); obtain ⟨p', q', ih'⟩ := ih (x + 1) (by omega)
  by_cases hb5 : c3 n g x (n - (x + 1)) (x + 1) = true
  · refine ⟨p, q, ?_⟩; apply zN; simp only [b_i_groups__crossing_3, decide_eq_true h1, cond_true, w, h5, c2]; simp only [hb5, if_true, Bool.true_or]
    rfl
  · refine ⟨p', q', ?_⟩; have hb6 : c3 n g x (n - (x + 1)) (x + 1) = false := by simpa using hb5
    have c0 : ((0 : Int) == 0) = true := rfl; apply zN; simp only [b_i_groups__crossing_3, decide_eq_true h1, cond_true, w, h5, c2]; simp only [hb6, Bool.false_eq_true, if_false, Option.bind_some, getTV_here, getTV_next, c0, cond_true, w, ih', Bool.false_or]
theorem zF9 (n : Nat) (hn : n ≤ 8) (g : Nat → Nat) : ∃ p q : Int, R i_i_groups__crossing [tLI (Gl n g)] = some [tI p, tI q, tB (crs n g)] := by
 obtain ⟨p, q, h2⟩ := zLI n hn g n 0 (by omega); simp only [Int.natCast_zero] at h2
 by_cases hb5 : c2 n g n 0 = true
 · refine ⟨p, q, ?_⟩; apply zv; simp only [b_i_groups__crossing, kh, h2, Option.bind_some, crs]; rw [if_pos hb5, hb5]
   rfl
 · have hb6 : c2 n g n 0 = false := by simpa using hb5
   refine ⟨0, 0, ?_⟩; apply zv; simp only [b_i_groups__crossing, kh, h2, Option.bind_some, crs]; rw [if_neg hb5, hb6]
   rfl
theorem zAC (a : List Int) (ha : B8 a) (k : Int) : R zj [tA8 a, tI k] = some [tB (isPt a k)] := by
 have hct : R zBU [tI k] = some [tB (decide (1 ≤ k) && decide (k ≤ 8))] := by
  apply zIq; simp only [zDy, zC6, Option.bind_some, getTV_here]
 apply zOe; simp only [zIP, hct, Option.bind_some, getTV_here, isPt]
 by_cases h1 : 1 ≤ k ∧ k ≤ 8
 · have x1 := h1.1; have x2 := h1.2; obtain ⟨n, rfl⟩ : ∃ n : Nat, k = n := ⟨k.toNat, by omega⟩; simp only [decide_eq_true x1, decide_eq_true x2, Bool.and_true, Bool.not_true, cond_false]; have hn : n ≤ 8 := by omega
   rcases zL5 n hn a ha with ⟨x, r1, r2⟩ | ⟨g, r1, rfl⟩
   · have hP : ¬ (1 ≤ (n : Int) ∧ (n : Int) ≤ 8 ∧ IsP (n : Int).toNat a) := by
      rintro ⟨_, _, g, hg, _, he⟩; exact r2 ⟨g, hg, he⟩
     simp only [r1, Option.bind_some, getTV_here, getTV_next, Bool.not_false, cond_true, zGq hP]
   · obtain ⟨p, q, hx⟩ := zF9 n hn g; simp only [zCd n hn g r1, Option.bind_some, getTV_here, getTV_next, Bool.not_true, cond_false, hx]
     by_cases hc : crs n g = false
     · have hP : (1 ≤ (n : Int) ∧ (n : Int) ≤ 8 ∧ IsP (n : Int).toNat (A8 n (mdf n g))) := ⟨x1, x2, g, r1, hc, rfl⟩; rw [zNK hP, hc]
       rfl
     · have hP : ¬ (1 ≤ (n : Int) ∧ (n : Int) ≤ 8 ∧ IsP (n : Int).toNat (A8 n (mdf n g))) := by
        rintro ⟨_, _, g', hg, hc', he⟩; rw [Int.toNat_natCast] at hg hc' he; have h2 := zAQ n hn g' hg; have h3 := zAQ n hn g r1; rw [he, h2] at h3; simp only [Option.some.injEq, List.cons.injEq, and_true] at h3; have e3 := zJV h3; exact hc (by rw [← zH1 (zNU hn e3)]; exact hc')
       have hc1 : crs n g = true := by simpa using hc
       rw [zGq hP, hc1]
       rfl
 · have hd : (decide (1 ≤ k) && decide (k ≤ 8)) = false := by
    rw [← Bool.decide_and]; exact decide_eq_false h1
   have hP : ¬ (1 ≤ k ∧ k ≤ 8 ∧ IsP k.toNat a) := fun h => h1 ⟨h.1, h.2.1⟩; simp only [hd, Bool.not_false, cond_true, zGq hP]
end Go.Ev.YtknhngnhjdpedaaGreat
namespace Go.Ev.YtknhngnhjdpedaaGreat
open Go.Ev Go.Gar
theorem zJL {i : Nat} (h : i < 1000) : wi64 ((i : Int) + 1) = ((i + 1 : Nat) : Int) := by rw [zB] <;> omega
theorem zSh {i : Nat} (h : i < 256) : wu8 (i : Int) = (i : Int) := zAz (by omega) (by omega)
theorem zQk (n : Nat) (hn : n ≤ 8) (s t : Pm n) (z : List Int) : ∀ i, i ≤ n → R zFM [tA8 (sA s), tA8 (sA t), tA8 z, tA8 (A8 n fun x => if x < i then t.f (s.f x) else 0), tI (n : Int), tI (i : Int)] = some [tI 0, tA8 z, tA8 (sA (s * t))] := by
 refine zb _ ?_ (fun i hi ih => ?_)
 · apply zKR; rw [show sA (s * t) = A8 n (fun x => t.f (s.f x)) from rfl, zF (g := fun x => t.f (s.f x)) (fun x hx => by simp [hx])]; simp [zFd]
 · apply zKR; have h1 := s.lt hi; simp (disch := omega) only [zFd, decide_eq_true, cond_true, Bool.and_true, Int.toNat_natCast, zJL, zGb, zAy]; rw [zF (g := fun x => if x < i + 1 then t.f (s.f x) else 0) (fun x hx => by
    by_cases h2 : x = i
    · subst h2; simp
    · by_cases h3 : x < i
      · have : x < i + 1 := by omega
        simp [h2, h3, this]
      · have : ¬ x < i + 1 := by omega
        simp [h2, h3, this])]
   exact ih
theorem zTG (n : Nat) (hn : n ≤ 8) (s t : Pm n) : R zLz [tA8 (sA s), tA8 (sA t), tI (n : Int)] = some [tA8 (sA (s * t))] := by
 apply zRi; have h := zQk n hn s t (List.replicate 8 0) 0 (Nat.zero_le _); rw [zF (g := fun _ => 0) (fun x hx => by simp), ← zAI] at h; simp only [Int.natCast_zero] at h; simp only [zMe, h, Option.bind_some, getTV_here, getTV_next]
theorem zMM (n : Nat) (hn : n ≤ 8) (s t : Pm n) (z : List Int) : ∀ i, i ≤ n → R zBz [tA8 (sA s), tA8 (sA t), tA8 z, tA8 (A8 n fun x => if x < i then t.f (s.f x) else 0), tI (n : Int), tI (i : Int)] = some [tI 0, tA8 z, tA8 (sA (s * t))] := by
 refine zb _ ?_ (fun i hi ih => ?_)
 · apply zGO; rw [show sA (s * t) = A8 n (fun x => t.f (s.f x)) from rfl, zF (g := fun x => t.f (s.f x)) (fun x hx => by simp [hx])]; simp [zB8]
 · apply zGO; have h1 := s.lt hi; simp (disch := omega) only [zB8, decide_eq_true, cond_true, Bool.and_true, Int.toNat_natCast, zJL, zGb, zAy]; rw [zF (g := fun x => if x < i + 1 then t.f (s.f x) else 0) (fun x hx => by
    by_cases h2 : x = i
    · subst h2; simp
    · by_cases h3 : x < i
      · have : x < i + 1 := by omega
        simp [h2, h3, this]
      · have : ¬ x < i + 1 := by omega
        simp [h2, h3, this])]
   exact ih
theorem zH6 (n : Nat) (hn : n ≤ 8) (s t : Pm n) : R zCW [tA8 (sA s), tA8 (sA t), tI (n : Int)] = some [tA8 (sA (s * t))] := by
 apply zNY; have h := zMM n hn s t (List.replicate 8 0) 0 (Nat.zero_le _); rw [zF (g := fun _ => 0) (fun x hx => by simp), ← zAI] at h; simp only [Int.natCast_zero] at h; simp only [zGB, h, Option.bind_some, getTV_here, getTV_next]
theorem zOJ (n : Nat) (hn : n ≤ 8) (s : Pm n) (z : List Int) : ∀ i, i ≤ n → R zCy [tA8 (sA s), tA8 z, tA8 (A8 n fun y => if s.g y < i then s.g y else 0), tI (n : Int), tI (i : Int)] = some [tI 0, tA8 z, tA8 (sA s⁻¹)] := by
 refine zb _ ?_ (fun i hi ih => ?_)
 · apply zHM; rw [show sA s⁻¹ = A8 n s.g from rfl, zF (g := s.g) (fun x hx => by simp [s.lt_g hx])]; simp [zDH]
 · apply zHM; have h1 := s.lt hi; simp (disch := omega) only [zDH, decide_eq_true, cond_true, Bool.and_true, Int.toNat_natCast, zJL, zSh, zGb, zAy]; rw [zF (g := fun y => if s.g y < i + 1 then s.g y else 0) (fun y hy => by
    by_cases h2 : y = s.f i
    · subst h2; simp [s.gf]
    · have h4 : s.g y ≠ i := fun h => h2 (by rw [← h, s.fg])
      by_cases h3 : s.g y < i
      · have : s.g y < i + 1 := by omega
        simp [h2, h3, this]
      · have : ¬ s.g y < i + 1 := by omega
        simp [h2, h3, this])]
   exact ih
theorem zQr (n : Nat) (hn : n ≤ 8) (s : Pm n) : R zHr [tA8 (sA s), tI (n : Int)] = some [tA8 (sA s⁻¹)] := by
 apply zOd; have h := zOJ n hn s (List.replicate 8 0) 0 (Nat.zero_le _); rw [zF (g := fun _ => 0) (fun x hx => by simp), ← zAI] at h; simp only [Int.natCast_zero] at h; simp only [zIO, h, Option.bind_some, getTV_here, getTV_next]
theorem zMW (n : Nat) (hn : n ≤ 8) (s : Pm n) (z : List Int) : ∀ i, i ≤ n → R zB3 [tA8 (sA s), tA8 z, tA8 (A8 n fun y => if s.g y < i then s.g y else 0), tI (n : Int), tI (i : Int)] = some [tI 0, tA8 z, tA8 (sA s⁻¹)] := by
 refine zb _ ?_ (fun i hi ih => ?_)
 · apply zGU; rw [show sA s⁻¹ = A8 n s.g from rfl, zF (g := s.g) (fun x hx => by simp [s.lt_g hx])]; simp [zCD]
 · apply zGU; have h1 := s.lt hi; simp (disch := omega) only [zCD, decide_eq_true, cond_true, Bool.and_true, Int.toNat_natCast, zJL, zSh, zGb, zAy]; rw [zF (g := fun y => if s.g y < i + 1 then s.g y else 0) (fun y hy => by
    by_cases h2 : y = s.f i
    · subst h2; simp [s.gf]
    · have h4 : s.g y ≠ i := fun h => h2 (by rw [← h, s.fg])
      by_cases h3 : s.g y < i
      · have : s.g y < i + 1 := by omega
        simp [h2, h3, this]
      · have : ¬ s.g y < i + 1 := by omega
        simp [h2, h3, this])]
   exact ih
theorem zIC (n : Nat) (hn : n ≤ 8) (s : Pm n) : R zCX [tA8 (sA s), tI (n : Int)] = some [tA8 (sA s⁻¹)] := by
 apply zNd; have h := zMW n hn s (List.replicate 8 0) 0 (Nat.zero_le _); rw [zF (g := fun _ => 0) (fun x hx => by simp), ← zAI] at h; simp only [Int.natCast_zero] at h; simp only [zGG, h, Option.bind_some, getTV_here, getTV_next]
theorem tmn (a b : Nat) : Int.tmod (a : Int) (b : Int) = ((a % b : Nat) : Int) := rfl
def sc (n x : Nat) : Nat := if x + 1 = n then 0 else x + 1
theorem zOr {n x : Nat} (h : x < n) : (x + 1) % n = sc n x := by
 unfold sc
 split
 · rename_i e; rw [e, Nat.mod_self]
 · exact Nat.mod_eq_of_lt (by omega)
theorem zKf {n x : Nat} (h : x < n) : sc n x < n := by
 unfold sc; split <;> omega
theorem zMo (n : Nat) : ∃ w : Pm n, ∀ x, x < n → w.f x = sc n x :=
 zR1 (fun x h => zKf h) (fun x y hx hy h => by unfold sc at h; split at h <;> split at h <;> omega)
noncomputable def whP (n : Nat) : Pm n := (zMo n).choose
theorem zIZ {n x : Nat} (h : x < n) : (whP n).f x = sc n x := (zMo n).choose_spec x h
theorem zOl {n i : Nat} (hi : i < n) (hn : n ≤ 8) : Int.tmod (wi64 ((i : Int) + 1)) (n : Int) = ((sc n i : Nat) : Int) := by
 have e : wi64 ((i : Int) + 1) = ((i + 1 : Nat) : Int) := by rw [zB] <;> omega
 rw [e, tmn, zOr hi]
theorem zRC {n i : Nat} (hi : i < n) (hn : n ≤ 8) : Int.tmod (wi64 (Int.tmod (wi64 ((i : Int) + 1)) (n : Int) + (n : Int))) (n : Int) = ((sc n i : Nat) : Int) := by
 have h := zKf hi; have e : wi64 (((sc n i : Nat) : Int) + (n : Int)) = ((sc n i + n : Nat) : Int) := by rw [zB] <;> omega
 rw [zOl hi hn, e, tmn, Nat.add_mod_right, Nat.mod_eq_of_lt h]
theorem zLC (n : Nat) (hn : n ≤ 8) (z : List Int) : ∀ i, i ≤ n → R zA9 [tA8 z, tA8 (A8 n fun x => if x < i then sc n x else 0), tI (n : Int), tI (i : Int)] = some [tI 0, tA8 z, tA8 (sA (whP n))] := by
 refine zb _ ?_ (fun i hi ih => ?_)
 · apply zEs; rw [show sA (whP n) = A8 n (whP n).f from rfl, zF (g := (whP n).f) (fun x hx => by rw [if_pos hx, zIZ hx])]; simp [zBH]
 · apply zEs; have h1 := zKf hi; have h0 : ¬ (n : Int) = 0 := by omega
   have w8 : wu8 ((sc n i : Nat) : Int) = ((sc n i : Nat) : Int) := by rw [zAz] <;> omega
   have w : wi64 ((i : Int) + 1) = ((i + 1 : Nat) : Int) := by rw [zB] <;> omega
   simp (disch := omega) only [zBH, decide_eq_true, cond_true, Bool.and_true, Int.toNat_natCast, ja, decide_eq_false h0, Bool.not_false, zOl hi hn, w8, zAy hi hn]; rw [zF (g := fun x => if x < i + 1 then sc n x else 0) (fun x hx => by
    by_cases h2 : x = i
    · subst h2; simp
    · by_cases h3 : x < i
      · have : x < i + 1 := by omega
        simp [h2, h3, this]
      · have : ¬ x < i + 1 := by omega
        simp [h2, h3, this]), w]
   exact ih
theorem zF8 (n : Nat) (hn : n ≤ 8) : R zCo [tI (n : Int)] = some [tA8 (sA (whP n))] := by
 apply zLT; have h := zLC n hn (List.replicate 8 0) 0 (Nat.zero_le _); rw [zF (g := fun _ => 0) (fun x hx => by simp), ← zAI] at h; simp only [Int.natCast_zero] at h; simp only [zEh, h, Option.bind_some, getTV_here, getTV_next]
theorem zJ0 (n : Nat) (hn : n ≤ 8) (z : List Int) : ∀ i, i ≤ n → R zAb [tA8 z, tA8 (A8 n fun x => if x < i then sc n x else 0), tI (n : Int), tI (n : Int), tI (i : Int)] = some [tI 0, tA8 z, tA8 (sA (whP n))] := by
 refine zb _ ?_ (fun i hi ih => ?_)
 · apply zD5; rw [show sA (whP n) = A8 n (whP n).f from rfl, zF (g := (whP n).f) (fun x hx => by rw [if_pos hx, zIZ hx])]; simp [zAi]
 · apply zD5; have h1 := zKf hi; have h0 : ¬ (n : Int) = 0 := by omega
   have w8 : wu8 ((sc n i : Nat) : Int) = ((sc n i : Nat) : Int) := by rw [zAz] <;> omega
   have w : wi64 ((i : Int) + 1) = ((i + 1 : Nat) : Int) := by rw [zB] <;> omega
   simp (disch := omega) only [zAi, decide_eq_true, cond_true, Bool.and_true, Int.toNat_natCast, ja, decide_eq_false h0, Bool.not_false, zOl hi hn, w8, zAy hi hn]; rw [zF (g := fun x => if x < i + 1 then sc n x else 0) (fun x hx => by
    by_cases h2 : x = i
    · subst h2; simp
    · by_cases h3 : x < i
      · have : x < i + 1 := by omega
        simp [h2, h3, this]
      · have : ¬ x < i + 1 := by omega
        simp [h2, h3, this]), w]
   exact ih
theorem zMH (n : Nat) (hn : n ≤ 8) : R zDd [tI (n : Int)] = some [tA8 (sA (whP n))] := by
 apply zKQ; have h := zJ0 n hn (List.replicate 8 0) 0 (Nat.zero_le _); rw [zF (g := fun _ => 0) (fun x hx => by simp), ← zAI] at h; simp only [Int.natCast_zero] at h; simp only [zDi, h, Option.bind_some, getTV_here, getTV_next]
theorem zAB (n : Nat) (hn : n ≤ 8) (s : Pm n) : R za [tA8 (sA s), tI (n : Int)] = some [tA8 (sA (s⁻¹ * whP n))] := by
 apply zGu; simp only [zA0, zIC n hn, zF8 n hn, zH6 n hn, Option.bind_some, getTV_here]
theorem zG1 (n : Nat) (hn : n ≤ 8) (s : Pm n) : R zAM [tA8 (sA s), tI (n : Int)] = some [tA8 (sA (s⁻¹ * whP n))] := by
 have h1 : R zEb [tA8 (sA s), tI (n : Int)] = some [tA8 (sA s⁻¹)] := by
  apply zLa; simp only [zEo, zQr n hn, Option.bind_some, getTV_here]
 have h2 : R zEY [tA8 (sA s⁻¹), tA8 (sA (whP n)), tI (n : Int)] = some [tA8 (sA (s⁻¹ * whP n))] := by
  apply zLW; simp only [zEk, zTG n hn, Option.bind_some, getTV_here]
 apply zFm; simp only [zAS, h1, zMH n hn, h2, Option.bind_some, getTV_here]
theorem zF2 (a : List Int) (k : Int) : isPt a k = false ∨ (isPt a k = true ∧ ∃ (n : Nat) (g : Nat → Nat) (s : Pm n), 1 ≤ n ∧ n ≤ 8 ∧ k = n ∧ Can n g ∧ crs n g = false ∧ a = A8 n (mdf n g) ∧ a = sA s) := by
 by_cases h : 1 ≤ k ∧ k ≤ 8 ∧ IsP k.toNat a
 · right; refine ⟨zNK h, ?_⟩; obtain ⟨h1, h2, g, hg, hc, rfl⟩ := h; obtain ⟨s, hs, _⟩ := zGk hg; exact ⟨k.toNat, g, s, by omega, by omega, by omega, hg, hc, rfl, hs⟩
 · left; exact zGq h
def st (n : Nat) (f : Nat → Nat) (i y : Nat) : Nat := if y = 0 then (if i = n then sc n (f (n - 1)) else 0) else if y ≤ i then sc n (f (y - 1)) else 0
theorem zOp {n : Nat} (hn0 : 1 ≤ n) (f : Nat → Nat) {i : Nat} (hi : i < n) : A8 n (fun x => if x = sc n i then sc n (f i) else st n f i x) = A8 n (st n f (i + 1)) := by
 apply zF; intro y hy; unfold st
 by_cases h : i + 1 = n
 · have e : sc n i = 0 := by unfold sc; rw [if_pos h]
   rw [e]
   by_cases h0 : y = 0
   · rw [if_pos h0, if_pos h0, if_pos h, show n - 1 = i by omega]
   · rw [if_neg h0, if_neg h0, if_neg h0]; rw [if_pos (by omega), if_pos (by omega)]
 · have e : sc n i = i + 1 := by unfold sc; rw [if_neg h]
   rw [e]
   by_cases h0 : y = 0
   · rw [if_neg (by omega), if_pos h0, if_pos h0, if_neg (by omega), if_neg h]
   · by_cases h1 : y = i + 1
     · subst h1; simp
     · rw [if_neg h1, if_neg h0, if_neg h0]
       by_cases h2 : y ≤ i
       · rw [if_pos h2, if_pos (by omega)]
       · rw [if_neg h2, if_neg (by omega)]
theorem zML (n : Nat) (hn0 : 1 ≤ n) (hn : n ≤ 8) (f : Nat → Nat) (hf : ∀ x, x < n → f x < n) (z : List Int) : ∀ i, i ≤ n → R zBy [tA8 (A8 n f), tA8 z, tA8 (A8 n (st n f i)), tI (n : Int), tI 1, tI (i : Int)] = some [tI 0, tA8 z, tA8 (A8 n (st n f n))] := by
 refine zb _ ?_ (fun i hi ih => ?_)
 · apply zGN; simp [zB7]
 · apply zGN; have h1 := zKf hi; have h2 := zKf (hf i hi); have h3 := hf i hi; have h0 : ¬ (n : Int) = 0 := by omega
   have w8 : wu8 ((sc n (f i) : Nat) : Int) = ((sc n (f i) : Nat) : Int) := by rw [zAz] <;> omega
   have w : wi64 ((i : Int) + 1) = ((i + 1 : Nat) : Int) := by rw [zB] <;> omega
   have w2 : wi64 ((f i : Nat) : Int) = ((f i : Nat) : Int) := by rw [zB] <;> omega
   have v1 : decide ((0 : Int) ≤ ((sc n i : Nat) : Int)) = true := decide_eq_true (by omega); have v2 : decide (((sc n i : Nat) : Int) < 8) = true := decide_eq_true (by omega); have v3 : decide ((i : Int) < (n : Int)) = true := decide_eq_true (by omega); have v4 : decide ((0 : Int) ≤ (i : Int)) = true := decide_eq_true (by omega); have v5 : decide ((i : Int) < 8) = true := decide_eq_true (by omega); simp only [zB7, v1, v2, v3, v4, v5, cond_true, Bool.and_true, Int.toNat_natCast, ja, decide_eq_false h0, Bool.not_false, zRC hi hn, jQ hi hn, w2, zRC h3 hn, w8, zAy h1 hn, zOp hn0 f hi]; rw [w]; exact ih
theorem zLA (n : Nat) (hn0 : 1 ≤ n) (hn : n ≤ 8) (f : Nat → Nat) (hf : ∀ x, x < n → f x < n) (z : List Int) : ∀ i, i ≤ n → R zBD [tA8 (A8 n f), tA8 z, tA8 (A8 n (st n f i)), tI (n : Int), tI ((1 % n : Nat) : Int), tI (n : Int), tI (i : Int)] = some [tI 0, tA8 z, tA8 (A8 n (st n f n))] := by
 have hx : ∀ x, x < n → Int.tmod (wi64 ((x : Int) + ((1 % n : Nat) : Int))) (n : Int) = ((sc n x : Nat) : Int) := by
  intro x hx; have h1 := Nat.mod_lt 1 (show n > 0 by omega); have e : wi64 ((x : Int) + ((1 % n : Nat) : Int)) = ((x + 1 % n : Nat) : Int) := by rw [zB] <;> omega
  rw [e, tmn, Nat.add_mod_mod, zOr hx]
 refine zb _ ?_ (fun i hi ih => ?_)
 · apply zEw; simp [zBK]
 · apply zEw; have h1 := zKf hi; have h2 := zKf (hf i hi); have h3 := hf i hi; have h0 : ¬ (n : Int) = 0 := by omega
   have w8 : wu8 ((sc n (f i) : Nat) : Int) = ((sc n (f i) : Nat) : Int) := by rw [zAz] <;> omega
   have w : wi64 ((i : Int) + 1) = ((i + 1 : Nat) : Int) := by rw [zB] <;> omega
   have w2 : wi64 ((f i : Nat) : Int) = ((f i : Nat) : Int) := by rw [zB] <;> omega
   have v1 : decide ((0 : Int) ≤ ((sc n i : Nat) : Int)) = true := decide_eq_true (by omega); have v2 : decide (((sc n i : Nat) : Int) < 8) = true := decide_eq_true (by omega); have v3 : decide ((i : Int) < (n : Int)) = true := decide_eq_true (by omega); have v4 : decide ((0 : Int) ≤ (i : Int)) = true := decide_eq_true (by omega); have v5 : decide ((i : Int) < 8) = true := decide_eq_true (by omega); simp only [zBK, hx i hi, v1, v2, v3, v4, v5, cond_true, Bool.and_true, Int.toNat_natCast, ja, decide_eq_false h0, Bool.not_false, jQ hi hn, w2, hx (f i) h3, w8, zAy h1 hn, zOp hn0 f hi]; rw [w]; exact ih
theorem zRo {n : Nat} (hn0 : 1 ≤ n) (f : Nat → Nat) : A8 n (st n f 0) = List.replicate 8 0 := by
 rw [zAI n]; apply zF; intro y hy; unfold st
 by_cases h0 : y = 0
 · rw [if_pos h0, if_neg (by omega)]
 · rw [if_neg h0, if_neg (by omega)]
end Go.Ev.YtknhngnhjdpedaaGreat
namespace Go.Ev.YtknhngnhjdpedaaGreat
open Go.Ev Go.Gar
def sm (a b : Nat → Nat) (x y : Nat) : Bool := decide (a x = a y) && decide (b x = b y)
theorem sm_iff {a b : Nat → Nat} {x y : Nat} : sm a b x y = true ↔ a x = a y ∧ b x = b y := by simp [sm]
def ls (a b : Nat → Nat) (i : Nat) : Nat → Nat → Nat
 | 0, _ => i
 | d + 1, j => if sm a b j i then j else ls a b i d (j + 1)
def lst (a b : Nat → Nat) (i : Nat) : Nat := ls a b i i 0
theorem zSB (a b : Nat → Nat) (i : Nat) : ∀ d j, j + d = i → (∀ y, y < j → sm a b y i = false) → ls a b i d j ≤ i ∧ sm a b (ls a b i d j) i = true ∧ ∀ y, y < ls a b i d j → sm a b y i = false := by
 intro d
 induction d with
 | zero =>
  intro j hj h; have : j = i := by omega
  subst this; exact ⟨Nat.le_refl _, sm_iff.2 ⟨rfl, rfl⟩, h⟩
 | succ d ih =>
  intro j hj h; rw [ls]
  by_cases h1 : sm a b j i = true
  · rw [if_pos h1]; exact ⟨by omega, h1, h⟩
  · rw [if_neg h1]; refine ih (j + 1) (by omega) (fun y hy => ?_)
    by_cases h2 : y = j
    · rw [h2]; simpa using h1
    · exact h y (by omega)
theorem zp (a b : Nat → Nat) (i : Nat) : lst a b i ≤ i ∧ sm a b (lst a b i) i = true ∧ ∀ y, y < lst a b i → sm a b y i = false := zSB a b i i 0 (by omega) (fun y hy => by omega)
theorem zM7 {a b : Nat → Nat} {x y : Nat} (h : sm a b x y = true) : lst a b x = lst a b y := by
 have hx := zp a b x; have hy := zp a b y; rw [sm_iff] at h; apply Classical.byContradiction; intro hne
 rcases Nat.lt_or_gt_of_ne hne with h1 | h1
 · have := hy.2.2 _ h1; have h2 := sm_iff.1 hx.2.1; rw [sm_iff.2 ⟨by omega, by omega⟩] at this; exact Bool.noConfusion this
 · have := hx.2.2 _ h1; have h2 := sm_iff.1 hy.2.1; rw [sm_iff.2 ⟨by omega, by omega⟩] at this; exact Bool.noConfusion this
theorem zJo (n : Nat) (a b : Nat → Nat) : Can n (lst a b) := fun x _ => ⟨(zp a b x).1, zM7 (zp a b x).2.1⟩
theorem zS2 {a b : Nat → Nat} {i c : Nat} (h1 : sm a b c i = true) (h2 : ∀ y, y < c → sm a b y i = false) : c = lst a b i := by
 have hs := zp a b i; apply Classical.byContradiction; intro hne
 rcases Nat.lt_or_gt_of_ne hne with h | h
 · rw [hs.2.2 c h] at h1; exact Bool.noConfusion h1
 · have := h2 _ h; rw [hs.2.1] at this; exact Bool.noConfusion this
def us (n : Nat) (a b : Nat → Nat) (i v : Nat) : Nat → Nat → Nat
 | 0, _ => v
 | d + 1, c => if c < n ∧ sm a b c i = true then c else us n a b i v d (c + 1)
theorem zSm {n : Nat} {a b : Nat → Nat} {i v : Nat} (hi : i < n) : ∀ d c, c ≤ lst a b i → n ≤ c + d → us n a b i v d c = lst a b i := by
 have hs := zp a b i; intro d
 induction d with
 | zero => intro c h1 h2; omega
 | succ d ih =>
  intro c h1 h2; rw [us]
  by_cases h : c = lst a b i
  · rw [if_pos ⟨by omega, by rw [h]; exact hs.2.1⟩, h]
  · have hf := hs.2.2 c (by omega); rw [if_neg (by rw [hf]; simp), ih (c + 1) (by omega) (by omega)]
theorem zMN (n : Nat) (hn : n ≤ 8) (a b : Nat → Nat) (x0 : List Int) (i : Nat) (hi : i < n) (v : Nat) : ∀ (c : Nat) (h : Nat → Nat), c ≤ 8 → h i = us n a b i v (8 - c) c →
  R ke [tA8 x0, tAi8 (A8 n a), tAi8 (A8 n b), tAi8 (A8 n h), tI (n : Int), tI (i : Int), tI ((c : Int) - 1)] = some [tI 0, tA8 x0, tAi8 (A8 n a), tAi8 (A8 n b), tAi8 (A8 n (fun x => if x = i then lst a b i else h x)), tI (n : Int), tI (i : Int)] := by
 intro c
 induction c with
 | zero =>
  intro h _ hh; apply zGP; have h1 : ¬ ((0 : Int) ≤ ((0 : Nat) : Int) - 1) := by omega
  have e : A8 n h = A8 n (fun x => if x = i then lst a b i else h x) := by
   apply zF; intro x _
   by_cases hx : x = i
   · rw [if_pos hx, hx, hh, zSm hi 8 0 (Nat.zero_le _) (by omega)]
   · rw [if_neg hx]
  rw [← e]; simp only [zAv, decide_eq_false h1, cond_false]
 | succ c ih =>
  intro h hc hh; have e8 : 8 - c = (8 - (c + 1)) + 1 := by omega
  have hu : us n a b i v (8 - c) c = if c < n ∧ sm a b c i = true then c else us n a b i v (8 - (c + 1)) (c + 1) := by rw [e8, us]
  have e0 : ((c + 1 : Nat) : Int) - 1 = (c : Int) := by omega
  have w : wi64 ((c : Int) - 1) = (c : Int) - 1 := by rw [zB] <;> omega
  have v1 : decide ((0 : Int) ≤ (c : Int)) = true := decide_eq_true (by omega); have v2 : decide ((c : Int) < 8) = true := decide_eq_true (by omega); have v3 : decide ((0 : Int) ≤ (i : Int)) = true := decide_eq_true (by omega); have v4 : decide ((i : Int) < 8) = true := decide_eq_true (by omega); apply zGP; rw [e0]
  by_cases hcn : c < n
  · have v5 : decide ((c : Int) < (n : Int)) = true := decide_eq_true (by omega); simp only [zAv, v1, v2, v3, v4, v5, cond_true, Bool.and_true, Int.toNat_natCast, jQ hcn hn, jQ hi hn, zFg, w, zAy hi hn]
    by_cases e1 : a c = a i
    · by_cases e2 : b c = b i
      · rw [if_pos ⟨hcn, sm_iff.2 ⟨e1, e2⟩⟩] at hu; have ih' := ih (fun x => if x = i then c else h x) (by omega) (by simp only [if_true]; exact hu.symm); have e : A8 n (fun x => if x = i then lst a b i else if x = i then c else h x) = A8 n (fun x => if x = i then lst a b i else h x) := by
         apply zF; intro x _
         by_cases hx : x = i
         · rw [if_pos hx, if_pos hx]
         · rw [if_neg hx, if_neg hx, if_neg hx]
        rw [e] at ih'; simp only [decide_eq_true e1, decide_eq_true e2, cond_true, ih']
      · rw [if_neg (fun h => e2 (sm_iff.1 h.2).2)] at hu; simp only [decide_eq_true e1, decide_eq_false e2, cond_true, cond_false, ih h (by omega) (by rw [hh, hu])]
    · rw [if_neg (fun h => e1 (sm_iff.1 h.2).1)] at hu; simp only [decide_eq_false e1, cond_false, ih h (by omega) (by rw [hh, hu])]
  · have v5 : decide ((c : Int) < (n : Int)) = false := decide_eq_false (by omega); rw [if_neg (fun h => hcn h.1)] at hu; simp only [zAv, v1, v5, cond_true, cond_false, w, ih h (by omega) (by rw [hh, hu])]
theorem zMO (n : Nat) (hn : n ≤ 8) (a b : Nat → Nat) (x0 : List Int) : ∀ (c : Nat), c ≤ n →
  R zB0 [tA8 x0, tAi8 (A8 n a), tAi8 (A8 n b), tAi8 (A8 n (fun x => if c ≤ x then lst a b x else 0)), tI (n : Int), tI ((c : Int) - 1)] = some [tI 0, tA8 x0, tAi8 (A8 n (lst a b)), tI (n : Int)] := by
 intro c
 induction c with
 | zero =>
  intro _; apply zGQ; have h1 : ¬ ((0 : Int) ≤ ((0 : Nat) : Int) - 1) := by omega
  have e : A8 n (fun x => if 0 ≤ x then lst a b x else 0) = A8 n (lst a b) := zF (fun x _ => if_pos (Nat.zero_le _)); simp only [zB9, decide_eq_false h1, cond_false]; rw [e]
 | succ c ih =>
  intro hc; have hi : c < n := by omega
  have e0 : ((c + 1 : Nat) : Int) - 1 = (c : Int) := by omega
  have w : wi64 ((c : Int) - 1) = (c : Int) - 1 := by rw [zB] <;> omega
  have v1 : decide ((0 : Int) ≤ (c : Int)) = true := decide_eq_true (by omega); have h8 := zMN n hn a b x0 c hi 0 8 (fun x => if c + 1 ≤ x then lst a b x else 0) (Nat.le_refl _) (by
   show (if c + 1 ≤ c then lst a b c else 0) = 0; rw [if_neg (by omega)])
  have e : A8 n (fun x => if x = c then lst a b c else if c + 1 ≤ x then lst a b x else 0) = A8 n (fun x => if c ≤ x then lst a b x else 0) := by
   apply zF; intro x _
   by_cases hx : x = c
   · rw [if_pos hx, if_pos (by omega), hx]
   · rw [if_neg hx]
     by_cases hx' : c + 1 ≤ x
     · rw [if_pos hx', if_pos (by omega)]
     · rw [if_neg hx', if_neg (by omega)]
  rw [e] at h8; have e7 : ((8 : Nat) : Int) - 1 = 7 := rfl; rw [e7] at h8; apply zGQ; rw [e0]; simp only [zB9, v1, cond_true, h8, Option.bind_some, getTV_here, getTV_next, w, ih (by omega)]
theorem zLD (n : Nat) (hn1 : 1 ≤ n) (hn : n ≤ 8) (a b : Nat → Nat) (ha : Can n a) (hb : Can n b) : R zBT [tA8 (A8 n (mdf n a)), tA8 (A8 n (mdf n b)), tI (n : Int)] = some [tA8 (A8 n (mdf n (lst a b)))] := by
 have h5 := zMO n hn a b (List.replicate 8 0) n (Nat.le_refl _); have e : A8 n (fun x => if n ≤ x then lst a b x else 0) = List.replicate 8 0 := by
  rw [zAI n]; apply zF; intro x hx; rw [if_neg (by omega)]
 have w : wi64 ((n : Int) - 1) = (n : Int) - 1 := by rw [zB] <;> omega
 rw [e] at h5; apply zNa; simp only [zGD, zAQ n hn a ha, zAQ n hn b hb, Option.bind_some, getTV_here, getTV_next, w, h5, zH7 n hn _ (zJo n a b)]
def mi (a b : Nat → Nat) (i j x : Nat) : Nat := if x < i then lst a b x else if x = i then (if lst a b i < j then lst a b i else i) else x
theorem zR5 {n : Nat} {a b : Nat → Nat} {i j : Nat} (hi : i < n) (hj : j < i) (h : sm a b j i = true) : Gl n (mrg (mi a b i j) j i) = Gl n (mi a b i (j + 1)) := by
 have hl := zM7 h; have hsi := zp a b i; have hsj := zp a b j; have e1 : mi a b i j j = lst a b i := by
  unfold mi; rw [if_pos hj, hl]
 have hji : lst a b i ≤ j := by omega
 apply jC; intro x hx; have hsx := zp a b x; unfold mrg
 by_cases hlt : lst a b i < j
 · have e2 : mi a b i j i = lst a b i := by
    unfold mi; rw [if_neg (by omega), if_pos rfl, if_pos hlt]
   rw [e1, e2, Nat.max_self, Nat.min_self]; have e3 : mi a b i (j + 1) x = mi a b i j x := by
    unfold mi; rw [if_pos hlt, if_pos (show lst a b i < j + 1 by omega)]
   rw [e3]
   split
   · rename_i h; exact h.symm
   · rfl
 · have e2 : mi a b i j i = i := by
    unfold mi; rw [if_neg (by omega), if_pos rfl, if_neg hlt]
   rw [e1, e2, Nat.max_eq_right (by omega), Nat.min_eq_left (by omega)]; unfold mi
   by_cases h1 : x < i
   · rw [if_pos h1, if_pos h1, if_neg (by omega)]
   · rw [if_neg h1, if_neg h1]
     by_cases h2 : x = i
     · rw [if_pos h2, if_pos h2, if_neg hlt, if_pos rfl, if_pos (by omega)]
     · rw [if_neg h2, if_neg h2, if_neg h2]
theorem zPD {n : Nat} {a b : Nat → Nat} {i j : Nat} (h : sm a b j i = false) : Gl n (mi a b i j) = Gl n (mi a b i (j + 1)) := by
 apply jC; intro x _; have hs := (zp a b i).2.1; have hne : lst a b i ≠ j := fun h1 => by rw [h1, h] at hs; exact Bool.noConfusion hs
 unfold mi
 by_cases h1 : lst a b i < j
 · rw [if_pos h1, if_pos (show lst a b i < j + 1 by omega)]
 · rw [if_neg h1, if_neg (show ¬ lst a b i < j + 1 by omega)]
theorem zR6 {n : Nat} (a b : Nat → Nat) (i : Nat) : Gl n (mi a b i i) = Gl n (mi a b (i + 1) 0) := by
 apply jC; intro x _; have hs := (zp a b i).1; unfold mi
 by_cases h1 : x < i
 · rw [if_pos h1, if_pos (by omega)]
 · rw [if_neg h1]
   by_cases h2 : x = i
   · subst h2; rw [if_pos rfl, if_pos (show x < x + 1 by omega)]
     split
     · rfl
     · omega
   · rw [if_neg h2, if_neg (show ¬ x < i + 1 by omega)]
     split
     · rename_i h3; rw [if_neg (Nat.not_lt_zero _), h3]
     · rfl
theorem zJ2 (n : Nat) (hn : n ≤ 8) (a b : Nat → Nat) (x0 : List Int) (i : Nat) (hi : i < n) (x5 x6 : Int) : ∀ (j : Nat), j ≤ i →
  R kS [tA8 x0, tLI (Gl n a), tLI (Gl n b), tLI (Gl n (mi a b i j)), tI (i : Int), tI x5, tI x6, tI (i : Int), tI (j : Int)] = some [tI 0, tA8 x0, tLI (Gl n a), tLI (Gl n b), tLI (Gl n (mi a b i i)), tI x5, tI x6] := by
 refine zb _ ?_ (fun j hj ih => ?_)
 · apply zD6; have h1 : ¬ ((i : Int) < (i : Int)) := by omega
   simp only [zAj, decide_eq_false h1, cond_false]
 · apply zD6; have hjn : j < n := by omega
   have w : wi64 ((j : Int) + 1) = ((j + 1 : Nat) : Int) := by rw [zB] <;> omega
   have v1 : decide ((j : Int) < (i : Int)) = true := decide_eq_true (by omega); have v2 : decide ((0 : Int) ≤ (j : Int)) = true := decide_eq_true (by omega); have v3 : decide ((0 : Int) ≤ (i : Int)) = true := decide_eq_true (by omega); have v4 : decide ((i : Int) < (n : Int)) = true := decide_eq_true (by omega); have v5 : decide ((j : Int) < (n : Int)) = true := decide_eq_true (by omega); simp only [zAj, kh, v1, v2, v3, v4, v5, cond_true, Bool.and_true, Int.toNat_natCast, zCH hjn, zCH hi, zFg, w, zF7 n hn _ j i hjn hi, Option.bind_some, getTV_here]
   by_cases e1 : a j = a i
   · by_cases e2 : b j = b i
     · simp only [decide_eq_true e1, decide_eq_true e2, cond_true, zR5 hi hj (sm_iff.2 ⟨e1, e2⟩), ih]
     · have hs : sm a b j i = false := by
        rw [Bool.eq_false_iff]; exact fun h => e2 (sm_iff.1 h).2
       simp only [decide_eq_true e1, decide_eq_false e2, cond_true, cond_false, zPD hs, ih]
   · have hs : sm a b j i = false := by
      rw [Bool.eq_false_iff]; exact fun h => e1 (sm_iff.1 h).1
     simp only [decide_eq_false e1, cond_false, zPD hs, ih]
theorem zJ3 (n : Nat) (hn : n ≤ 8) (a b : Nat → Nat) (x0 : List Int) : ∀ (i : Nat), i ≤ n →
  R zAc [tA8 x0, tLI (Gl n a), tLI (Gl n b), tLI (Gl n (mi a b i 0)), tI (n : Int), tI (i : Int)] = some [tI 0, tA8 x0, tLI (Gl n (lst a b))] := by
 refine zb _ ?_ (fun i hi ih => ?_)
 · apply zD7; have h1 : ¬ ((n : Int) < (n : Int)) := by omega
   have e : Gl n (mi a b n 0) = Gl n (lst a b) := jC (fun x hx => if_pos hx); simp only [zAk, decide_eq_false h1, cond_false, e]
 · apply zD7; have w : wi64 ((i : Int) + 1) = ((i + 1 : Nat) : Int) := by rw [zB] <;> omega
   have v1 : decide ((i : Int) < (n : Int)) = true := decide_eq_true (by omega); have h8 := zJ2 n hn a b x0 i hi (n : Int) (i : Int) 0 (Nat.zero_le _); rw [zR6] at h8; simp only [Int.natCast_zero] at h8; simp only [zAk, v1, cond_true, h8, Option.bind_some, getTV_here, getTV_next, w, ih]
theorem zMK (n : Nat) (hn1 : 1 ≤ n) (hn : n ≤ 8) (a b : Nat → Nat) (ha : Can n a) (hb : Can n b) : R zB5 [tA8 (A8 n (mdf n a)), tA8 (A8 n (mdf n b)), tI (n : Int)] = some [tA8 (A8 n (mdf n (lst a b)))] := by
 have h5 := zJ3 n hn a b (List.replicate 8 0) 0 (Nat.zero_le _); have e : Gl n (mi a b 0 0) = Gl n id := by
  apply jC; intro x _; unfold mi; rw [if_neg (by omega)]
  by_cases h : x = 0
  · rw [if_pos h, if_neg (by omega), h]; rfl
  · rw [if_neg h]; rfl
 rw [e] at h5; simp only [Int.natCast_zero] at h5; apply zKS; simp only [zDj, zCd n hn a ha, zCd n hn b hb, ji n hn, Option.bind_some, getTV_here, getTV_next, h5, zJG n hn _ (zJo n a b)]
end Go.Ev.YtknhngnhjdpedaaGreat
namespace Go.Ev.YtknhngnhjdpedaaGreat
open Go.Ev Go.Gar
inductive Eo {n : Nat} (s : Pm n) : Nat → Nat → Prop
 | re (x : Nat) : Eo s x x
 | st (x : Nat) : Eo s x (s.f x)
 | sy {x y : Nat} : Eo s x y → Eo s y x
 | tr {x y z : Nat} : Eo s x y → Eo s y z → Eo s x z
structure Lb (n : Nat) (s : Pm n) (l : Nat → Nat) : Prop where
 can : Can n l
 inv : ∀ x, x < n → l (s.f x) = l x
 orb : ∀ x, x < n → Eo s x (l x)
def up (l : Nat → Nat) (q i x : Nat) : Nat := if x = q then i else l x
end Go.Ev.YtknhngnhjdpedaaGreat
namespace Go.Ev.YtknhngnhjdpedaaGreat
open Go.Ev Go.Gar
def Xr (g : Nat → Nat) (a b c y : Nat) : Prop := g a = g c ∧ g b = g y ∧ g a ≠ g b
theorem zTI (g : Nat → Nat) (a b c : Nat) : ∀ d x, c5 g a b c d x = true ↔ ∃ y, x ≤ y ∧ y < x + d ∧ Xr g a b c y := by
 intro d
 induction d with
 | zero => intro x; simp only [c5]; exact ⟨fun h => Bool.noConfusion h, fun ⟨y, h1, h2, _⟩ => by omega⟩
 | succ d ih =>
  intro x; rw [c5, Bool.or_eq_true, ih]
  constructor
  · rintro (h | ⟨y, h1, h2, h3⟩)
    · refine ⟨x, Nat.le_refl _, by omega, ?_⟩; simp only [Bool.and_eq_true, decide_eq_true_eq, Bool.not_eq_true', decide_eq_false_iff_not] at h; exact ⟨h.1.1, h.1.2, h.2⟩
    · exact ⟨y, by omega, by omega, h3⟩
  · rintro ⟨y, h1, h2, h3⟩
    by_cases h : y = x
    · left; subst h; simp only [Bool.and_eq_true, decide_eq_true_eq, Bool.not_eq_true', decide_eq_false_iff_not]; exact ⟨⟨h3.1, h3.2.1⟩, h3.2.2⟩
    · exact .inr ⟨y, by omega, by omega, h3⟩
theorem zRV (n : Nat) (g : Nat → Nat) (a b : Nat) : ∀ d x, x + d = n → (c4 n g a b d x = true ↔ ∃ c y, x ≤ c ∧ c < y ∧ y < n ∧ Xr g a b c y) := by
 intro d
 induction d with
 | zero => intro x hx; simp only [c4]; exact ⟨fun h => Bool.noConfusion h, fun ⟨c, y, h1, h2, h3, _⟩ => by omega⟩
 | succ d ih =>
  intro x hx; rw [c4, Bool.or_eq_true, ih (x + 1) (by omega), zTI]
  constructor
  · rintro (⟨y, h1, h2, h3⟩ | ⟨c, y, h1, h2, h3, h4⟩)
    · exact ⟨x, y, Nat.le_refl _, by omega, by omega, h3⟩
    · exact ⟨c, y, by omega, h2, h3, h4⟩
  · rintro ⟨c, y, h1, h2, h3, h4⟩
    by_cases h : c = x
    · subst h; exact .inl ⟨y, by omega, by omega, h4⟩
    · exact .inr ⟨c, y, by omega, h2, h3, h4⟩
theorem zTJ (n : Nat) (g : Nat → Nat) (a : Nat) : ∀ d x, x + d = n → (c3 n g a d x = true ↔ ∃ b c y, x ≤ b ∧ b < c ∧ c < y ∧ y < n ∧ Xr g a b c y) := by
 intro d
 induction d with
 | zero => intro x hx; simp only [c3]; exact ⟨fun h => Bool.noConfusion h, fun ⟨b, c, y, h1, h2, h3, h4, _⟩ => by omega⟩
 | succ d ih =>
  intro x hx; rw [c3, Bool.or_eq_true, ih (x + 1) (by omega), zRV n g a x _ _ (by omega)]
  constructor
  · rintro (⟨c, y, h1, h2, h3, h4⟩ | ⟨b, c, y, h1, h2, h3, h4, h5⟩)
    · exact ⟨x, c, y, Nat.le_refl _, by omega, h2, h3, h4⟩
    · exact ⟨b, c, y, by omega, h2, h3, h4, h5⟩
  · rintro ⟨b, c, y, h1, h2, h3, h4, h5⟩
    by_cases h : b = x
    · subst h; exact .inl ⟨c, y, by omega, h3, h4, h5⟩
    · exact .inr ⟨b, c, y, by omega, h2, h3, h4, h5⟩
theorem zF6 (n : Nat) (g : Nat → Nat) : crs n g = true ↔ ∃ a b c y, a < b ∧ b < c ∧ c < y ∧ y < n ∧ Xr g a b c y := by
 have : ∀ d x, x + d = n → (c2 n g d x = true ↔ ∃ a b c y, x ≤ a ∧ a < b ∧ b < c ∧ c < y ∧ y < n ∧ Xr g a b c y) := by
  intro d
  induction d with
  | zero => intro x hx; simp only [c2]; exact ⟨fun h => Bool.noConfusion h, fun ⟨a, b, c, y, h1, h2, h3, h4, h5, _⟩ => by omega⟩
  | succ d ih =>
   intro x hx; rw [c2, Bool.or_eq_true, ih (x + 1) (by omega), zTJ n g x _ _ (by omega)]
   constructor
   · rintro (⟨b, c, y, h1, h2, h3, h4, h5⟩ | ⟨a, b, c, y, h1, h2, h3, h4, h5, h6⟩)
     · exact ⟨x, b, c, y, Nat.le_refl _, by omega, h2, h3, h4, h5⟩
     · exact ⟨a, b, c, y, by omega, h2, h3, h4, h5, h6⟩
   · rintro ⟨a, b, c, y, h1, h2, h3, h4, h5, h6⟩
     by_cases h : a = x
     · subst h; exact .inl ⟨b, c, y, by omega, h3, h4, h5, h6⟩
     · exact .inr ⟨a, b, c, y, by omega, h2, h3, h4, h5, h6⟩
 unfold crs; rw [this n 0 (by omega)]
 constructor
 · rintro ⟨a, b, c, y, _, h⟩; exact ⟨a, b, c, y, h⟩
 · rintro ⟨a, b, c, y, h⟩; exact ⟨a, b, c, y, Nat.zero_le _, h⟩
theorem km {n : Nat} {g : Nat → Nat} (h : crs n g = false) {a b c y : Nat} (h1 : a < b) (h2 : b < c) (h3 : c < y) (h4 : y < n) (e1 : g a = g c) (e2 : g b = g y) : g a = g b := by
 apply Classical.byContradiction; intro hne; have := (zF6 n g).2 ⟨a, b, c, y, h1, h2, h3, h4, e1, e2, hne⟩; rw [h] at this; exact Bool.noConfusion this
def Cz (n : Nat) (l : Nat → Nat) (z x : Nat) : Prop := ∀ u v, u < n → v < n → l u = l v → (z ≤ u ∧ u < x) → (z ≤ v ∧ v < x)
theorem Cz.t1 {n : Nat} {l : Nat → Nat} {z x y : Nat} (h1 : z ≤ x) (h2 : x ≤ y) (a : Cz n l z x) (b : Cz n l x y) : Cz n l z y := by
 intro u v hu hv e hin
 by_cases h : u < x
 · have := a u v hu hv e ⟨hin.1, h⟩; omega
 · have := b u v hu hv e ⟨by omega, hin.2⟩; omega
theorem Cz.t2 {n : Nat} {l : Nat → Nat} {z x y : Nat} (h1 : z ≤ x) (h2 : x ≤ y) (a : Cz n l z y) (b : Cz n l x y) : Cz n l z x := by
 intro u v hu hv e hin; have h := a u v hu hv e ⟨hin.1, by omega⟩
 by_cases hx : v < x
 · exact ⟨h.1, hx⟩
 · have := b v u hv hu e.symm ⟨by omega, h.2⟩; omega
theorem Cz.t3 {n : Nat} {l : Nat → Nat} {z x y : Nat} (h1 : z ≤ x) (h2 : x ≤ y) (a : Cz n l z y) (b : Cz n l z x) : Cz n l x y := by
 intro u v hu hv e hin; have h := a u v hu hv e ⟨by omega, hin.2⟩
 by_cases hx : x ≤ v
 · exact ⟨hx, h.2⟩
 · have := b v u hv hu e.symm ⟨h.1, by omega⟩; omega
open Classical in
noncomputable def hs (n : Nat) (l : Nat → Nat) (x : Nat) : Nat → Nat → Nat
 | 0, z => z
 | d + 1, z => if Cz n l z x then z else hs n l x d (z + 1)
noncomputable def hl (n : Nat) (l : Nat → Nat) (x : Nat) : Nat := hs n l x x 0
theorem zSG (n : Nat) (l : Nat → Nat) (x : Nat) : ∀ d z, z + d = x → (∀ y, y < z → ¬ Cz n l y x) → hs n l x d z ≤ x ∧ Cz n l (hs n l x d z) x ∧ ∀ y, y < hs n l x d z → ¬ Cz n l y x := by
 intro d
 induction d with
 | zero =>
  intro z hz h; have : z = x := by omega
  subst this; refine ⟨Nat.le_refl _, fun u v _ _ _ hin => ?_, h⟩; have h1 := hin.1; have h2 := hin.2; rw [hs] at h1; omega
 | succ d ih =>
  intro z hz h; rw [hs]
  by_cases h1 : Cz n l z x
  · rw [if_pos h1]; exact ⟨by omega, h1, h⟩
  · rw [if_neg h1]; refine ih (z + 1) (by omega) (fun y hy => ?_)
    by_cases h2 : y = z
    · rw [h2]; exact h1
    · exact h y (by omega)
theorem zEc (n : Nat) (l : Nat → Nat) (x : Nat) : hl n l x ≤ x ∧ Cz n l (hl n l x) x ∧ ∀ y, y < hl n l x → ¬ Cz n l y x := zSG n l x x 0 (by omega) (fun y hy => by omega)
theorem zFQ {n : Nat} {l : Nat → Nat} {z x : Nat} (h : z ≤ x) : Cz n l z x ↔ hl n l z = hl n l x := by
 have sz := zEc n l z; have sx := zEc n l x
 constructor
 · intro c; have c1 := Cz.t1 sz.1 h sz.2.1 c; have h1 : hl n l x ≤ hl n l z := by
    apply Classical.byContradiction; intro hne; exact sx.2.2 _ (by omega) c1
   have c2 := Cz.t2 (show hl n l x ≤ z by omega) h sx.2.1 c; have h2 : hl n l z ≤ hl n l x := by
    apply Classical.byContradiction; intro hne; exact sz.2.2 _ (by omega) c2
   omega
 · intro e; exact Cz.t3 sz.1 h (by rw [e]; exact sx.2.1) sz.2.1
theorem zRQ (n m : Nat) (l : Nat → Nat) : Can m (hl n l) := fun x _ => ⟨(zEc n l x).1, (zFQ (zEc n l x).1).1 (zEc n l x).2.1⟩
theorem zS7 {n : Nat} {l : Nat → Nat} {x w : Nat} (h1 : Cz n l w x) (h2 : ∀ y, y < w → ¬ Cz n l y x) : hl n l x = w := by
 have s := zEc n l x; apply Classical.byContradiction; intro hne
 rcases Nat.lt_or_gt_of_ne hne with h | h
 · exact h2 _ h s.2.1
 · exact s.2.2 _ h h1
theorem kr {n : Nat} {g : Nat → Nat} (hg : Can n g) (hc : crs n g = false) {p x : Nat} (hp : p < n) (hx : x < n) (h : mdf n g p = x) : mdf n (hl n g) x = sc n p := by
 have gp := hg p hp
 rcases zP (g := g) hp with ⟨k, k1, k2, k3, k4, k5⟩ | ⟨k1, k2⟩
 · have e : k = x := by omega
   subst e; have cz : Cz n g (p + 1) k := by
    intro u v hu hv e hin; have hne : g u ≠ g p := k4 u (by omega) hin.2; apply Classical.byContradiction; intro hno; have hvp : v ≠ p := fun h => by rw [h] at e; exact hne e
    have hvk : v ≠ k := fun h => by rw [h, k3] at e; exact hne e
    rcases Nat.lt_or_gt_of_ne hvp with h1 | h1
    · exact hne (by rw [e]; exact km hc h1 (show p < u by omega) hin.2 hx e.symm k3.symm)
    · have h2 : k < v := by omega
      exact hne (km hc (show p < u by omega) hin.2 h2 hv k3.symm e).symm
   have hh : hl n g k = p + 1 := zS7 cz (fun y hy c => by
    have := c p k hp hx k3.symm ⟨by omega, k1⟩; omega)
   rcases zP (g := hl n g) hx with ⟨j, j1, j2, j3, _, _⟩ | ⟨_, j2⟩
   · have c := (zFQ (show k ≤ j by omega)).2 j3.symm; have := c k p hx hp k3 ⟨Nat.le_refl _, j1⟩; omega
   · rw [j2, hh]; unfold sc; rw [if_neg (by omega)]
 · have e : g p = x := by omega
   have hxp : x ≤ p := by omega
   have gx : g x = g p := by rw [← e]; exact gp.2
   have cz : Cz n g x (p + 1) := by
    intro u v hu hv ee hin
    by_cases hgu : g u = g p
    · have hv1 := (hg v hv).1; have : ¬ p < v := fun h => k1 v h hv (by omega)
      omega
    · have hux : u ≠ x := fun h => by rw [h] at hgu; exact hgu gx
      have hup : u ≠ p := fun h => hgu (by rw [h])
      apply Classical.byContradiction; intro hno; have hvx : v ≠ x := fun h => by omega
      rcases Nat.lt_or_gt_of_ne hvx with h1 | h1
      · have := km hc h1 (show x < u by omega) (show u < p by omega) hp ee.symm gx; exact hgu (by omega)
      · have h2 : p < v := by omega
        have := km hc (show x < u by omega) (show u < p by omega) h2 hv gx ee; exact hgu (by omega)
   by_cases hn : p + 1 = n
   · have hh : hl n g x = 0 := zS7 (by
      intro u v hu hv ee hin; refine ⟨Nat.zero_le _, ?_⟩; apply Classical.byContradiction; intro hno; have := cz v u hv hu ee.symm ⟨by omega, by omega⟩; omega) (fun y hy => by omega)
     rcases zP (g := hl n g) hx with ⟨j, j1, j2, j3, _, _⟩ | ⟨_, j2⟩
     · have c := (zFQ (show x ≤ j by omega)).2 j3.symm; have := c x p hx hp gx ⟨Nat.le_refl _, j1⟩; omega
     · rw [j2, hh]; unfold sc; rw [if_pos hn]
   · have hh := (zFQ (show x ≤ p + 1 by omega)).1 cz
     rcases zP (g := hl n g) hx with ⟨j, j1, j2, j3, j4, j5⟩ | ⟨j1, _⟩
     · have c := (zFQ (show x ≤ j by omega)).2 j3.symm; have h3 := c x p hx hp gx ⟨Nat.le_refl _, j1⟩; have h4 : ¬ p + 1 < j := fun h => j4 (p + 1) (by omega) h hh.symm
       rw [j5]; unfold sc; rw [if_neg hn]; omega
     · exact (j1 (p + 1) (by omega) (by omega) hh.symm).elim
theorem zJr {n : Nat} (hn : n ≤ 8) {g : Nat → Nat} (hg : Can n g) (hc : crs n g = false) (s : Pm n) (hs : A8 n (mdf n g) = sA s) : sA (s⁻¹ * whP n) = A8 n (mdf n (hl n g)) := by
 have hf : ∀ x, x < n → mdf n g x = s.f x := zNU hn hs; apply zF; intro x hx; have hp := s.lt_g hx; have e : mdf n g (s.g x) = x := by rw [hf _ hp, s.fg]
 rw [kr hg hc hp hx e]; show (whP n).f (s.g x) = _; exact zIZ hp
theorem zM2 (G : Nat → Nat) (i j : Nat) : mrg G i j i = mrg G i j j := by
 unfold mrg
 by_cases h : G i ≤ G j
 · rw [Nat.max_eq_right h, Nat.min_eq_left h, if_pos rfl]; split <;> rfl
 · rw [Nat.max_eq_left (by omega), Nat.min_eq_right (by omega), if_pos rfl]; split <;> rfl
theorem zRO {n : Nat} {G : Nat → Nat} {i j : Nat} (hi : i < n) (hj : j < n) (z x : Nat) : Cz n (mrg G i j) z x ↔ Cz n G z x ∧ ((z ≤ i ∧ i < x) ↔ (z ≤ j ∧ j < x)) := by
 constructor
 · intro c; refine ⟨fun u v hu hv e hin => c u v hu hv (by unfold mrg; rw [e]) hin, fun h => c i j hi hj (zM2 G i j) h, fun h => c j i hj hi (zM2 G i j).symm h⟩
 · rintro ⟨c, hij⟩ u v hu hv e hin
   by_cases h : G u = G v
   · exact c u v hu hv h hin
   · have key : (G u = G i ∧ G v = G j) ∨ (G u = G j ∧ G v = G i) := by
      unfold mrg at e
      by_cases hle : G i ≤ G j
      · rw [Nat.max_eq_right hle, Nat.min_eq_left hle] at e
        by_cases h1 : G u = G j
        · rw [if_pos h1] at e
          by_cases h2 : G v = G j
          · omega
          · rw [if_neg h2] at e; exact .inr ⟨h1, by omega⟩
        · rw [if_neg h1] at e
          by_cases h2 : G v = G j
          · rw [if_pos h2] at e; exact .inl ⟨e, h2⟩
          · rw [if_neg h2] at e; omega
      · rw [Nat.max_eq_left (by omega), Nat.min_eq_right (by omega)] at e
        by_cases h1 : G u = G i
        · rw [if_pos h1] at e
          by_cases h2 : G v = G i
          · omega
          · rw [if_neg h2] at e; exact .inl ⟨h1, by omega⟩
        · rw [if_neg h1] at e
          by_cases h2 : G v = G i
          · rw [if_pos h2] at e; exact .inr ⟨e, h2⟩
          · rw [if_neg h2] at e; omega
     rcases key with ⟨k1, k2⟩ | ⟨k1, k2⟩
     · exact c j v hj hv k2.symm (hij.1 (c u i hu hi k1 hin))
     · exact c i v hi hv k2.symm (hij.2 (c u j hu hj k1 hin))
theorem zR4 {n : Nat} {g : Nat → Nat} (hg : Can n g) (z x : Nat) : (∀ k, k < n → ((z ≤ k ∧ k < x) ↔ (z ≤ mdf n g k ∧ mdf n g k < x))) ↔ Cz n g z x := by
 constructor
 · intro h; have hroot : ∀ d u, u + d = n → u < n → ((z ≤ u ∧ u < x) ↔ (z ≤ g u ∧ g u < x)) := by
    intro d
    induction d using Nat.strongRecOn with
    | ind d ih =>
     intro u hd hu
     rcases zP (g := g) hu with ⟨k, k1, k2, k3, _, k5⟩ | ⟨_, k2⟩
     · have h1 := h u hu; rw [k5] at h1; have h2 := ih (n - k) (by omega) k (by omega) k2; rw [k3] at h2; exact h1.trans h2
     · have h1 := h u hu; rw [k2] at h1; exact h1
   intro u v hu hv e hin; have h1 := (hroot (n - u) u (by omega) hu).1 hin; rw [e] at h1; exact (hroot (n - v) v (by omega) hv).2 h1
 · intro c k hk; have hl := zIy hg hk; have e : g (mdf n g k) = g k := by
    rcases zP (g := g) hk with ⟨j, _, _, j3, _, j5⟩ | ⟨_, j2⟩
    · rw [j5]; exact j3
    · rw [j2]; exact (hg k hk).2
   exact ⟨fun h => c k _ hk hl e.symm h, fun h => c _ k hl hk e h⟩
theorem zQt (n : Nat) (hn : n ≤ 8) (gb : Nat → Nat) (hb : Can n gb) (y : List Int) : ∀ i, i ≤ n → ∀ G : Nat → Nat, Can n G →
  ∃ G' : Nat → Nat, Can n G' ∧ (∀ z x, Cz n G' z x ↔ Cz n G z x ∧ ∀ k, i ≤ k → k < n → ((z ≤ k ∧ k < x) ↔ (z ≤ mdf n gb k ∧ mdf n gb k < x))) ∧
   R kP [tA8 (A8 n (mdf n gb)), tA8 y, tLI (Gl n G), tI (n : Int), tI (i : Int)] = some [tI 0, tA8 y, tLI (Gl n G')] := by
 refine zb _ (fun G hG => ?_) (fun i hi ih G hG => ?_)
 · refine ⟨G, hG, fun z x => ⟨fun h => ⟨h, fun k h1 h2 => by omega⟩, fun h => h.1⟩, ?_⟩; apply zDN; have h1 : ¬ ((n : Int) < (n : Int)) := by omega
   simp only [jW, decide_eq_false h1, cond_false]
 · have hj := zIy hb hi; obtain ⟨G', r1, r2, r3⟩ := ih (mrg G i (mdf n gb i)) (zLu hG hi hj)
   refine ⟨G', r1, fun z x => ?_, ?_⟩
   · rw [r2, zRO hi hj]
     constructor
     · rintro ⟨⟨c, h1⟩, h2⟩; refine ⟨c, fun k hk hkn => ?_⟩
       by_cases h : k = i
       · subst h; exact h1
       · exact h2 k (by omega) hkn
     · rintro ⟨c, h⟩; exact ⟨⟨c, h i (Nat.le_refl _) hi⟩, fun k hk hkn => h k (by omega) hkn⟩
   · apply zDN; have v1 : decide ((i : Int) < (n : Int)) = true := decide_eq_true (by omega); have v2 : decide ((0 : Int) ≤ (i : Int)) = true := decide_eq_true (by omega); have v3 : decide ((i : Int) < 8) = true := decide_eq_true (by omega); have w : wi64 ((i : Int) + 1) = ((i + 1 : Nat) : Int) := by rw [zB] <;> omega
     have w2 : wi64 ((mdf n gb i : Nat) : Int) = ((mdf n gb i : Nat) : Int) := by rw [zB] <;> omega
     simp only [jW, v1, v2, v3, cond_true, Bool.and_true, Int.toNat_natCast, jQ hi hn, w2, zF7 n hn G i _ hi hj, Option.bind_some, getTV_here, w, r3]
theorem zKK (n : Nat) (hn : n ≤ 8) (g : Nat → Nat) (a : Nat) (ha : a < n) (x6 x7 : Int) : ∀ (d x : Nat), x + d = n → a < x →
  ∃ p q : Int, R i_i_groups__crossing_6 [tLI (Gl n g), tI (n : Int), tI (a : Int), tI (x : Int), tI x6, tI x7] = some (if c3 n g a d x then [tI 1, tI p, tI q, tB true] else [tI 0, tLI (Gl n g), tI (n : Int), tI x6, tI x7]) ∧
   (c3 n g a d x = true → ∃ b : Nat, p = a ∧ q = b ∧ a < b ∧ ∃ c y, b < c ∧ c < y ∧ y < n ∧ Xr g a b c y) := by
 intro d
 induction d with
 | zero =>
  intro x hx hax; refine ⟨0, 0, ?_, fun h => by simp [c3] at h⟩; apply zM; have h1 : ¬ ((x : Int) < (n : Int)) := by omega
  simp only [b_i_groups__crossing_6, decide_eq_false h1, cond_false, c3]
  rfl
 | succ d ih =>
  intro x hx hax; have hxn : x < n := by omega
  have h1 : ((x : Int) < (n : Int)) := by omega
  have w : wi64 ((x : Int) + 1) = ((x + 1 : Nat) : Int) := by rw [zB] <;> omega
  have h5 := zGs n hn g a x ha hxn x6 x7 (n - (x + 1)) (x + 1) (by omega); obtain ⟨p, q, ih', hw⟩ := ih (x + 1) (by omega) (by omega)
  by_cases hb5 : c4 n g a x (n - (x + 1)) (x + 1) = true
  · refine ⟨a, x, ?_, fun _ => ?_⟩
    · apply zM; simp only [b_i_groups__crossing_6, decide_eq_true h1, cond_true, w, h5, c3]; simp only [hb5, if_true, Bool.true_or]
      rfl
    · obtain ⟨c, y, k1, k2, k3, k4⟩ := (zRV n g a x _ _ (by omega)).1 hb5; exact ⟨x, rfl, rfl, hax, c, y, by omega, k2, k3, k4⟩
  · have hb6 : c4 n g a x (n - (x + 1)) (x + 1) = false := by simpa using hb5
    refine ⟨p, q, ?_, fun h => ?_⟩
    · have c0 : ((0 : Int) == 0) = true := rfl; apply zM; simp only [b_i_groups__crossing_6, decide_eq_true h1, cond_true, w, h5, c3]; simp only [hb6, Bool.false_eq_true, if_false, Option.bind_some, getTV_here, getTV_next, c0, cond_true, w, ih', Bool.false_or]
    · rw [c3, hb6, Bool.false_or] at h; exact hw h
theorem zKL (n : Nat) (hn : n ≤ 8) (g : Nat → Nat) : ∀ (d x : Nat), x + d = n →
  ∃ p q : Int, R i_i_groups__crossing_3 [tLI (Gl n g), tI (n : Int), tI (n : Int), tI (x : Int)] = some (if c2 n g d x then [tI 1, tI p, tI q, tB true] else [tI 0]) ∧
   (c2 n g d x = true → ∃ a b : Nat, p = a ∧ q = b ∧ a < b ∧ ∃ c y, b < c ∧ c < y ∧ y < n ∧ Xr g a b c y) := by
 intro d
 induction d with
 | zero =>
  intro x hx; refine ⟨0, 0, ?_, fun h => by simp [c2] at h⟩; apply zN; have h1 : ¬ ((x : Int) < (n : Int)) := by omega
  simp only [b_i_groups__crossing_3, decide_eq_false h1, cond_false, c2]
  rfl
 | succ d ih =>
  intro x hx; have hxn : x < n := by omega
  have h1 : ((x : Int) < (n : Int)) := by omega
  have w : wi64 ((x : Int) + 1) = ((x + 1 : Nat) : Int) := by rw [zB] <;> omega
  obtain ⟨p, q, h5, hw5⟩ := zKK n hn g x hxn (n : Int) (x : Int) (n - (x + 1)) (x + 1) (by omega) (by omega); obtain ⟨p', q', ih', hw⟩ := ih (x + 1) (by omega)
  by_cases hb5 : c3 n g x (n - (x + 1)) (x + 1) = true
  · refine ⟨p, q, ?_, fun _ => ?_⟩
    · apply zN; simp only [b_i_groups__crossing_3, decide_eq_true h1, cond_true, w, h5, c2]; simp only [hb5, if_true, Bool.true_or]
      rfl
    · obtain ⟨b, k1, k2, k3, k4⟩ := hw5 hb5; exact ⟨x, b, k1, k2, k3, k4⟩
  · have hb6 : c3 n g x (n - (x + 1)) (x + 1) = false := by simpa using hb5
    refine ⟨p', q', ?_, fun h => ?_⟩
    · have c0 : ((0 : Int) == 0) = true := rfl; apply zN; simp only [b_i_groups__crossing_3, decide_eq_true h1, cond_true, w, h5, c2]; simp only [hb6, Bool.false_eq_true, if_false, Option.bind_some, getTV_here, getTV_next, c0, cond_true, w, ih', Bool.false_or]
    · rw [c2, hb6, Bool.false_or] at h; exact hw h
theorem zIn (n : Nat) (hn : n ≤ 8) (g : Nat → Nat) : ∃ p q : Int, R i_i_groups__crossing [tLI (Gl n g)] = some [tI p, tI q, tB (crs n g)] ∧ (crs n g = true → ∃ a b : Nat, p = a ∧ q = b ∧ a < b ∧ ∃ c y, b < c ∧ c < y ∧ y < n ∧ Xr g a b c y) := by
 obtain ⟨p, q, h2, hw⟩ := zKL n hn g n 0 (by omega); simp only [Int.natCast_zero] at h2
 by_cases hb5 : c2 n g n 0 = true
 · refine ⟨p, q, ?_, hw⟩; apply zv; simp only [b_i_groups__crossing, kh, h2, Option.bind_some, crs]; rw [if_pos hb5, hb5]
   rfl
 · have hb6 : c2 n g n 0 = false := by simpa using hb5
   refine ⟨0, 0, ?_, fun h => (hb5 h).elim⟩; apply zv; simp only [b_i_groups__crossing, kh, h2, Option.bind_some, crs]; rw [if_neg hb5, hb6]
   rfl
theorem zQs (n : Nat) (hn : n ≤ 8) (y : List Int) : ∀ (m : Nat) (G : Nat → Nat), Can n G → (List.range n).countP (fun x => decide (G x = x)) ≤ m →
  ∃ G' : Nat → Nat, Can n G' ∧ crs n G' = false ∧ (∀ z x, Cz n G' z x ↔ Cz n G z x) ∧ R zS [tA8 y, tLI (Gl n G)] = some [tI 0, tA8 (A8 n (mdf n G')), tI 0] := by
 have done : ∀ G : Nat → Nat, Can n G → crs n G = false → R zS [tA8 y, tLI (Gl n G)] = some [tI 0, tA8 (A8 n (mdf n G)), tI 0] := by
  intro G hG hc; obtain ⟨p, q, h1, _⟩ := zIn n hn G; rw [hc] at h1; apply zDM; simp only [jV, h1, Option.bind_some, getTV_here, getTV_next, Bool.not_false, cond_true, zJG n hn G hG]
 have wit : ∀ G : Nat → Nat, Can n G → crs n G = true → ∃ a b : Nat, a < n ∧ b < n ∧ G a ≠ G b ∧ (∀ z x, Cz n G z x → ((z ≤ a ∧ a < x) ↔ (z ≤ b ∧ b < x))) ∧ ∀ o, R zS [tA8 y, tLI (Gl n (mrg G a b))] = some o → R zS [tA8 y, tLI (Gl n G)] = some o := by
  intro G hG hc; obtain ⟨p, q, h1, hw⟩ := zIn n hn G; obtain ⟨a, b, rfl, rfl, hab, c, v, hbc, hcv, hvn, x1, x2, x3⟩ := hw hc; rw [hc] at h1
  refine ⟨a, b, by omega, by omega, x3, fun z x cz => ⟨fun h => ?_, fun h => ?_⟩, fun o ho => ?_⟩
  · have := cz a c (by omega) (by omega) x1 h; omega
  · have h2 := cz b v (by omega) hvn x2 h; exact cz c a (by omega) (by omega) x1.symm (by omega)
  · apply zDM; simp only [jV, h1, Option.bind_some, getTV_here, getTV_next, Bool.not_true, cond_false, zF7 n hn G a b (by omega) (by omega)]; exact ho
 have less : ∀ (G : Nat → Nat) (a b : Nat), Can n G → a < n → b < n → G a ≠ G b → (List.range n).countP (fun x => decide (mrg G a b x = x)) < (List.range n).countP (fun x => decide (G x = x)) := by
  intro G a b hG ha hb hne; have h1 := hG a ha; have h2 := hG b hb; have hM : max (G a) (G b) < n := by omega
  have hGM : G (max (G a) (G b)) = max (G a) (G b) := by
   by_cases h : G a ≤ G b
   · rw [Nat.max_eq_right h]; exact h2.2
   · rw [Nat.max_eq_left (by omega)]; exact h1.2
  have hGm : G (min (G a) (G b)) = min (G a) (G b) := by
   by_cases h : G a ≤ G b
   · rw [Nat.min_eq_left h]; exact h1.2
   · rw [Nat.min_eq_right (by omega)]; exact h2.2
  refine Pm.countP_lt (x := max (G a) (G b)) ?_ (List.mem_range.2 hM) ?_ (decide_eq_true hGM)
  · intro x _ hx; have hx := of_decide_eq_true hx; apply decide_eq_true; unfold mrg at hx
    by_cases h : G x = max (G a) (G b)
    · rw [if_pos h] at hx; rw [← hx, hGm] at h; omega
    · rw [if_neg h] at hx; exact hx
  · apply decide_eq_false; unfold mrg; rw [if_pos hGM]; omega
 intro m
 induction m with
 | zero =>
  intro G hG hm
  by_cases hc : crs n G = false
  · exact ⟨G, hG, hc, fun z x => Iff.rfl, done G hG hc⟩
  · have hc' : crs n G = true := by simpa using hc
    obtain ⟨a, b, ha, hb, hne, _, _⟩ := wit G hG hc'; have := less G a b hG ha hb hne; omega
 | succ m ih =>
  intro G hG hm
  by_cases hc : crs n G = false
  · exact ⟨G, hG, hc, fun z x => Iff.rfl, done G hG hc⟩
  · have hc' : crs n G = true := by simpa using hc
    obtain ⟨a, b, ha, hb, hne, hcz, hR⟩ := wit G hG hc'; have hl := less G a b hG ha hb hne; obtain ⟨G', r1, r2, r3, r4⟩ := ih (mrg G a b) (zLu hG ha hb) (by omega); refine ⟨G', r1, r2, fun z x => ?_, hR _ r4⟩; rw [r3, zRO ha hb]; exact ⟨fun h => h.1, fun h => ⟨h, hcz z x h⟩⟩
theorem zPL (n : Nat) (hn1 : 1 ≤ n) (hn : n ≤ 8) (a b : Nat → Nat) (ha : Can n a) (hb : Can n b) (ca : crs n a = false) (cb : crs n b = false) :
  ∃ r : List Int, r.length = 8 ∧
   (∃ m c1 c2 : List Int, R za [tA8 (A8 n (mdf n a)), tI (n : Int)] = some [tA8 c1] ∧ R za [tA8 (A8 n (mdf n b)), tI (n : Int)] = some [tA8 c2] ∧ R zBT [tA8 c1, tA8 c2, tI (n : Int)] = some [tA8 m] ∧
    ∃ k : List Int, R zCX [tA8 m, tI (n : Int)] = some [tA8 k] ∧ R zCW [tA8 (sA (whP n)), tA8 k, tI (n : Int)] = some [tA8 r]) ∧
   (∃ (y : List Int) (G : Nat → Nat), R kP [tA8 (A8 n (mdf n b)), tA8 (List.replicate 8 0), tLI (Gl n a), tI (n : Int), tI 0] = some [tI 0, tA8 y, tLI (Gl n G)] ∧ R zS [tA8 y, tLI (Gl n G)] = some [tI 0, tA8 r, tI 0]) := by
 obtain ⟨G, g1, g2, g3⟩ := zQt n hn b hb (List.replicate 8 0) 0 (Nat.zero_le _) a ha; obtain ⟨H, h1, h2, h3, h4⟩ := zQs n hn (List.replicate 8 0) _ G g1 (Nat.le_refl _); obtain ⟨s, hs, _⟩ := zGk ha; obtain ⟨t, ht, _⟩ := zGk hb; obtain ⟨v, hv, _⟩ := zGk h1; have ka := zJr hn ha ca s hs; have kb := zJr hn hb cb t ht; have kv := zJr hn h1 h2 v hv; have hcz : ∀ z x, Cz n H z x ↔ Cz n a z x ∧ Cz n b z x := by
  intro z x; rw [h3, g2, ← zR4 hb]
  constructor
  · rintro ⟨c, h⟩; exact ⟨c, fun k hk => h k (Nat.zero_le _) hk⟩
  · rintro ⟨c, h⟩; exact ⟨c, fun k _ hk => h k hk⟩
 have hll : ∀ x, x < n → lst (hl n a) (hl n b) x = hl n H x := by
  intro x _; have sx := zEc n H x; have c := (hcz _ _).1 sx.2.1
  refine (zS2 ?_ ?_).symm
  · exact sm_iff.2 ⟨(zFQ sx.1).1 c.1, (zFQ sx.1).1 c.2⟩
  · intro y hy; rw [Bool.eq_false_iff]; intro hsm; have hsm := sm_iff.1 hsm; have hyx : y ≤ x := by omega
    exact sx.2.2 y hy ((hcz y x).2 ⟨(zFQ hyx).2 hsm.1, (zFQ hyx).2 hsm.2⟩)
 have hm : A8 n (mdf n (lst (hl n a) (hl n b))) = sA (v⁻¹ * whP n) := by
  rw [kv]; exact zF (fun x hx => zFK hll hx)
 refine ⟨A8 n (mdf n H), zA3 _ _, ⟨A8 n (mdf n (lst (hl n a) (hl n b))), A8 n (mdf n (hl n a)), A8 n (mdf n (hl n b)), ?_, ?_, ?_, sA (v⁻¹ * whP n)⁻¹, ?_, ?_⟩, List.replicate 8 0, G, ?_, h4⟩
 · rw [hs, ← ka]; exact zAB n hn s
 · rw [ht, ← kb]; exact zAB n hn t
 · exact zLD n hn1 hn _ _ (zRQ n n a) (zRQ n n b)
 · rw [hm]; exact zIC n hn _
 · rw [hv]; have e : whP n * (v⁻¹ * whP n)⁻¹ = v := by
    rw [zt, zEW, ← Grp.assoc, Grp.mul_inv, Grp.one_mul]
   have := zH6 n hn (whP n) (v⁻¹ * whP n)⁻¹; rw [e] at this; exact this
 · simp only [Int.natCast_zero] at g3; exact g3
end Go.Ev.YtknhngnhjdpedaaGreat
namespace Go.Ev.YtknhngnhjdpedaaGreat
open Go.Ev Go.Gar
def Cr (n : Nat) (l m : Nat → Nat) (z x : Nat) : Prop := ∀ u v, u < n → v < n → l u = l v → m u = m x → (z ≤ u ∧ u < x) → (z ≤ v ∧ v < x)
def Fn (n : Nat) (l m : Nat → Nat) : Prop := ∀ u v, u < n → v < n → l u = l v → m u = m v
theorem Cr.t1 {n : Nat} {l m : Nat → Nat} (F : Fn n l m) {z x y : Nat} (hy : m x = m y) (h1 : z ≤ x) (h2 : x ≤ y) (a : Cr n l m z x) (b : Cr n l m x y) : Cr n l m z y := by
 intro u v hu hv e eb hin
 by_cases h : u < x
 · have := a u v hu hv e (by omega) ⟨hin.1, h⟩; omega
 · have := b u v hu hv e eb ⟨by omega, hin.2⟩; omega
theorem Cr.t2 {n : Nat} {l m : Nat → Nat} (F : Fn n l m) {z x y : Nat} (hy : m x = m y) (h1 : z ≤ x) (h2 : x ≤ y) (a : Cr n l m z y) (b : Cr n l m x y) : Cr n l m z x := by
 intro u v hu hv e eb hin; have h := a u v hu hv e (by omega) ⟨hin.1, by omega⟩
 by_cases hx : v < x
 · exact ⟨h.1, hx⟩
 · have ev := F u v hu hv e; have := b v u hv hu e.symm (by omega) ⟨by omega, h.2⟩; omega
theorem Cr.t3 {n : Nat} {l m : Nat → Nat} (F : Fn n l m) {z x y : Nat} (hy : m x = m y) (h1 : z ≤ x) (h2 : x ≤ y) (a : Cr n l m z y) (b : Cr n l m z x) : Cr n l m x y := by
 intro u v hu hv e eb hin; have h := a u v hu hv e eb ⟨by omega, hin.2⟩
 by_cases hx : x ≤ v
 · exact ⟨hx, h.2⟩
 · have ev := F u v hu hv e; have := b v u hv hu e.symm (by omega) ⟨h.1, by omega⟩; omega
open Classical in
noncomputable def rs (n : Nat) (l m : Nat → Nat) (x : Nat) : Nat → Nat → Nat
 | 0, z => z
 | d + 1, z => if m z = m x ∧ Cr n l m z x then z else rs n l m x d (z + 1)
noncomputable def rl (n : Nat) (l m : Nat → Nat) (x : Nat) : Nat := rs n l m x x 0
theorem zRs (n : Nat) (l m : Nat → Nat) (x : Nat) : ∀ d z, z + d = x → (∀ y, y < z → ¬ (m y = m x ∧ Cr n l m y x)) → rs n l m x d z ≤ x ∧ (m (rs n l m x d z) = m x ∧ Cr n l m (rs n l m x d z) x) ∧ ∀ y, y < rs n l m x d z → ¬ (m y = m x ∧ Cr n l m y x) := by
 intro d
 induction d with
 | zero =>
  intro z hz h; have : z = x := by omega
  subst this; refine ⟨Nat.le_refl _, ⟨rfl, fun u v _ _ _ _ hin => ?_⟩, h⟩; have h1 := hin.1; have h2 := hin.2; rw [rs] at h1; omega
 | succ d ih =>
  intro z hz h; rw [rs]
  by_cases h1 : m z = m x ∧ Cr n l m z x
  · rw [if_pos h1]; exact ⟨by omega, h1, h⟩
  · rw [if_neg h1]; refine ih (z + 1) (by omega) (fun y hy => ?_)
    by_cases h2 : y = z
    · rw [h2]; exact h1
    · exact h y (by omega)
theorem zDa (n : Nat) (l m : Nat → Nat) (x : Nat) : rl n l m x ≤ x ∧ (m (rl n l m x) = m x ∧ Cr n l m (rl n l m x) x) ∧ ∀ y, y < rl n l m x → ¬ (m y = m x ∧ Cr n l m y x) := zRs n l m x x 0 (by omega) (fun y hy => by omega)
theorem zSt {n : Nat} {l m : Nat → Nat} {x w : Nat} (h1 : m w = m x ∧ Cr n l m w x) (h2 : ∀ y, y < w → ¬ (m y = m x ∧ Cr n l m y x)) : rl n l m x = w := by
 have s := zDa n l m x; apply Classical.byContradiction; intro hne
 rcases Nat.lt_or_gt_of_ne hne with h | h
 · exact h2 _ h s.2.1
 · exact s.2.2 _ h h1
theorem zDO {n : Nat} {l m : Nat → Nat} (F : Fn n l m) {z x : Nat} (h : z ≤ x) : (m z = m x ∧ Cr n l m z x) ↔ rl n l m z = rl n l m x := by
 have sz := zDa n l m z; have sx := zDa n l m x
 constructor
 · rintro ⟨e, c⟩; have c1 := Cr.t1 F e sz.1 h sz.2.1.2 c; have h1 : rl n l m x ≤ rl n l m z := by
    apply Classical.byContradiction; intro hne; exact sx.2.2 _ (by omega) ⟨by rw [sz.2.1.1, e], c1⟩
   have c2 := Cr.t2 F e (show rl n l m x ≤ z by omega) h sx.2.1.2 c; have h2 : rl n l m z ≤ rl n l m x := by
    apply Classical.byContradiction; intro hne; exact sz.2.2 _ (by omega) ⟨by rw [sx.2.1.1, e], c2⟩
   omega
 · intro e; have em : m z = m x := by rw [← sz.2.1.1, e, sx.2.1.1]
   exact ⟨em, Cr.t3 F em sz.1 h (by rw [e]; exact sx.2.1.2) sz.2.1.2⟩
theorem zSu {n : Nat} {l m : Nat → Nat} (F : Fn n l m) (k : Nat) : Can k (rl n l m) := fun x _ => ⟨(zDa n l m x).1, (zDO F (zDa n l m x).1).1 (zDa n l m x).2.1⟩
theorem zRt {n : Nat} {l m : Nat → Nat} (F : Fn n l m) : Fn n (rl n l m) m := by
 intro u v hu hv e; have su := zDa n l m u; have sv := zDa n l m v; rw [← su.2.1.1, e, sv.2.1.1]
theorem zTd {n : Nat} {l m : Nat → Nat} (F : Fn n l m) (hm : crs n m = false) : crs n (rl n l m) = false := by
 rw [Bool.eq_false_iff]; intro h; obtain ⟨a, b, c, y, h1, h2, h3, h4, e1, e2, e3⟩ := (zF6 n _).1 h; obtain ⟨m1, c1⟩ := (zDO F (show a ≤ c by omega)).2 e1; obtain ⟨m2, c2⟩ := (zDO F (show b ≤ y by omega)).2 e2; have m3 := km hm h1 h2 h3 h4 m1 m2; apply e3; apply (zDO F (Nat.le_of_lt h1)).1; refine ⟨m3, fun u v hu hv e eb hin => ?_⟩; have k1 := c1 u v hu hv e (by omega) ⟨hin.1, by omega⟩
 by_cases hx : v < b
 · exact ⟨k1.1, hx⟩
 · have ev := F u v hu hv e; have := c2 v u hv hu e.symm (by omega) ⟨by omega, by omega⟩; omega
theorem krr {n : Nat} {g m : Nat → Nat} (hg : Can n g) (hm : Can n m) (F : Fn n g m) (hc : crs n g = false) {p x : Nat} (hp : p < n) (hx : x < n) (h : mdf n g p = x) : mdf n (rl n g m) x = mdf n m p := by
 have gp := hg p hp
 rcases zP (g := g) hp with ⟨k, k1, k2, k3, k4, k5⟩ | ⟨k1, k2⟩
 · have e : k = x := by omega
   subst e; have em : m k = m p := F _ _ hx hp k3; obtain ⟨q, q1, q2, q3, q4, q5⟩ : ∃ q, p < q ∧ q < n ∧ m q = m p ∧ (∀ y, p < y → y < q → m y ≠ m p) ∧ mdf n m p = q := by
    rcases zP (g := m) hp with h1 | ⟨h1, _⟩
    · exact h1
    · exact (h1 k k1 hx em).elim
   have hqk : q ≤ k := by
    apply Classical.byContradiction; intro hne; exact q4 k k1 (by omega) em
   have cz : Cr n g m q k := by
    intro u v hu hv e eb hin; have hne : g u ≠ g p := k4 u (by omega) hin.2; have ev := F u v hu hv e; apply Classical.byContradiction; intro hno; have hvp : v ≠ p := fun h => by rw [h] at e; exact hne e
    have hvk : v ≠ k := fun h => by rw [h, k3] at e; exact hne e
    rcases Nat.lt_or_gt_of_ne hvp with h1 | h1
    · exact hne (by rw [e]; exact km hc h1 (show p < u by omega) hin.2 hx e.symm k3.symm)
    · by_cases h2 : v < q
      · exact q4 v h1 h2 (by omega)
      · have h3 : k < v := by omega
        exact hne (km hc (show p < u by omega) hin.2 h3 hv k3.symm e).symm
   have hh : rl n g m k = q := zSt ⟨by omega, cz⟩ (fun y hy c => by
    have hyp : y ≤ p := by
     apply Classical.byContradiction; intro hne; exact q4 y (by omega) hy (by omega)
    have := c.2 p k hp hx k3.symm (by omega) ⟨hyp, k1⟩; omega)
   rw [q5]
   rcases zP (g := rl n g m) hx with ⟨j, j1, j2, j3, _, _⟩ | ⟨_, j2⟩
   · have c := (zDO F (show k ≤ j by omega)).2 j3.symm; have := c.2 k p hx hp k3 (by omega) ⟨Nat.le_refl _, j1⟩; omega
   · rw [j2, hh]
 · have e : g p = x := by omega
   have hxp : x ≤ p := by omega
   have gx : g x = g p := by rw [← e]; exact gp.2
   have em : m x = m p := F _ _ hx hp gx; have cz : ∀ u v, u < n → v < n → g u = g v → x ≤ u → u ≤ p → x ≤ v ∧ v ≤ p := by
    intro u v hu hv ee i1 i2
    by_cases hgu : g u = g p
    · have hv1 := (hg v hv).1; have : ¬ p < v := fun h => k1 v h hv (by omega)
      omega
    · have hux : u ≠ x := fun h => by rw [h] at hgu; exact hgu gx
      have hup : u ≠ p := fun h => hgu (by rw [h])
      apply Classical.byContradiction; intro hno; have hvx : v ≠ x := fun h => by omega
      rcases Nat.lt_or_gt_of_ne hvx with h1 | h1
      · have := km hc h1 (show x < u by omega) (show u < p by omega) hp ee.symm gx; exact hgu (by omega)
      · have h2 : p < v := by omega
        have := km hc (show x < u by omega) (show u < p by omega) h2 hv gx ee; exact hgu (by omega)
   have stop : ∀ j, x < j → j ≤ p → ¬ (m x = m j ∧ Cr n g m x j) := fun j h1 h2 c => by
    have := c.2 x p hx hp gx c.1 ⟨Nat.le_refl _, h1⟩; omega
   rcases zP (g := m) hp with ⟨q, q1, q2, q3, q4, q5⟩ | ⟨q1, q2⟩
   · have hh := (zDO F (show x ≤ q by omega)).1 ⟨by omega, fun u v hu hv ee eb hin => by
      have hup : u ≤ p := by
       apply Classical.byContradiction; intro hne; exact q4 u (by omega) hin.2 (by omega)
      have := cz u v hu hv ee hin.1 hup; omega⟩
     rw [q5]
     rcases zP (g := rl n g m) hx with ⟨j, j1, j2, j3, j4, j5⟩ | ⟨j1, _⟩
     · have c := (zDO F (show x ≤ j by omega)).2 j3.symm; have hjp : p < j := by
        apply Classical.byContradiction; intro hne; exact stop j j1 (by omega) c
       have hqj : ¬ q < j := fun h => j4 q (by omega) h hh.symm
       have hjq : ¬ j < q := fun h => q4 j hjp h (by rw [← c.1]; exact em)
       rw [j5]; omega
     · exact (j1 q (by omega) q2 hh.symm).elim
   · have mp := hm p hp; have hb : m (m p) = m x := by rw [em]; exact mp.2
     have hmx := (hm x hx).1; have hh : rl n g m x = m p := zSt ⟨hb, fun u v hu hv ee eb hin => by
      have ev := F u v hu hv ee; have hv1 := (hm v hv).1; refine ⟨by omega, ?_⟩; apply Classical.byContradiction; intro hno; have hvp : v ≤ p := by
       apply Classical.byContradiction; intro hne; exact q1 v (by omega) hv (by omega)
      have := cz v u hv hu ee.symm (by omega) hvp; omega⟩ (fun y hy c => by
      have hyn : y < n := by omega
      have := (hm y hyn).1; have h1 := c.1; omega)
     rw [q2]
     rcases zP (g := rl n g m) hx with ⟨j, j1, j2, j3, _, _⟩ | ⟨_, j2⟩
     · have c := (zDO F (show x ≤ j by omega)).2 j3.symm
       by_cases hjp : j ≤ p
       · exact (stop j j1 hjp c).elim
       · exact (q1 j (by omega) j2 (by rw [← c.1]; exact em)).elim
     · rw [j2, hh]
end Go.Ev.YtknhngnhjdpedaaGreat
namespace Go.Ev.YtknhngnhjdpedaaGreat
open Go.Ev Go.Gar
structure Pt {n : Nat} (s : Pm n) (g : Nat → Nat) : Prop where
 can : Can n g
 nc : crs n g = false
 f : ∀ x, x < n → s.f x = mdf n g x
theorem Pt.lb {n : Nat} {s : Pm n} {g : Nat → Nat} (h : Pt s g) : Lb n s g := by
 refine ⟨h.can, fun x hx => ?_, ?_⟩
 · rw [h.f x hx]
   rcases zP (g := g) hx with ⟨k, _, _, k3, _, k5⟩ | ⟨_, k2⟩
   · rw [k5]; exact k3
   · rw [k2]; exact (h.can x hx).2
 · have : ∀ d x, x + d = n → x < n → Eo s x (g x) := by
    intro d
    induction d using Nat.strongRecOn with
    | ind d ih =>
     intro x hd hx; have e := h.f x hx
     rcases zP (g := g) hx with ⟨k, k1, k2, k3, _, k5⟩ | ⟨_, k2⟩
     · have h1 := ih (n - k) (by omega) k (by omega) k2; rw [k3] at h1; have h2 := Eo.st (s := s) x; rw [e, k5] at h2; exact h2.tr h1
     · have h2 := Eo.st (s := s) x; rw [e, k2] at h2; exact h2
   intro x hx; exact this (n - x) x (by omega) hx
theorem Lb.eo {n : Nat} {s : Pm n} {g : Nat → Nat} (h : Lb n s g) (x y : Nat) : Eo s x y ↔ x = y ∨ (x < n ∧ y < n ∧ g x = g y) := by
 constructor
 · intro e
   induction e with
   | re x => exact .inl rfl
   | st x =>
    by_cases hx : x < n
    · exact .inr ⟨hx, s.lt hx, (h.inv x hx).symm⟩
    · left; exact (s.out x (by omega)).symm
   | sy _ ih =>
    rcases ih with h1 | ⟨h1, h2, h3⟩
    · exact .inl h1.symm
    · exact .inr ⟨h2, h1, h3.symm⟩
   | tr _ _ i1 i2 =>
    rcases i1 with rfl | ⟨h1, h2, h3⟩
    · exact i2
    · rcases i2 with rfl | ⟨k1, k2, k3⟩
      · exact .inr ⟨h1, h2, h3⟩
      · exact .inr ⟨h1, k2, h3.trans k3⟩
 · rintro (rfl | ⟨h1, h2, h3⟩)
   · exact Eo.re _
   · have e1 := h.orb x h1; rw [h3] at e1; exact e1.tr (h.orb y h2).sy
def leP {n : Nat} (a b : Pm n) : Prop := ∀ x y, Eo a x y → Eo b x y
theorem kG {n : Nat} {a b : Pm n} {g h : Nat → Nat} (ha : Pt a g) (hb : Pt b h) : leP a b ↔ Fn n g h := by
 constructor
 · intro l u v hu hv e
   rcases (hb.lb.eo u v).1 (l u v ((ha.lb.eo u v).2 (.inr ⟨hu, hv, e⟩))) with rfl | ⟨_, _, h3⟩
   · rfl
   · exact h3
 · intro F x y e
   rcases (ha.lb.eo x y).1 e with rfl | ⟨h1, h2, h3⟩
   · exact Eo.re _
   · exact (hb.lb.eo x y).2 (.inr ⟨h1, h2, F x y h1 h2 h3⟩)
theorem Pt.eq {n : Nat} {a b : Pm n} {g h : Nat → Nat} (ha : Pt a g) (hb : Pt b h) (e : ∀ x, x < n → g x = h x) : a = b := by
 apply Pm.ext; intro x
 by_cases hx : x < n
 · rw [ha.f x hx, hb.f x hx, zFK e hx]
 · rw [a.out x (by omega), b.out x (by omega)]
theorem zQX {n : Nat} {a b : Pm n} {g h : Nat → Nat} (ha : Pt a g) (hb : Pt b h) (l1 : leP a b) (l2 : leP b a) : a = b := by
 have F1 := (kG ha hb).1 l1; have F2 := (kG hb ha).1 l2; apply ha.eq hb; intro x hx; have gx := ha.can x hx; have hx' := hb.can x hx; have e1 := F1 (g x) x (by omega) hx gx.2; have e2 := F2 (h x) x (by omega) hx hx'.2; have k1 := (hb.can (g x) (by omega)).1; have k2 := (ha.can (h x) (by omega)).1; omega
theorem zRK (n : Nat) : Pt (1 : Pm n) id := by
 refine ⟨fun x _ => ⟨Nat.le_refl _, rfl⟩, ?_, fun x hx => ?_⟩
 · rw [Bool.eq_false_iff]; intro h; obtain ⟨a, b, c, y, h1, h2, h3, h4, e1, e2, e3⟩ := (zF6 n _).1 h; simp only [id] at e1; omega
 · rcases zP (g := id) hx with ⟨k, k1, _, k3, _, _⟩ | ⟨_, k2⟩
   · simp only [id] at k3; omega
   · rw [k2]; rfl
theorem pt_D (n : Nat) : Pt (whP n) (fun _ => 0) := by
 refine ⟨fun x _ => ⟨Nat.zero_le _, rfl⟩, ?_, fun x hx => ?_⟩
 · rw [Bool.eq_false_iff]; intro h; obtain ⟨a, b, c, y, h1, h2, h3, h4, e1, e2, e3⟩ := (zF6 n _).1 h; exact e3 rfl
 · rw [zIZ hx]; unfold sc
   rcases zP (g := fun _ => 0) hx with ⟨k, k1, k2, k3, k4, k5⟩ | ⟨k1, k2⟩
   · have : ¬ x + 1 < k := fun h => k4 (x + 1) (by omega) h rfl
     rw [k5, if_neg (by omega)]; omega
   · have : ¬ x + 1 < n := fun h => k1 (x + 1) (by omega) h rfl
     rw [k2, if_pos (by omega)]
theorem zA1 {n : Nat} {x y : Pm n} {g m : Nat → Nat} (hx : Pt x g) (hy : Pt y m) (l : leP x y) : Pt (x⁻¹ * y) (rl n g m) := by
 have F := (kG hx hy).1 l; refine ⟨zSu F n, zTd F hy.nc, fun z hz => ?_⟩; have hp := x.lt_g hz; have e : mdf n g (x.g z) = z := by rw [← hx.f _ hp, x.fg]
 show y.f (x.g z) = _; rw [krr hx.can hy.can F hx.nc hp hz e, hy.f _ hp]
theorem zRH {n : Nat} {x y : Pm n} {g m : Nat → Nat} (hx : Pt x g) (hy : Pt y m) (l : leP x y) : leP (x⁻¹ * y) y :=
 (kG (zA1 hx hy l) hy).2 (zRt ((kG hx hy).1 l))
theorem zTA {n : Nat} {a b : Nat → Nat} (h : ∀ u v, u ≤ v → v < n → a u = a v → b u = b v) : Fn n a b := by
 intro u v hu hv e
 rcases Nat.le_total u v with h1 | h1
 · exact h u v h1 hv e
 · exact (h v u h1 hu e.symm).symm
theorem zJc {n : Nat} {x y t : Pm n} {g h m : Nat → Nat} (hx : Pt x g) (hy : Pt y h) (ht : Pt t m) (l1 : leP x y) (l2 : leP y t) : leP (y⁻¹ * t) (x⁻¹ * t) := by
 have l3 : leP x t := fun u v e => l2 u v (l1 u v e); have F1 := (kG hx hy).1 l1; have F2 := (kG hy ht).1 l2; have F3 := (kG hx ht).1 l3; refine (kG (zA1 hy ht l2) (zA1 hx ht l3)).2 (zTA fun u v huv hv e => ?_); obtain ⟨em, c⟩ := (zDO F2 huv).2 e; exact (zDO F3 huv).1 ⟨em, fun p q hp hq e' eb hin => c p q hp hq (F1 p q hp hq e') eb hin⟩
theorem zQR {n : Nat} {x y : Pm n} {g m : Nat → Nat} (hx : Pt x g) (hy : Pt y m) (l : leP x y) (lD : leP x (whP n)) : leP (x⁻¹ * y) (x⁻¹ * whP n) := by
 have F := (kG hx hy).1 l; have FD := (kG hx (pt_D n)).1 lD; refine (kG (zA1 hx hy l) (zA1 hx (pt_D n) lD)).2 (zTA fun u v huv hv e => ?_); obtain ⟨em, c⟩ := (zDO F huv).2 e; refine (zDO FD huv).1 ⟨rfl, fun w w' hw hw' e' _ hin => ?_⟩
 by_cases hm : m w = m v
 · exact c w w' hw hw' e' hm hin
 · have ew := F w w' hw hw' e'; have hwu : w ≠ u := fun h => hm (by rw [h]; exact em)
   have hwv : w' ≠ v := fun h => hm (by rw [ew, h])
   have hwu' : w' ≠ u := fun h => hm (by rw [ew, h]; exact em)
   apply Classical.byContradiction; intro hno
   rcases Nat.lt_or_gt_of_ne hwu' with h1 | h1
   · have := km hy.nc h1 (show u < w by omega) hin.2 hv ew.symm em; exact hm (by omega)
   · have h2 : v < w' := by omega
     have := km hy.nc (show u < w by omega) hin.2 h2 hw' em ew; exact hm (by omega)
theorem le_D {n : Nat} {x : Pm n} {g : Nat → Nat} (hx : Pt x g) : leP x (whP n) := (kG hx (pt_D n)).2 (fun _ _ _ _ _ => rfl)
theorem zPh {n : Nat} {a : Pm n} (t : Pm n) {x y : Nat} (e : Eo a x y) : Eo (t⁻¹ * (a * t)) (t.f x) (t.f y) := by
 induction e with
 | re x => exact Eo.re _
 | st x =>
  have h := Eo.st (s := t⁻¹ * (a * t)) (t.f x); have e : (t⁻¹ * (a * t)).f (t.f x) = t.f (a.f x) := by
   show t.f (a.f (t.g (t.f x))) = _; rw [t.gf]
  rw [e] at h; exact h
 | sy _ ih => exact ih.sy
 | tr _ _ i1 i2 => exact i1.tr i2
theorem zPp {n : Nat} (a t : Pm n) : t⁻¹⁻¹ * ((t⁻¹ * (a * t)) * t⁻¹) = a := by
 rw [zEW]; simp only [Grp.assoc, Grp.mul_inv, Grp.mul_one]; rw [zZ]
theorem zQW {n : Nat} {a b : Pm n} (t : Pm n) (l : leP (t⁻¹ * (a * t)) (t⁻¹ * (b * t))) : leP a b := by
 intro x y e; have h := zPh t⁻¹ (l _ _ (zPh t e)); rw [zPp] at h; have e1 : (t⁻¹).f (t.f x) = x := t.gf x; have e2 : (t⁻¹).f (t.f y) = y := t.gf y; rw [e1, e2] at h; exact h
theorem zJb {n : Nat} (x t : Pm n) : (x⁻¹ * t)⁻¹ * t = t⁻¹ * (x * t) := by rw [zt, zEW, Grp.assoc]
theorem zCm {n : Nat} {x y t : Pm n} {g h m : Nat → Nat} (hx : Pt x g) (hy : Pt y h) (ht : Pt t m) (l1 : leP x t) (l2 : leP y t) (l : leP (y⁻¹ * t) (x⁻¹ * t)) : leP x y := by
 have h1 := zJc (zA1 hy ht l2) (zA1 hx ht l1) ht l (zRH hx ht l1); rw [zJb, zJb] at h1; exact zQW t h1
def isP {n : Nat} (s : Pm n) : Prop := ∃ g, Pt s g
theorem zPS {n : Nat} {s : Pm n} (h : isP s) : isP ((whP n)⁻¹ * (s * whP n)) := by
 obtain ⟨g, hg⟩ := h; have h1 := zA1 hg (pt_D n) (le_D hg); have h2 := zA1 h1 (pt_D n) (le_D h1); rw [zJb] at h2; exact ⟨_, h2⟩
noncomputable def dk (n : Nat) : Nat → Pm n
 | 0 => 1
 | k + 1 => dk n k * whP n
theorem zNA {n : Nat} {s : Pm n} (h : isP s) : ∀ k, isP ((dk n k)⁻¹ * (s * dk n k))
 | 0 => by
  have e : (dk n 0)⁻¹ * (s * dk n 0) = s := by
   show (1 : Pm n)⁻¹ * (s * 1) = s; rw [zPT, Grp.one_mul, Grp.mul_one]
  rw [e]; exact h
 | k + 1 => by
  have := zPS (zNA h k); have e : (whP n)⁻¹ * ((dk n k)⁻¹ * (s * dk n k) * whP n) = (dk n (k + 1))⁻¹ * (s * dk n (k + 1)) := by
   show _ = (dk n k * whP n)⁻¹ * (s * (dk n k * whP n)); rw [zt]; simp only [Grp.assoc]
  rw [e] at this; exact this
theorem dk_f {n : Nat} (h1 : 1 ≤ n) : ∀ k x, x < n → (dk n k).f x = (x + k) % n
 | 0, x, hx => (Nat.mod_eq_of_lt hx).symm
 | k + 1, x, hx => by
  show (whP n).f ((dk n k).f x) = _; rw [dk_f h1 k x hx, zIZ (Nat.mod_lt _ (by omega)), ← zOr (Nat.mod_lt _ (by omega)), Nat.mod_add_mod]
  rfl
theorem dk_n {n : Nat} (h1 : 1 ≤ n) : dk n n = 1 := by
 apply Pm.ext; intro x
 by_cases hx : x < n
 · rw [dk_f h1 n x hx, Nat.add_mod_right, Nat.mod_eq_of_lt hx]
   rfl
 · rw [Pm.out _ x (by omega)]
   rfl
theorem zPR {n : Nat} (h1 : 1 ≤ n) {s : Pm n} (h : isP s) : isP (whP n * (s * (whP n)⁻¹)) := by
 have hk := zNA h (n - 1); have e : dk n (n - 1) = (whP n)⁻¹ := by
  have h2 : dk n (n - 1) * whP n = 1 := by
   have h3 : dk n (n - 1 + 1) = 1 := by rw [show n - 1 + 1 = n by omega]; exact dk_n h1
   exact h3
  have h3 := congrArg (fun z => z * (whP n)⁻¹) h2; simp only [Grp.assoc, Grp.mul_inv, Grp.mul_one, Grp.one_mul] at h3; exact h3
 rw [e, zEW] at hk; exact hk
theorem zHA {n : Nat} (h1 : 1 ≤ n) {x : Pm n} (h : isP x) : isP (whP n * x⁻¹) := by
 obtain ⟨g, hg⟩ := h; have h2 := zPR h1 ⟨_, zA1 hg (pt_D n) (le_D hg)⟩; have e : whP n * (x⁻¹ * whP n * (whP n)⁻¹) = whP n * x⁻¹ := by rw [Grp.assoc x⁻¹, Grp.mul_inv, Grp.mul_one]
 rw [e] at h2; exact h2
theorem zS3 {n : Nat} {g h : Nat → Nat} (hg : crs n g = false) (hh : crs n h = false) : crs n (lst g h) = false := by
 rw [Bool.eq_false_iff]; intro hc; obtain ⟨a, b, c, y, h1, h2, h3, h4, e1, e2, e3⟩ := (zF6 n _).1 hc; have key : ∀ u v, lst g h u = lst g h v → g u = g v ∧ h u = h v := by
  intro u v e; have su := sm_iff.1 (zp g h u).2.1; have sv := sm_iff.1 (zp g h v).2.1; rw [e] at su; exact ⟨by omega, by omega⟩
 have k1 := key _ _ e1; have k2 := key _ _ e2; exact e3 (zM7 (sm_iff.2 ⟨km hg h1 h2 h3 h4 k1.1 k2.1, km hh h1 h2 h3 h4 k1.2 k2.2⟩))
theorem zIu {n : Nat} {a b : Pm n} (ha : isP a) (hb : isP b) : ∃ c : Pm n, Pt c (lst ha.choose hb.choose) := by
 obtain ⟨c, _, hc⟩ := zGk (zJo n ha.choose hb.choose); exact ⟨c, zJo n _ _, zS3 ha.choose_spec.nc hb.choose_spec.nc, hc⟩
open Classical in
noncomputable def meetP {n : Nat} (a b : Pm n) : Pm n := if h : isP a ∧ isP b then (zIu h.1 h.2).choose else 1
theorem zDo {n : Nat} {a b : Pm n} (ha : isP a) (hb : isP b) : Pt (meetP a b) (lst ha.choose hb.choose) := by
 unfold meetP; rw [dif_pos ⟨ha, hb⟩]; exact (zIu ha hb).choose_spec
noncomputable def latP (n : Nat) (h1 : 1 ≤ n) : Lat (Pm n) where
 S := isP
 le := leP
 D := whP n
 meet := meetP
 S_one := ⟨_, zRK n⟩
 S_D := ⟨_, pt_D n⟩
 S_K := fun ⟨_, hg⟩ => ⟨_, zA1 hg (pt_D n) (le_D hg)⟩
 S_K' h := zHA h1 h
 refl _ := fun _ _ e => e
 trans _ _ _ l1 l2 := fun x y e => l2 x y (l1 x y e)
 anti := fun ⟨_, hx⟩ ⟨_, hy⟩ l1 l2 => zQX hx hy l1 l2
 one_le := fun ⟨_, hx⟩ => (kG (zRK n) hx).2 (fun u v _ _ e => by simp only [id] at e; rw [e])
 le_D := fun ⟨_, hx⟩ => le_D hx
 S_meet ha hb := ⟨_, zDo ha hb⟩
 meet_l ha hb := (kG (zDo ha hb) ha.choose_spec).2 (fun u v _ _ e => by
  have su := sm_iff.1 (zp ha.choose hb.choose u).2.1; have sv := sm_iff.1 (zp ha.choose hb.choose v).2.1; rw [e] at su; omega)
 meet_r ha hb := (kG (zDo ha hb) hb.choose_spec).2 (fun u v _ _ e => by
  have su := sm_iff.1 (zp ha.choose hb.choose u).2.1; have sv := sm_iff.1 (zp ha.choose hb.choose v).2.1; rw [e] at su; omega)
 le_meet ha hb hz l1 l2 := (kG hz.choose_spec (zDo ha hb)).2 (fun u v hu hv e =>
  zM7 (sm_iff.2 ⟨(kG hz.choose_spec ha.choose_spec).1 l1 u v hu hv e, (kG hz.choose_spec hb.choose_spec).1 l2 u v hu hv e⟩))
 p0 := fun ⟨_, hx⟩ ⟨_, hy⟩ l => ⟨⟨_, zA1 hx hy l⟩, zQR hx hy l (le_D hx)⟩
 p1 := fun {x y} ⟨_, hx⟩ ⟨_, hy⟩ l => by
  have hK := zA1 hx (pt_D n) (le_D hx); have hz := zA1 hy hK l; have e1 : y⁻¹ * (x⁻¹ * whP n) = (x * y)⁻¹ * whP n := by rw [zt, Grp.assoc]
  have e2 : whP n * (y⁻¹ * (x⁻¹ * whP n))⁻¹ = x * y := by
   rw [e1, zt, zEW, ← Grp.assoc, Grp.mul_inv, Grp.one_mul]
  have hS : isP (x * y) := by
   have := zHA h1 ⟨_, hz⟩; rw [e2] at this; exact this
  refine ⟨hS, ?_⟩; obtain ⟨_, hxy⟩ := hS; have l2 := zRH hy hK l; rw [e1] at l2; exact zCm hx hxy (pt_D n) (le_D hx) (le_D hxy) l2
 p2 := fun {v x y} ⟨_, hv⟩ ⟨_, hx⟩ ⟨_, hy⟩ l1 l2 => by
  have hK := zA1 hv (pt_D n) (le_D hv); have exx : ∀ x : Pm n, x⁻¹ * (v⁻¹ * whP n) = (v * x)⁻¹ * whP n := fun x => by rw [zt, Grp.assoc]
  have prod : ∀ {x : Pm n} {g : Nat → Nat}, Pt x g → leP x (v⁻¹ * whP n) → isP (v * x) := by
   intro x g hx l; have hz := zA1 hx hK l; have e2 : whP n * (x⁻¹ * (v⁻¹ * whP n))⁻¹ = v * x := by
    rw [exx, zt, zEW, ← Grp.assoc, Grp.mul_inv, Grp.one_mul]
   have := zHA h1 ⟨_, hz⟩; rw [e2] at this; exact this
  obtain ⟨_, hvx⟩ := prod hx l1; obtain ⟨_, hvy⟩ := prod hy l2
  constructor
  · intro l; have h3 := zJc hvx hvy (pt_D n) l (le_D hvy); rw [← exx, ← exx] at h3; exact zCm hx hy hK l1 l2 h3
  · intro l; have h3 := zJc hx hy hK l l2; rw [exx, exx] at h3; exact zCm hvx hvy (pt_D n) (le_D hvx) (le_D hvy) h3
end Go.Ev.YtknhngnhjdpedaaGreat
namespace Go.Ev.YtknhngnhjdpedaaGreat
open Go.Ev Go.Gar
end Go.Ev.YtknhngnhjdpedaaGreat
namespace Go.Ev.YtknhngnhjdpedaaGreat
open Go.Ev Go.Gar
theorem zE6 {n : Nat} {a : Pm n} {g : Nat → Nat} (h : Pt a g) : sA a = A8 n (mdf n g) := zF (fun x hx => h.f x hx)
theorem zSQ (n : Nat) (h1 : 1 ≤ n) (hn : n ≤ 8) {a b : Pm n} (ha : isP a) (hb : isP b) : R zB5 [tA8 (sA a), tA8 (sA b), tI (n : Int)] = some [tA8 (sA (meetP a b))] := by
 rw [zE6 ha.choose_spec, zE6 hb.choose_spec, zE6 (zDo ha hb)]; exact zMK n h1 hn _ _ ha.choose_spec.can hb.choose_spec.can
theorem zJI (n : Nat) (h1 : 1 ≤ n) (hn : n ≤ 8) {a b : Pm n} (ha : isP a) (hb : isP b) : R zBT [tA8 (sA a), tA8 (sA b), tI (n : Int)] = some [tA8 (sA (meetP a b))] := by
 rw [zE6 ha.choose_spec, zE6 hb.choose_spec, zE6 (zDo ha hb)]; exact zLD n h1 hn _ _ ha.choose_spec.can hb.choose_spec.can
instance {n : Nat} : DecidableEq (Pm n) := fun a b => decidable_of_iff (∀ x, x < n → a.f x = b.f x)
 ⟨fun h => Pm.ext fun x => by
  by_cases hx : x < n
  · exact h x hx
  · rw [a.out x (by omega), b.out x (by omega)], fun h x _ => by rw [h]⟩
end Go.Ev.YtknhngnhjdpedaaGreat
