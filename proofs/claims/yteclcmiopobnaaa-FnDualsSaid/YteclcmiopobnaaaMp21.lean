/- The word of a part is its braid. -/
import Derived.Test.YteclcmiopobnaaaMp20
import Derived.Test.YteclcmiopobnaaaMq1
set_option linter.unusedVariables false
set_option linter.unusedSimpArgs false
namespace Go.Ev.Yteclcmiopobnaaa.P
open Go.Ev.Yteclcmiopobnaaa
open Go.Ev Go.Gar
open Classical in
noncomputable def lt (n : Nat) (x : Int) : Bn n := if h : Lr n x then Bn.mk [x] (lr1 h) else 1
noncomputable def cl (n : Nat) : List Int → Bn n
 | [] => 1
 | x :: w => lt n x * cl n w
theorem cl_app {n : Nat} : ∀ (u w : List Int), cl n (u ++ w) = cl n u * cl n w
 | [], w => (Grp.one_mul _).symm
 | x :: u, w => by rw [List.cons_append, cl, cl_app u w, cl, Grp.assoc]
theorem cl_eq {n : Nat} : ∀ (w : List Int) (hw : ∀ x ∈ w, Lr n x), cl n w = Bn.mk w hw
 | [], hw => rfl
 | x :: w, hw => by
  have hx := hw x List.mem_cons_self
  rw [cl, cl_eq w (fun y hy => hw y (List.mem_cons_of_mem _ hy))]
  unfold lt
  rw [dif_pos hx]
  rfl
theorem lt_pos {n p : Nat} (h : p + 1 < n) : lt n ((p : Int) + 1) = sg n p := by
 have hx : Lr n ((p : Int) + 1) := by unfold Lr; omega
 unfold lt
 rw [dif_pos hx, sg_eq h]
 rfl
theorem lt_neg {n p : Nat} (h : p + 1 < n) : lt n (-((p : Int) + 1)) = (sg n p)⁻¹ := by
 have hx : Lr n (-((p : Int) + 1)) := by unfold Lr; omega
 unfold lt
 rw [dif_pos hx, sg_eq h, Bn.mk_inv]
 rfl
theorem upL_snoc : ∀ (d : Nat) (x : Int), upL x (d + 1) = upL x d ++ [-(x + d)]
 | 0, x => by simp [upL]
 | d + 1, x => by
  rw [upL, upL_snoc d (x + 1), upL]
  simp only [List.cons_append]
  rw [show x + 1 + (d : Int) = x + ((d + 1 : Nat) : Int) by omega]
theorem cl_band {n s : Nat} : ∀ (d : Nat), s + d + 1 < n → cl n (dnL (s : Int) (d + 1) ++ upL ((s : Int) + 2) d) = bd n s d
 | 0, h => by
  simp only [dnL, upL, List.append_nil]
  show lt n ((s : Int) + ((0 : Nat) : Int) + 1) * 1 = _
  rw [Grp.mul_one, show (s : Int) + ((0 : Nat) : Int) + 1 = (s : Int) + 1 by omega, lt_pos h]
  rfl
 | d + 1, h => by
  have ih := cl_band (n := n) (s := s) d (by omega)
  rw [dnL, upL_snoc, List.cons_append, ← List.append_assoc, cl, cl_app, ih]
  have e1 : (s : Int) + ((d + 1 : Nat) : Int) + 1 = ((s + d + 1 : Nat) : Int) + 1 := by omega
  have e2 : -((s : Int) + 2 + (d : Int)) = -(((s + d + 1 : Nat) : Int) + 1) := by omega
  rw [e1, e2, lt_pos (by omega)]
  show _ * (_ * (lt n _ * 1)) = _
  rw [Grp.mul_one, lt_neg (by omega)]
  rfl
theorem cl_bandL {n a b : Nat} (h : a < b) (hb : b < n) : cl n (bandL (b : Int) (a : Int)) = Bd n a b := by
 unfold bandL Bd
 have := cl_band (n := n) (s := a) (b - a - 1) (by omega)
 rw [← this]
 congr 2
 · rw [show ((b : Int) - (a : Int)).toNat = b - a - 1 + 1 by omega]
 · rw [show ((b : Int) - (a : Int) - 1).toNat = b - a - 1 by omega]
theorem blk_snoc {g : Nat → Nat} {x : Nat} : ∀ (d y : Nat), bk g x (d + 1) y = bk g x d y ++ (if g (y + d) = x then [((y + d : Nat) : Int)] else [])
 | 0, y => by simp [bk]
 | d + 1, y => by
  have ih := blk_snoc (g := g) (x := x) d (y + 1)
  rw [show y + 1 + d = y + (d + 1) by omega] at ih
  rw [bk, ih, bk]
  split <;> simp
theorem wb_app (b : List Int) (z : Int) : ∀ i, i < b.length → wb (b ++ [z]) i = wb b i
 | 0, _ => rfl
 | i + 1, h => by
  have g1 : List.getD (b ++ [z]) (i + 1) 0 = List.getD b (i + 1) 0 := by
   simp only [List.getD_eq_getElem?_getD, List.getElem?_append_left h]
  have g2 : List.getD (b ++ [z]) i 0 = List.getD b i 0 := by
   simp only [List.getD_eq_getElem?_getD, List.getElem?_append_left (show i < b.length by omega)]
  rw [wb, wb, g1, g2, wb_app b z i (by omega)]
def bl (g : Nat → Nat) (K x : Nat) : List Int := bk g x (K - x) x
def PD (g : Nat → Nat) (z y : Nat) : Prop := y < z ∧ g y = g z ∧ ∀ w, y < w → w < z → g w ≠ g z
noncomputable def Wk (n : Nat) (g : Nat → Nat) (K x : Nat) : Bn n := cl n (wb (bl g K x) ((bl g K x).length - 1))
theorem bl_step {g : Nat → Nat} {K x : Nat} (h : x ≤ K) : bl g (K + 1) x = bl g K x ++ (if g K = x then [(K : Int)] else []) := by
 unfold bl
 rw [show K + 1 - x = K - x + 1 by omega, blk_snoc, show x + (K - x) = K by omega]
theorem bl_last {g : Nat → Nat} {x : Nat} (hx : g x = x) : ∀ (K : Nat), x < K → ∃ (y : Nat), x ≤ y ∧ y < K ∧ g y = x ∧ (∀ w, y < w → w < K → g w ≠ x) ∧ bl g K x ≠ [] ∧ List.getD (bl g K x) ((bl g K x).length - 1) 0 = (y : Int)
 | 0, h => by omega
 | K + 1, h => by
  by_cases e : K = x
  · subst e
    refine ⟨K, Nat.le_refl _, by omega, hx, fun w h1 h2 => by omega, ?_, ?_⟩
    · rw [bl_step (Nat.le_refl _), if_pos hx]; simp
    · rw [bl_step (Nat.le_refl _), if_pos hx]
      have : bl g K K = [] := by simp [bl, bk]
      rw [this]
      rfl
  · obtain ⟨y, h1, h2, h3, h4, h5, h6⟩ := bl_last hx K (by omega)
    by_cases hg : g K = x
    · refine ⟨K, by omega, by omega, hg, fun w h1 h2 => by omega, ?_, ?_⟩
      · rw [bl_step (by omega), if_pos hg]; simp
      · rw [bl_step (by omega), if_pos hg]
        simp [List.getD_eq_getElem?_getD]
    · refine ⟨y, h1, by omega, h3, fun w a b => ?_, ?_, ?_⟩
      · by_cases e2 : w = K
        · rw [e2]; exact hg
        · exact h4 w a (by omega)
      · rw [bl_step (by omega), if_neg hg, List.append_nil]; exact h5
      · rw [bl_step (by omega), if_neg hg, List.append_nil]; exact h6
theorem Wk_same {n : Nat} {g : Nat → Nat} {K x : Nat} (h : x ≤ K) (hg : g K ≠ x) : Wk n g (K + 1) x = Wk n g K x := by
 unfold Wk
 rw [bl_step h, if_neg hg, List.append_nil]
theorem Wk_step {n : Nat} {g : Nat → Nat} {K x : Nat} (hK : K < n) (hx : g x = x) (h : x < K) (hg : g K = x) : ∃ y, PD g K y ∧ Wk n g (K + 1) x = Bd n y K * Wk n g K x := by
 obtain ⟨y, h1, h2, h3, h4, h5, h6⟩ := bl_last hx K h
 refine ⟨y, ⟨h2, by rw [h3, hg], fun w a b => by rw [hg]; exact h4 w a b⟩, ?_⟩
 unfold Wk
 rw [bl_step (by omega), if_pos hg]
 have hl : 0 < (bl g K x).length := List.length_pos_iff.2 h5
 obtain ⟨m, hm⟩ : ∃ m, (bl g K x).length = m + 1 := ⟨(bl g K x).length - 1, by omega⟩
 rw [hm] at h6
 simp only [Nat.add_sub_cancel] at h6
 rw [List.length_append, hm, show m + 1 + [(K : Int)].length - 1 = m + 1 from rfl, show m + 1 - 1 = m from rfl]
 have g1 : List.getD (bl g K x ++ [(K : Int)]) (m + 1) 0 = (K : Int) := by
  simp only [List.getD_eq_getElem?_getD]
  rw [List.getElem?_append_right (by omega), hm, Nat.sub_self]
  rfl
 have g2 : List.getD (bl g K x ++ [(K : Int)]) m 0 = (y : Int) := by
  rw [← h6]
  simp only [List.getD_eq_getElem?_getD]
  rw [List.getElem?_append_left (by omega)]
 rw [wb, g1, g2, cl_app, cl_bandL h2 hK, wb_app _ _ _ (by omega)]
theorem Wk_one {n : Nat} {g : Nat → Nat} {K : Nat} : Wk n g (K + 1) K = 1 := by
 unfold Wk
 rw [bl_step (Nat.le_refl _)]
 have : bl g K K = [] := by simp [bl, bk]
 rw [this]
 split <;> rfl
theorem Wk_com {n : Nat} {g : Nat → Nat} {y Z : Nat} (hyz : y < Z) (hZ : Z < n) (hnc : ∀ a b, a < y → y < b → b < Z → g a = g b → g y = g Z → g a = g y) (hgy : g y = g Z) {x : Nat} (hx : g x = x) (hne : x ≠ g Z) :
  ∀ K, K ≤ Z → x < K → Wk n g K x * Bd n y Z = Bd n y Z * Wk n g K x
 | 0, _, h => by omega
 | K + 1, hK, h => by
  by_cases e : K = x
  · subst e
    rw [Wk_one, Grp.one_mul, Grp.mul_one]
  · have ih := Wk_com hyz hZ hnc hgy hx hne K (by omega) (by omega)
    by_cases hg : g K = x
    · obtain ⟨w, ⟨p1, p2, _⟩, p4⟩ := Wk_step (n := n) (show K < n by omega) hx (by omega) hg
      have c : Bd n y Z * Bd n w K = Bd n w K * Bd n y Z := by
       apply Bd_com p1 (by omega) hyz hZ
       have hKy : K ≠ y := fun h => hne (by rw [← hg, h]; exact hgy)
       have hwy : w ≠ y := fun h => hne (by rw [← hg, ← p2, h]; exact hgy)
       by_cases h1 : K < y
       · exact .inl h1
       · by_cases h2 : y < w
         · exact .inr h2
         · exfalso
           have := hnc w K (by omega) (by omega) (by omega) p2 hgy
           exact hne (by rw [← hg, ← p2, this, hgy])
      rw [p4, Grp.assoc, ih, ← Grp.assoc, ← c, Grp.assoc]
    · rw [Wk_same (by omega) hg]
      exact ih
noncomputable def TT (n : Nat) (g : Nat → Nat) (K : Nat) : Nat → Bn n
 | 0 => 1
 | X + 1 => TT n g K X * (if g X = X then Wk n g K X else 1)
theorem cl_bks {n : Nat} {g : Nat → Nat} : ∀ (d x : Nat), x + d = n → TT n g n x * cl n (wbs (bks n g d x)) = TT n g n n
 | 0, x, h => by
  obtain rfl : x = n := by omega
  simp only [bks, wbs]
  exact Grp.mul_one _
 | d + 1, x, h => by
  have ih := cl_bks (n := n) (g := g) d (x + 1) (by omega)
  rw [TT] at ih
  rw [bks]
  by_cases e : g x = x
  · rw [if_pos e] at ih ⊢
    rw [wbs, cl_app, ← Grp.assoc]
    exact ih
  · rw [if_neg e] at ih ⊢
    rw [Grp.mul_one] at ih
    exact ih
theorem TT_same {n : Nat} {g : Nat → Nat} {K : Nat} : ∀ X, X ≤ K → (∀ x, x < X → g x = x → g K ≠ x) → TT n g (K + 1) X = TT n g K X
 | 0, _, _ => rfl
 | X + 1, hX, h => by
  rw [TT, TT, TT_same X (by omega) (fun x hx => h x (by omega))]
  by_cases e : g X = X
  · rw [if_pos e, if_pos e, Wk_same (by omega) (h X (by omega) e)]
  · rw [if_neg e, if_neg e]
theorem TT_step {n : Nat} {g : Nat → Nat} {K y : Nat} (hK : K < n) (hPD : PD g K y) (hnc : ∀ a b, a < y → y < b → b < K → g a = g b → g y = g K → g a = g y) (hgg : g (g K) = g K) (hgK : g K < K) : ∀ X, X ≤ K → g K < X → TT n g (K + 1) X = Bd n y K * TT n g K X
 | 0, _, h => by omega
 | X + 1, hX, h => by
  rw [TT, TT]
  by_cases e : X = g K
  · subst e
    rw [if_pos hgg, if_pos hgg, TT_same (g K) (by omega) (fun x hx _ he => by omega)]
    obtain ⟨w, ⟨p1, p2, p3⟩, p4⟩ := Wk_step (n := n) hK hgg hgK rfl
    have hw : w = y := by
     obtain ⟨q1, q2, q3⟩ := hPD
     apply Classical.byContradiction
     intro hne
     rcases Nat.lt_or_gt_of_ne hne with hlt | hlt
     · exact p3 y hlt q1 q2
     · exact q3 w hlt p1 p2
    subst hw
    rw [p4]
    have c : ∀ X, X ≤ g K → TT n g K X * Bd n w K = Bd n w K * TT n g K X := by
     intro X
     induction X with
     | zero =>
      intro _
      show 1 * _ = _ * 1
      rw [Grp.one_mul, Grp.mul_one]
     | succ X ih =>
      intro hX
      rw [TT]
      by_cases e : g X = X
      · rw [if_pos e, Grp.assoc, Wk_com p1 hK hnc p2 e (by omega) K (Nat.le_refl _) (by omega), ← Grp.assoc, ih (by omega), Grp.assoc]
      · rw [if_neg e, Grp.mul_one, ih (by omega)]
    rw [← Grp.assoc, c _ (Nat.le_refl _), Grp.assoc]
  · have ih := TT_step hK hPD hnc hgg hgK X (by omega) (by omega)
    rw [ih]
    by_cases e2 : g X = X
    · rw [if_pos e2, if_pos e2, Wk_same (by omega) (by omega), Grp.assoc]
    · rw [if_neg e2, if_neg e2, Grp.assoc]
theorem th_TT {n : Nat} {g : Nat → Nat} (hcan : Can n g) (hnc : crs n g = false) : ∀ (K : Nat), K ≤ n → ∀ (s : Pm n), Sup K s → (∀ z, z < K → (g z < z → ∀ y, PD g z y → s.g z = y) ∧ (g z = z → g (s.g z) = z)) → th n K s = TT n g K K
 | 0, _, s, _, _ => rfl
 | K + 1, hK, s, hS, hR => by
  have hKn : K < n := by omega
  obtain ⟨c1, c2⟩ := hcan K hKn
  by_cases e : g K = K
  · have hg := (hR K (by omega)).2 e
    have hlt := hS.g_lt (z := K) (by omega)
    have hle := (hcan (s.g K) (by omega)).1
    have hsK : s.g K = K := by omega
    rw [th, hsK, if_neg (by omega), th_TT hcan hnc K (by omega) s (hS.down hsK) (fun z hz => hR z (by omega)), TT, if_pos e, Wk_one, Grp.mul_one]
    exact (TT_same K (Nat.le_refl _) (fun x hx _ he => by omega)).symm
  · have hlt : g K < K := by omega
    obtain ⟨y, hPD, _⟩ := Wk_step (n := n) (g := g) hKn c2 hlt rfl
    have hy := (hR K (by omega)).1 hlt y hPD
    obtain ⟨p1, p2, p3⟩ := hPD
    have fm : s.f y = K := by rw [← hy]; exact s.fg K
    have R := rem hKn hS p1 fm
    have yn : y < n := by omega
    have nc : ∀ a b, a < y → y < b → b < K → g a = g b → g y = g K → g a = g y := fun a b h1 h2 h3 h4 h5 => by
     apply Classical.byContradiction
     intro hne
     rw [Bool.eq_false_iff] at hnc
     exact hnc ((crs_iff n g).2 ⟨a, y, b, K, h1, h2, h3, hKn, h4, h5, hne⟩)
    rw [th, hy, if_pos p1, TT, if_neg e, Grp.mul_one, TT_step hKn ⟨p1, p2, p3⟩ nc c2 hlt K (Nat.le_refl _) hlt]
    congr 1
    refine th_TT hcan hnc K (by omega) _ R.sup (fun z hz => ?_)
    have tg : (tau n y K * s).g z = trf y K (s.g z) := by
     show (tau n y K).g (s.g z) = _
     rw [tau_g yn hKn]
    obtain ⟨r1, r2⟩ := hR z (by omega)
    constructor
    · intro h w hw
      have e1 := r1 h w hw
      rw [tg, e1]
      have hw1 := hw.1
      have hwy : w ≠ y := fun h => by
       have : s.g z = s.g K := by rw [e1, h, hy]
       have := s.inj_g this
       omega
      rw [trf_o hwy (by omega)]
    · intro h
      have e1 := r2 h
      rw [tg]
      by_cases h1 : s.g z = y
      · exfalso
        have : s.g z = s.g K := by rw [h1, hy]
        have := s.inj_g this
        omega
      · by_cases h2 : s.g z = K
        · rw [h2, trf_b, p2]
          rw [h2] at e1
          exact e1
        · rw [trf_o h1 h2]
          exact e1
theorem cl_wPart {n : Nat} {s : Pm n} {g : Nat → Nat} (h : Pt s g) : cl n (wPart n g) = th n n s := by
 have h1 := cl_bks (n := n) (g := g) n 0 (by omega)
 have h2 := th_TT h.can h.nc n (Nat.le_refl _) s (sup_n s) (fun z hz => by
  constructor
  · intro hlt y hPD
    obtain ⟨p1, p2, p3⟩ := hPD
    have hf : s.f y = z := by
     rw [h.f y (by omega)]
     rcases mdf_spec (g := g) (show y < n by omega) with ⟨k, k1, k2, k3, k4, k5⟩ | ⟨k1, k2⟩
     · rw [k5]
       rcases Nat.lt_or_ge k z with hk | hk
       · exact absurd (k3.trans p2) (p3 k k1 hk)
       · by_cases e : k = z
         · exact e
         · exact absurd p2.symm (k4 z p1 (by omega))
     · exact absurd p2.symm (k1 z p1 hz)
    rw [← hf, s.gf]
  · intro he
    have hz' : s.g z < n := s.lt_g hz
    have hi := h.lb.inv (s.g z) hz'
    rw [s.fg] at hi
    rw [← hi]
    exact he)
 rw [h2, ← h1]
 exact (Grp.one_mul _).symm
end Go.Ev.Yteclcmiopobnaaa.P
