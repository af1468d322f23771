/- Parts without crossings are a second lattice of the kind of G1. Free of the program. -/
import Derived.Test.YteclcmiopobnaaaMp10
set_option linter.unusedVariables false
set_option linter.unusedSimpArgs false
namespace Go.Ev.Yteclcmiopobnaaa.P
open Go.Ev.Yteclcmiopobnaaa
open Go.Ev Go.Gar
/-- A permutation that is a part, with its labels. -/
structure Pt {n : Nat} (s : Pm n) (g : Nat → Nat) : Prop where
  can : Can n g
  nc : crs n g = false
  f : ∀ x, x < n → s.f x = mdf n g x
theorem Pt.lb {n : Nat} {s : Pm n} {g : Nat → Nat} (h : Pt s g) : Lb n s g := by
  refine ⟨h.can, fun x hx => ?_, ?_⟩
  · rw [h.f x hx]
    rcases mdf_spec (g := g) hx with ⟨k, _, _, k3, _, k5⟩ | ⟨_, k2⟩
    · rw [k5]; exact k3
    · rw [k2]; exact (h.can x hx).2
  · have : ∀ d x, x + d = n → x < n → Eo s x (g x) := by
      intro d
      induction d using Nat.strongRecOn with
      | ind d ih =>
        intro x hd hx
        have e := h.f x hx
        rcases mdf_spec (g := g) hx with ⟨k, k1, k2, k3, _, k5⟩ | ⟨_, k2⟩
        · have h1 := ih (n - k) (by omega) k (by omega) k2
          rw [k3] at h1
          have h2 := Eo.st (s := s) x
          rw [e, k5] at h2
          exact h2.tr h1
        · have h2 := Eo.st (s := s) x
          rw [e, k2] at h2
          exact h2
    intro x hx
    exact this (n - x) x (by omega) hx
theorem Lb.eo {n : Nat} {s : Pm n} {g : Nat → Nat} (h : Lb n s g) (x y : Nat) : Eo s x y ↔ x = y ∨ (x < n ∧ y < n ∧ g x = g y) := by
  constructor
  · intro e
    induction e with
    | re x => exact .inl rfl
    | st x =>
      by_cases hx : x < n
      · exact .inr ⟨hx, s.lt hx, (h.inv x hx).symm⟩
      · left; exact (s.out x (by omega)).symm
    | sy _ ih =>
      rcases ih with h1 | ⟨h1, h2, h3⟩
      · exact .inl h1.symm
      · exact .inr ⟨h2, h1, h3.symm⟩
    | tr _ _ i1 i2 =>
      rcases i1 with rfl | ⟨h1, h2, h3⟩
      · exact i2
      · rcases i2 with rfl | ⟨k1, k2, k3⟩
        · exact .inr ⟨h1, h2, h3⟩
        · exact .inr ⟨h1, k2, h3.trans k3⟩
  · rintro (rfl | ⟨h1, h2, h3⟩)
    · exact Eo.re _
    · have e1 := h.orb x h1
      rw [h3] at e1
      exact e1.tr (h.orb y h2).sy
def leP {n : Nat} (a b : Pm n) : Prop := ∀ x y, Eo a x y → Eo b x y
theorem leP_iff {n : Nat} {a b : Pm n} {g h : Nat → Nat} (ha : Pt a g) (hb : Pt b h) : leP a b ↔ Fn n g h := by
  constructor
  · intro l u v hu hv e
    rcases (hb.lb.eo u v).1 (l u v ((ha.lb.eo u v).2 (.inr ⟨hu, hv, e⟩))) with rfl | ⟨_, _, h3⟩
    · rfl
    · exact h3
  · intro F x y e
    rcases (ha.lb.eo x y).1 e with rfl | ⟨h1, h2, h3⟩
    · exact Eo.re _
    · exact (hb.lb.eo x y).2 (.inr ⟨h1, h2, F x y h1 h2 h3⟩)
theorem Pt.eq {n : Nat} {a b : Pm n} {g h : Nat → Nat} (ha : Pt a g) (hb : Pt b h) (e : ∀ x, x < n → g x = h x) : a = b := by
  apply Pm.ext
  intro x
  by_cases hx : x < n
  · rw [ha.f x hx, hb.f x hx, mdf_congr e hx]
  · rw [a.out x (by omega), b.out x (by omega)]
theorem leP_anti {n : Nat} {a b : Pm n} {g h : Nat → Nat} (ha : Pt a g) (hb : Pt b h) (l1 : leP a b) (l2 : leP b a) : a = b := by
  have F1 := (leP_iff ha hb).1 l1
  have F2 := (leP_iff hb ha).1 l2
  apply ha.eq hb
  intro x hx
  have gx := ha.can x hx
  have hx' := hb.can x hx
  have e1 := F1 (g x) x (by omega) hx gx.2
  have e2 := F2 (h x) x (by omega) hx hx'.2
  have k1 := (hb.can (g x) (by omega)).1
  have k2 := (ha.can (h x) (by omega)).1
  omega
theorem pt_one (n : Nat) : Pt (1 : Pm n) id := by
  refine ⟨fun x _ => ⟨Nat.le_refl _, rfl⟩, ?_, fun x hx => ?_⟩
  · rw [Bool.eq_false_iff]
    intro h
    obtain ⟨a, b, c, y, h1, h2, h3, h4, e1, e2, e3⟩ := (crs_iff n _).1 h
    simp only [id] at e1
    omega
  · rcases mdf_spec (g := id) hx with ⟨k, k1, _, k3, _, _⟩ | ⟨_, k2⟩
    · simp only [id] at k3
      omega
    · rw [k2]; rfl
theorem pt_D (n : Nat) : Pt (whP n) (fun _ => 0) := by
  refine ⟨fun x _ => ⟨Nat.zero_le _, rfl⟩, ?_, fun x hx => ?_⟩
  · rw [Bool.eq_false_iff]
    intro h
    obtain ⟨a, b, c, y, h1, h2, h3, h4, e1, e2, e3⟩ := (crs_iff n _).1 h
    exact e3 rfl
  · rw [whP_f hx]
    unfold sc
    rcases mdf_spec (g := fun _ => 0) hx with ⟨k, k1, k2, k3, k4, k5⟩ | ⟨k1, k2⟩
    · have : ¬ x + 1 < k := fun h => k4 (x + 1) (by omega) h rfl
      rw [k5, if_neg (by omega)]
      omega
    · have : ¬ x + 1 < n := fun h => k1 (x + 1) (by omega) h rfl
      rw [k2, if_pos (by omega)]
/-- The complement within a part. -/
theorem pt_rel {n : Nat} {x y : Pm n} {g m : Nat → Nat} (hx : Pt x g) (hy : Pt y m) (l : leP x y) : Pt (x⁻¹ * y) (rl n g m) := by
  have F := (leP_iff hx hy).1 l
  refine ⟨rl_can F n, rl_nc F hy.nc, fun z hz => ?_⟩
  have hp := x.lt_g hz
  have e : mdf n g (x.g z) = z := by rw [← hx.f _ hp, x.fg]
  show y.f (x.g z) = _
  rw [krr hx.can hy.can F hx.nc hp hz e, hy.f _ hp]
theorem rel_le {n : Nat} {x y : Pm n} {g m : Nat → Nat} (hx : Pt x g) (hy : Pt y m) (l : leP x y) : leP (x⁻¹ * y) y :=
  (leP_iff (pt_rel hx hy l) hy).2 (rl_fine ((leP_iff hx hy).1 l))
theorem fn_of {n : Nat} {a b : Nat → Nat} (h : ∀ u v, u ≤ v → v < n → a u = a v → b u = b v) : Fn n a b := by
  intro u v hu hv e
  rcases Nat.le_total u v with h1 | h1
  · exact h u v h1 hv e
  · exact (h v u h1 hu e.symm).symm
theorem rel_anti {n : Nat} {x y t : Pm n} {g h m : Nat → Nat} (hx : Pt x g) (hy : Pt y h) (ht : Pt t m) (l1 : leP x y) (l2 : leP y t) : leP (y⁻¹ * t) (x⁻¹ * t) := by
  have l3 : leP x t := fun u v e => l2 u v (l1 u v e)
  have F1 := (leP_iff hx hy).1 l1
  have F2 := (leP_iff hy ht).1 l2
  have F3 := (leP_iff hx ht).1 l3
  refine (leP_iff (pt_rel hy ht l2) (pt_rel hx ht l3)).2 (fn_of fun u v huv hv e => ?_)
  obtain ⟨em, c⟩ := (rl_iff F2 huv).2 e
  exact (rl_iff F3 huv).1 ⟨em, fun p q hp hq e' eb hin => c p q hp hq (F1 p q hp hq e') eb hin⟩
theorem rel_wide {n : Nat} {x y : Pm n} {g m : Nat → Nat} (hx : Pt x g) (hy : Pt y m) (l : leP x y) (lD : leP x (whP n)) : leP (x⁻¹ * y) (x⁻¹ * whP n) := by
  have F := (leP_iff hx hy).1 l
  have FD := (leP_iff hx (pt_D n)).1 lD
  refine (leP_iff (pt_rel hx hy l) (pt_rel hx (pt_D n) lD)).2 (fn_of fun u v huv hv e => ?_)
  obtain ⟨em, c⟩ := (rl_iff F huv).2 e
  refine (rl_iff FD huv).1 ⟨rfl, fun w w' hw hw' e' _ hin => ?_⟩
  by_cases hm : m w = m v
  · exact c w w' hw hw' e' hm hin
  · have ew := F w w' hw hw' e'
    have hwu : w ≠ u := fun h => hm (by rw [h]; exact em)
    have hwv : w' ≠ v := fun h => hm (by rw [ew, h])
    have hwu' : w' ≠ u := fun h => hm (by rw [ew, h]; exact em)
    apply Classical.byContradiction
    intro hno
    rcases Nat.lt_or_gt_of_ne hwu' with h1 | h1
    · have := no_cross hy.nc h1 (show u < w by omega) hin.2 hv ew.symm em
      exact hm (by omega)
    · have h2 : v < w' := by omega
      have := no_cross hy.nc (show u < w by omega) hin.2 h2 hw' em ew
      exact hm (by omega)
theorem le_D {n : Nat} {x : Pm n} {g : Nat → Nat} (hx : Pt x g) : leP x (whP n) := (leP_iff hx (pt_D n)).2 (fun _ _ _ _ _ => rfl)
/-! ### turned parts -/
theorem eo_conj {n : Nat} {a : Pm n} (t : Pm n) {x y : Nat} (e : Eo a x y) : Eo (t⁻¹ * (a * t)) (t.f x) (t.f y) := by
  induction e with
  | re x => exact Eo.re _
  | st x =>
    have h := Eo.st (s := t⁻¹ * (a * t)) (t.f x)
    have e : (t⁻¹ * (a * t)).f (t.f x) = t.f (a.f x) := by
      show t.f (a.f (t.g (t.f x))) = _
      rw [t.gf]
    rw [e] at h
    exact h
  | sy _ ih => exact ih.sy
  | tr _ _ i1 i2 => exact i1.tr i2
theorem conj_back {n : Nat} (a t : Pm n) : t⁻¹⁻¹ * ((t⁻¹ * (a * t)) * t⁻¹) = a := by
  rw [inv_inv]
  simp only [Grp.assoc, Grp.mul_inv, Grp.mul_one]
  rw [mul_inv_l]
theorem leP_conj {n : Nat} {a b : Pm n} (t : Pm n) (l : leP (t⁻¹ * (a * t)) (t⁻¹ * (b * t))) : leP a b := by
  intro x y e
  have h := eo_conj t⁻¹ (l _ _ (eo_conj t e))
  rw [conj_back] at h
  have e1 : (t⁻¹).f (t.f x) = x := t.gf x
  have e2 : (t⁻¹).f (t.f y) = y := t.gf y
  rw [e1, e2] at h
  exact h
theorem rel_rel {n : Nat} (x t : Pm n) : (x⁻¹ * t)⁻¹ * t = t⁻¹ * (x * t) := by rw [mul_inv_rev, inv_inv, Grp.assoc]
/-- Complements turn the order around, and nothing else does. -/
theorem rel_reflect {n : Nat} {x y t : Pm n} {g h m : Nat → Nat} (hx : Pt x g) (hy : Pt y h) (ht : Pt t m) (l1 : leP x t) (l2 : leP y t) (l : leP (y⁻¹ * t) (x⁻¹ * t)) : leP x y := by
  have h1 := rel_anti (pt_rel hy ht l2) (pt_rel hx ht l1) ht l (rel_le hx ht l1)
  rw [rel_rel, rel_rel] at h1
  exact leP_conj t h1
def isP {n : Nat} (s : Pm n) : Prop := ∃ g, Pt s g
theorem isP_rot {n : Nat} {s : Pm n} (h : isP s) : isP ((whP n)⁻¹ * (s * whP n)) := by
  obtain ⟨g, hg⟩ := h
  have h1 := pt_rel hg (pt_D n) (le_D hg)
  have h2 := pt_rel h1 (pt_D n) (le_D h1)
  rw [rel_rel] at h2
  exact ⟨_, h2⟩
noncomputable def dk (n : Nat) : Nat → Pm n
  | 0 => 1
  | k + 1 => dk n k * whP n
theorem isP_rots {n : Nat} {s : Pm n} (h : isP s) : ∀ k, isP ((dk n k)⁻¹ * (s * dk n k))
  | 0 => by
    have e : (dk n 0)⁻¹ * (s * dk n 0) = s := by
      show (1 : Pm n)⁻¹ * (s * 1) = s
      rw [inv_one, Grp.one_mul, Grp.mul_one]
    rw [e]
    exact h
  | k + 1 => by
    have := isP_rot (isP_rots h k)
    have e : (whP n)⁻¹ * ((dk n k)⁻¹ * (s * dk n k) * whP n) = (dk n (k + 1))⁻¹ * (s * dk n (k + 1)) := by
      show _ = (dk n k * whP n)⁻¹ * (s * (dk n k * whP n))
      rw [mul_inv_rev]
      simp only [Grp.assoc]
    rw [e] at this
    exact this
theorem dk_f {n : Nat} (h1 : 1 ≤ n) : ∀ k x, x < n → (dk n k).f x = (x + k) % n
  | 0, x, hx => (Nat.mod_eq_of_lt hx).symm
  | k + 1, x, hx => by
    show (whP n).f ((dk n k).f x) = _
    rw [dk_f h1 k x hx, whP_f (Nat.mod_lt _ (by omega)), ← sc_mod (Nat.mod_lt _ (by omega)), Nat.mod_add_mod]
    rfl
theorem dk_n {n : Nat} (h1 : 1 ≤ n) : dk n n = 1 := by
  apply Pm.ext
  intro x
  by_cases hx : x < n
  · rw [dk_f h1 n x hx, Nat.add_mod_right, Nat.mod_eq_of_lt hx]
    rfl
  · rw [Pm.out _ x (by omega)]
    rfl
theorem isP_unrot {n : Nat} (h1 : 1 ≤ n) {s : Pm n} (h : isP s) : isP (whP n * (s * (whP n)⁻¹)) := by
  have hk := isP_rots h (n - 1)
  have e : dk n (n - 1) = (whP n)⁻¹ := by
    have h2 : dk n (n - 1) * whP n = 1 := by
      have h3 : dk n (n - 1 + 1) = 1 := by rw [show n - 1 + 1 = n by omega]; exact dk_n h1
      exact h3
    have h3 := congrArg (fun z => z * (whP n)⁻¹) h2
    simp only [Grp.assoc, Grp.mul_inv, Grp.mul_one, Grp.one_mul] at h3
    exact h3
  rw [e, inv_inv] at hk
  exact hk
theorem isP_left {n : Nat} (h1 : 1 ≤ n) {x : Pm n} (h : isP x) : isP (whP n * x⁻¹) := by
  obtain ⟨g, hg⟩ := h
  have h2 := isP_unrot h1 ⟨_, pt_rel hg (pt_D n) (le_D hg)⟩
  have e : whP n * (x⁻¹ * whP n * (whP n)⁻¹) = whP n * x⁻¹ := by rw [Grp.assoc x⁻¹, Grp.mul_inv, Grp.mul_one]
  rw [e] at h2
  exact h2
/-! ### meets -/
theorem lst_nc {n : Nat} {g h : Nat → Nat} (hg : crs n g = false) (hh : crs n h = false) : crs n (lst g h) = false := by
  rw [Bool.eq_false_iff]
  intro hc
  obtain ⟨a, b, c, y, h1, h2, h3, h4, e1, e2, e3⟩ := (crs_iff n _).1 hc
  have key : ∀ u v, lst g h u = lst g h v → g u = g v ∧ h u = h v := by
    intro u v e
    have su := sm_iff.1 (lst_spec g h u).2.1
    have sv := sm_iff.1 (lst_spec g h v).2.1
    rw [e] at su
    exact ⟨by omega, by omega⟩
  have k1 := key _ _ e1
  have k2 := key _ _ e2
  exact e3 (lst_eq (sm_iff.2 ⟨no_cross hg h1 h2 h3 h4 k1.1 k2.1, no_cross hh h1 h2 h3 h4 k1.2 k2.2⟩))
theorem pt_meet_ex {n : Nat} {a b : Pm n} (ha : isP a) (hb : isP b) : ∃ c : Pm n, Pt c (lst ha.choose hb.choose) := by
  obtain ⟨c, _, hc⟩ := mdf_pm (lst_can n ha.choose hb.choose)
  exact ⟨c, lst_can n _ _, lst_nc ha.choose_spec.nc hb.choose_spec.nc, hc⟩
open Classical in
noncomputable def meetP {n : Nat} (a b : Pm n) : Pm n := if h : isP a ∧ isP b then (pt_meet_ex h.1 h.2).choose else 1
theorem meetP_pt {n : Nat} {a b : Pm n} (ha : isP a) (hb : isP b) : Pt (meetP a b) (lst ha.choose hb.choose) := by
  unfold meetP
  rw [dif_pos ⟨ha, hb⟩]
  exact (pt_meet_ex ha hb).choose_spec
/-- The lattice of parts. -/
noncomputable def latP (n : Nat) (h1 : 1 ≤ n) : Lat (Pm n) where
  S := isP
  le := leP
  D := whP n
  meet := meetP
  S_one := ⟨_, pt_one n⟩
  S_D := ⟨_, pt_D n⟩
  S_K := fun ⟨_, hg⟩ => ⟨_, pt_rel hg (pt_D n) (le_D hg)⟩
  S_K' h := isP_left h1 h
  refl _ := fun _ _ e => e
  trans _ _ _ l1 l2 := fun x y e => l2 x y (l1 x y e)
  anti := fun ⟨_, hx⟩ ⟨_, hy⟩ l1 l2 => leP_anti hx hy l1 l2
  one_le := fun ⟨_, hx⟩ => (leP_iff (pt_one n) hx).2 (fun u v _ _ e => by simp only [id] at e; rw [e])
  le_D := fun ⟨_, hx⟩ => le_D hx
  S_meet ha hb := ⟨_, meetP_pt ha hb⟩
  meet_l ha hb := (leP_iff (meetP_pt ha hb) ha.choose_spec).2 (fun u v _ _ e => by
    have su := sm_iff.1 (lst_spec ha.choose hb.choose u).2.1
    have sv := sm_iff.1 (lst_spec ha.choose hb.choose v).2.1
    rw [e] at su
    omega)
  meet_r ha hb := (leP_iff (meetP_pt ha hb) hb.choose_spec).2 (fun u v _ _ e => by
    have su := sm_iff.1 (lst_spec ha.choose hb.choose u).2.1
    have sv := sm_iff.1 (lst_spec ha.choose hb.choose v).2.1
    rw [e] at su
    omega)
  le_meet ha hb hz l1 l2 := (leP_iff hz.choose_spec (meetP_pt ha hb)).2 (fun u v hu hv e =>
    lst_eq (sm_iff.2 ⟨(leP_iff hz.choose_spec ha.choose_spec).1 l1 u v hu hv e, (leP_iff hz.choose_spec hb.choose_spec).1 l2 u v hu hv e⟩))
  p0 := fun ⟨_, hx⟩ ⟨_, hy⟩ l => ⟨⟨_, pt_rel hx hy l⟩, rel_wide hx hy l (le_D hx)⟩
  p1 := fun {x y} ⟨_, hx⟩ ⟨_, hy⟩ l => by
    have hK := pt_rel hx (pt_D n) (le_D hx)
    have hz := pt_rel hy hK l
    have e1 : y⁻¹ * (x⁻¹ * whP n) = (x * y)⁻¹ * whP n := by rw [mul_inv_rev, Grp.assoc]
    have e2 : whP n * (y⁻¹ * (x⁻¹ * whP n))⁻¹ = x * y := by
      rw [e1, mul_inv_rev, inv_inv, ← Grp.assoc, Grp.mul_inv, Grp.one_mul]
    have hS : isP (x * y) := by
      have := isP_left h1 ⟨_, hz⟩
      rw [e2] at this
      exact this
    refine ⟨hS, ?_⟩
    obtain ⟨_, hxy⟩ := hS
    have l2 := rel_le hy hK l
    rw [e1] at l2
    exact rel_reflect hx hxy (pt_D n) (le_D hx) (le_D hxy) l2
  p2 := fun {v x y} ⟨_, hv⟩ ⟨_, hx⟩ ⟨_, hy⟩ l1 l2 => by
    have hK := pt_rel hv (pt_D n) (le_D hv)
    have exx : ∀ x : Pm n, x⁻¹ * (v⁻¹ * whP n) = (v * x)⁻¹ * whP n := fun x => by rw [mul_inv_rev, Grp.assoc]
    have prod : ∀ {x : Pm n} {g : Nat → Nat}, Pt x g → leP x (v⁻¹ * whP n) → isP (v * x) := by
      intro x g hx l
      have hz := pt_rel hx hK l
      have e2 : whP n * (x⁻¹ * (v⁻¹ * whP n))⁻¹ = v * x := by
        rw [exx, mul_inv_rev, inv_inv, ← Grp.assoc, Grp.mul_inv, Grp.one_mul]
      have := isP_left h1 ⟨_, hz⟩
      rw [e2] at this
      exact this
    obtain ⟨_, hvx⟩ := prod hx l1
    obtain ⟨_, hvy⟩ := prod hy l2
    constructor
    · intro l
      have h3 := rel_anti hvx hvy (pt_D n) l (le_D hvy)
      rw [← exx, ← exx] at h3
      exact rel_reflect hx hy hK l1 l2 h3
    · intro l
      have h3 := rel_anti hx hy hK l l2
      rw [exx, exx] at h3
      exact rel_reflect hvx hvy (pt_D n) (le_D hvx) (le_D hvy) h3
end Go.Ev.Yteclcmiopobnaaa.P
