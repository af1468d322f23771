/- The greatest common beginning of two positive braids: the plain part. -/
import Derived.Test.YtolpnaiincngjaaGreatMnA
set_option linter.unusedVariables false
set_option linter.unusedSimpArgs false
namespace Go.Ev.YtolpnaiincngjaaGreat
open Go.Ev Go.Gar
theorem par (p : Int) : p.tmod 2 = 0 ↔ p % 2 = 0 :=
  ⟨fun h => Int.emod_eq_zero_of_dvd (Int.dvd_of_tmod_eq_zero h), fun h => Int.tmod_eq_zero_of_dvd (Int.dvd_of_emod_eq_zero h)⟩
theorem map_trn2 {n : Nat} (l : List (Pm n)) : (l.map trn).map trn = l := by
  rw [List.map_map]
  conv => rhs; rw [← List.map_id l]
  apply List.map_congr_left
  intro x _
  exact trn_trn x
theorem tk_add {n : Nat} (a b : Int) (l : List (Pm n)) : tk (a + b) l = tk a (tk b l) := by
  unfold tk
  have ha := par a
  have hb := par b
  have hab := par (a + b)
  by_cases h1 : a % 2 = 0
  · by_cases h2 : b % 2 = 0
    · rw [if_pos (hab.2 (by omega)), if_pos (ha.2 h1), if_pos (hb.2 h2)]
    · rw [if_neg (fun h => h2 (by have := hab.1 h; omega)), if_pos (ha.2 h1), if_neg (fun h => h2 (hb.1 h))]
  · by_cases h2 : b % 2 = 0
    · rw [if_neg (fun h => h1 (by have := hab.1 h; omega)), if_neg (fun h => h1 (ha.1 h)), if_pos (hb.2 h2)]
    · rw [if_pos (hab.2 (by omega)), if_neg (fun h => h1 (ha.1 h)), if_neg (fun h => h2 (hb.1 h)), map_trn2]
theorem tk_app {n : Nat} (k : Int) (l m : List (Pm n)) : tk k (l ++ m) = tk k l ++ tk k m := by
  unfold tk
  split
  · rfl
  · rw [List.map_append]
theorem tk_one {n : Nat} (k : Int) (m : Pm n) : tk k [m] = [t1 k m] := by
  unfold tk t1
  split <;> rfl
theorem tk_zero {n : Nat} (l : List (Pm n)) : tk 0 l = l := rfl
theorem K_eq {n : Nat} (x : Pm n) : (Pm.lat n).K x = x⁻¹ * Pm.half n := rfl
theorem half_l {n : Nat} (x : Pm n) : Pm.half n * (Pm.half n * x) = x := by rw [← Grp.assoc, Pm.half_half, Grp.one_mul]
theorem trn_K {n : Nat} (x : Pm n) : ((Pm.lat n).K x)⁻¹ * Pm.half n = trn x := by
  rw [K_eq, mul_inv_rev, inv_inv, Pm.half_inv, Grp.assoc]
  rfl
theorem x_K {n : Nat} (x : Pm n) : x * (Pm.lat n).K x = Pm.half n := mul_inv_l x _
theorem nf_D1 {n : Nat} (x : Pm n) (Y : List (Pm n)) : (Pm.lat n).nf (x :: Pm.half n :: Y) = (Pm.lat n).nf (Pm.half n :: trn x :: Y) := by
  have h := Lat.nf_move (Γ := Pm.lat n) (p := []) (q := Y) (x := x) (y := Pm.half n) (c := (Pm.lat n).K x) trivial trivial trivial ((Pm.lat n).refl trivial) ((Pm.lat n).le_D trivial) (allS _)
  rw [x_K, trn_K] at h
  exact h
theorem nf_D {n : Nat} : ∀ (X Y : List (Pm n)), (Pm.lat n).nf (X ++ Pm.half n :: Y) = (Pm.lat n).nf (Pm.half n :: (X.map trn ++ Y))
  | [], Y => rfl
  | x :: X, Y => by
    rw [List.cons_append, Lat.nf_cons, nf_D X Y, ← Lat.nf_cons, nf_D1]
    rfl
theorem nf_Dk {n : Nat} : ∀ (i : Nat) (X Y : List (Pm n)), (Pm.lat n).nf (X ++ ((Pm.lat n).Ds i ++ Y)) = (Pm.lat n).nf ((Pm.lat n).Ds i ++ (tk (i : Int) X ++ Y))
  | 0, X, Y => rfl
  | i + 1, X, Y => by
    have e : (Pm.lat n).Ds (i + 1) = Pm.half n :: (Pm.lat n).Ds i := rfl
    rw [e, List.cons_append, nf_D, Lat.nf_cons, nf_Dk i, ← Lat.nf_cons, List.cons_append]
    rw [show ((i + 1 : Nat) : Int) = (i : Int) + 1 by omega, tk_add]
    rfl
theorem Ds_add {n : Nat} (i j : Nat) (Y : List (Pm n)) : (Pm.lat n).Ds i ++ ((Pm.lat n).Ds j ++ Y) = (Pm.lat n).Ds (i + j) ++ Y := by
  rw [← List.append_assoc]
  simp only [Lat.Ds, List.replicate_append_replicate]
theorem mk_pre {n : Nat} (h2 : 2 ≤ n) (q : Int) (X Y : List (Pm n)) : mk (q + (((Pm.lat n).norm Y).1 : Nat)) (tk (((Pm.lat n).norm Y).1 : Nat) X ++ ((Pm.lat n).norm Y).2) = mk q (X ++ Y) := by
  obtain ⟨j, e, hP, _⟩ := Lat.norm_spec (half_ne h2) (allS Y)
  generalize (Pm.lat n).norm Y = z at e hP ⊢
  obtain ⟨i, A⟩ := z
  simp only at e hP ⊢
  obtain ⟨j', e', hP', _⟩ := Lat.norm_spec (half_ne h2) (allS (tk (i : Int) X ++ A))
  have h : (Pm.lat n).nf (X ++ Y) = (Pm.lat n).Ds (i + ((Pm.lat n).norm (tk (i : Int) X ++ A)).1) ++ ((Pm.lat n).norm (tk (i : Int) X ++ A)).2 ++ Lat.ones (j' + j) := by
    rw [← Lat.nf_app_r (allS Y), e, List.append_assoc, nf_Dk, Lat.nf_Ds i (allS _), ← List.append_assoc (tk (i : Int) X)]
    have ho := Lat.nf_ones (Γ := Pm.lat n) (X := tk (i : Int) X ++ A) (Y := []) j (allS _) (allS _)
    rw [List.append_nil, List.append_nil] at ho
    rw [ho, e']
    rw [← Ds_add]
    simp only [Lat.ones, ← List.replicate_append_replicate, List.append_assoc]
  have hn := Lat.norm_of (half_ne h2) h hP'
  simp only [mk, hn]
  congr 1
  omega
/-! ### what is taken off can be put back -/
theorem nf_1 {n : Nat} {A : List (Pm n)} (hP : (Pm.lat n).Proper A) : (Pm.lat n).nf (1 :: A) = A ++ [1] := by
  rw [Lat.nf_cons, Lat.nf_fix hP.W, Lat.L_one hP.S]
theorem less1_back {n : Nat} (h2 : 2 ≤ n) (v : Nm n) (hP : (Pm.lat n).Proper v.2) (m : Pm n) : mk (less1 v m).1 (t1 (less1 v m).1 m :: (less1 v m).2) = v := by
  have h := mk_pre h2 (v.1 - 1) (tk (v.1 - 1) [m]) (t1 v.1 (Pm.half n * m⁻¹) :: v.2)
  rw [← tk_add, Int.add_comm ((((Pm.lat n).norm (t1 v.1 (Pm.half n * m⁻¹) :: v.2)).1 : Nat) : Int), tk_one, tk_one] at h
  have e : mk (less1 v m).1 (t1 (less1 v m).1 m :: (less1 v m).2) = mk (v.1 - 1) ([t1 (v.1 - 1) m] ++ t1 v.1 (Pm.half n * m⁻¹) :: v.2) := h
  rw [e]
  have hK : t1 v.1 (Pm.half n * m⁻¹) = (Pm.lat n).K (t1 (v.1 - 1) m) := by
    have ha := par v.1
    have hb := par (v.1 - 1)
    rw [K_eq]
    unfold t1
    by_cases h1 : v.1 % 2 = 0
    · rw [if_pos (ha.2 h1), if_neg (fun h => by have := hb.1 h; omega)]
      unfold trn
      simp only [mul_inv_rev, Pm.half_inv, Grp.assoc, Pm.half_half, Grp.mul_one]
    · rw [if_neg (fun h => h1 (ha.1 h)), if_pos (hb.2 (by omega))]
      unfold trn
      simp only [Grp.assoc, half_l]
  rw [hK]
  have hm := Lat.nf_move (Γ := Pm.lat n) (p := []) (q := v.2) (x := t1 (v.1 - 1) m) (y := (Pm.lat n).K (t1 (v.1 - 1) m)) (c := (Pm.lat n).K (t1 (v.1 - 1) m)) trivial trivial trivial ((Pm.lat n).refl trivial) ((Pm.lat n).refl trivial) (allS _)
  rw [x_K, Grp.inv_mul] at hm
  have hd : (Pm.lat n).nf (Pm.half n :: 1 :: v.2) = (Pm.lat n).Ds 1 ++ v.2 ++ Lat.ones 1 := by
    have := Lat.nf_Ds (Γ := Pm.lat n) 1 (Y := 1 :: v.2) (allS _)
    rw [nf_1 hP] at this
    simp only [List.append_assoc]
    exact this
  have hn := Lat.norm_of (half_ne h2) (hm.trans hd) hP
  have hn' : (Pm.lat n).norm ([t1 (v.1 - 1) m] ++ (Pm.lat n).K (t1 (v.1 - 1) m) :: v.2) = (1, v.2) := hn
  simp only [mk, hn']
  obtain ⟨p, A⟩ := v
  simp only
  congr 1
  omega
/-! ### the head -/
noncomputable def hd {n : Nat} (v : Nm n) : Pm n := if 0 < v.1 then Pm.half n else v.2.headD 1
theorem hd_mk {n : Nat} (h2 : 2 ≤ n) (Y : List (Pm n)) : hd (mk 0 Y) = ((Pm.lat n).nf Y).headD 1 := by
  obtain ⟨j, e, hP, _⟩ := Lat.norm_spec (half_ne h2) (allS Y)
  unfold hd mk
  generalize (Pm.lat n).norm Y = z at e hP ⊢
  obtain ⟨i, A⟩ := z
  simp only at e hP ⊢
  rw [e]
  cases i with
  | zero =>
    rw [if_neg (by omega)]
    cases A with
    | nil => cases j <;> rfl
    | cons a A => rfl
  | succ i =>
    rw [if_pos (by omega)]
    rfl
theorem hd_less {n : Nat} (h2 : 2 ≤ n) (v : Nm n) (hP : (Pm.lat n).Proper v.2) (m : Pm n) (h0 : 0 ≤ (less1 v m).1) : hd v = m * (Pm.lat n).meet ((Pm.lat n).K m) (hd (less1 v m)) := by
  have hb := less1_back h2 v hP m
  have hP' : (Pm.lat n).Proper (less1 v m).2 := (mk_spec h2 _ _).1
  generalize less1 v m = w at hb h0 hP' ⊢
  obtain ⟨q, B⟩ := w
  simp only at hb h0 hP'
  by_cases h : 0 < q
  · have hs := (mk_spec h2 q (t1 q m :: B)).2.1
    rw [hb] at hs
    unfold hd
    rw [if_pos (by omega), if_pos h, show Pm.half n = (Pm.lat n).D from rfl, Lat.meet_D_r (Γ := Pm.lat n) trivial]
    exact (x_K m).symm
  · have h00 : q = 0 := by omega
    subst h00
    have ht : t1 0 m = m := rfl
    rw [ht] at hb
    rw [← hb, hd_mk h2, Lat.nf_cons, Lat.nf_fix hP'.W]
    cases B with
    | nil =>
      show m = m * (Pm.lat n).meet ((Pm.lat n).K m) 1
      rw [Lat.meet_one_r (Γ := Pm.lat n) trivial, Grp.mul_one]
    | cons b B => rfl
theorem less_pos {n : Nat} (h2 : 2 ≤ n) (v : Nm n) (h0 : 0 ≤ v.1) (m : Pm n) (hm : m ≠ 1) (hle : (Pm.lat n).le m (hd v)) : 0 ≤ (less1 v m).1 := by
  obtain ⟨p, A⟩ := v
  have hs := (mk_spec h2 (p - 1) (t1 p (Pm.half n * m⁻¹) :: A)).2.1
  by_cases h : 0 < p
  · have : p - 1 ≤ (less1 (p, A) m).1 := hs
    omega
  · have h00 : p = 0 := by simp only at h0; omega
    subst h00
    cases A with
    | nil => exact (hm (Lat.le_one (Γ := Pm.lat n) trivial hle)).elim
    | cons a A =>
      have hle' : (Pm.lat n).le m a := hle
      have hK : (Pm.lat n).K (Pm.half n * m⁻¹) = m := by
        rw [K_eq, mul_inv_rev, inv_inv, Pm.half_inv, Grp.assoc, Pm.half_half, Grp.mul_one]
      have hmv := Lat.nf_move (Γ := Pm.lat n) (p := []) (q := A) (x := Pm.half n * m⁻¹) (y := a) (c := m) trivial trivial trivial (by rw [hK]; exact (Pm.lat n).refl trivial) hle' (allS _)
      rw [inv_mul_r] at hmv
      have hd := Lat.nf_Ds (Γ := Pm.lat n) 1 (Y := (m⁻¹ * a) :: A) (allS _)
      have e : (Pm.lat n).nf (Pm.half n * m⁻¹ :: a :: A) = Pm.half n :: (Pm.lat n).nf ((m⁻¹ * a) :: A) := hmv.trans hd
      have hn : ((Pm.lat n).norm (Pm.half n * m⁻¹ :: a :: A)).1 = ((Pm.lat n).fr ((Pm.lat n).nf ((m⁻¹ * a) :: A))).1 + 1 := by
        unfold Lat.norm
        rw [e]
        simp only [Lat.fr]
        rw [if_pos (show Pm.half n = (Pm.lat n).D from rfl)]
      show 0 ≤ (0 : Int) - 1 + (((Pm.lat n).norm (t1 0 (Pm.half n * m⁻¹) :: a :: A)).1 : Nat)
      have ht : t1 0 (Pm.half n * m⁻¹) = Pm.half n * m⁻¹ := rfl
      rw [ht, hn]
      omega
theorem less_sup {n : Nat} (h2 : 2 ≤ n) (v : Nm n) (m : Pm n) : (less1 v m).1 + (less1 v m).2.length ≤ v.1 + v.2.length := by
  have hs := (mk_spec h2 (v.1 - 1) (t1 v.1 (Pm.half n * m⁻¹) :: v.2)).2.2
  simp only [List.length_cons] at hs
  have : (less1 v m).1 + (less1 v m).2.length ≤ v.1 - 1 + ((v.2.length + 1 : Nat) : Int) := hs
  omega
/-! ### a weighted beginning is no longer than the whole -/
theorem put_keeps {n : Nat} : ∀ (A : List (Pm n)) (s : Pm n), (Pm.lat n).Wd A → (∀ x ∈ A, x ≠ 1) →
    ∃ B r, (Pm.lat n).pass (A ++ [s]) = B ++ [r] ∧ B.length = A.length ∧ (∀ x ∈ B, x ≠ 1) ∧ (∀ a, A.head? = some a → ∃ x, B.head? = some x ∧ (Pm.lat n).le a x)
  | [], s, _, _ => ⟨[], s, rfl, rfl, fun x hx => by simp at hx, fun a h => by simp at h⟩
  | a :: A, s, hW, hn => by
    obtain ⟨B, r, e, hl, hB, hh⟩ := put_keeps A s hW.2 (fun x hx => hn x (List.mem_cons_of_mem _ hx))
    have ha : ∀ c, (Pm.lat n).le c ((Pm.lat n).K a) → (Pm.lat n).le a (a * c) ∧ a * c ≠ 1 := fun c hc => by
      have := (Lat.P1 (Γ := Pm.lat n) trivial trivial hc).2
      refine ⟨this, fun h1 => ?_⟩
      rw [h1] at this
      exact hn a List.mem_cons_self (Lat.le_one (Γ := Pm.lat n) trivial this)
    have hp : (Pm.lat n).pass (a :: A ++ [s]) = (Pm.lat n).step1 a (B ++ [r]) := by
      rw [List.cons_append]
      show (Pm.lat n).step1 a ((Pm.lat n).pass (A ++ [s])) = _
      rw [e]
    cases B with
    | nil =>
      have hc := ha _ ((Pm.lat n).meet_l (x := (Pm.lat n).K a) (y := r) trivial trivial)
      refine ⟨[a * (Pm.lat n).meet ((Pm.lat n).K a) r], ((Pm.lat n).meet ((Pm.lat n).K a) r)⁻¹ * r, hp, by simp only [List.length_cons, List.length_nil] at hl ⊢; omega, fun x hx => ?_, fun a' h => ?_⟩
      · rw [List.mem_singleton] at hx
        rw [hx]
        exact hc.2
      · simp only [List.head?_cons, Option.some.injEq] at h
        subst h
        exact ⟨_, rfl, hc.1⟩
    | cons x B =>
      have hc := ha _ ((Pm.lat n).meet_l (x := (Pm.lat n).K a) (y := x) trivial trivial)
      refine ⟨(a * (Pm.lat n).meet ((Pm.lat n).K a) x) :: (((Pm.lat n).meet ((Pm.lat n).K a) x)⁻¹ * x) :: B, r, hp, by simp only [List.length_cons, List.length_nil] at hl ⊢; omega, fun y hy => ?_, fun a' h => ?_⟩
      · rcases List.mem_cons.1 hy with h | hy
        · rw [h]; exact hc.2
        · rcases List.mem_cons.1 hy with h | hy
          · rw [h]
            intro h1
            have hx : x = (Pm.lat n).meet ((Pm.lat n).K a) x := by
              have := congrArg (fun z => (Pm.lat n).meet ((Pm.lat n).K a) x * z) h1
              simp only [mul_inv_l, Grp.mul_one] at this
              exact this
            cases A with
            | nil => simp at hl
            | cons a2 A =>
              obtain ⟨x', hx', hle⟩ := hh a2 rfl
              simp only [List.head?_cons, Option.some.injEq] at hx'
              subst hx'
              have h3 : (Pm.lat n).le a2 ((Pm.lat n).K a) := by
                rw [hx] at hle
                exact (Pm.lat n).trans trivial trivial trivial hle ((Pm.lat n).meet_l trivial trivial)
              have h4 := Lat.meet_le (Γ := Pm.lat n) (x := (Pm.lat n).K a) (y := a2) (z := a2) trivial trivial trivial h3 ((Pm.lat n).refl trivial) (hW.1 a2 rfl)
              exact hn a2 (by simp) h4
          · exact hB y (List.mem_cons_of_mem _ hy)
      · simp only [List.head?_cons, Option.some.injEq] at h
        subst h
        exact ⟨_, rfl, hc.1⟩
theorem norm_one {n : Nat} (h2 : 2 ≤ n) (X Y : List (Pm n)) : (Pm.lat n).norm (X ++ [1] ++ Y) = (Pm.lat n).norm (X ++ Y) := by
  obtain ⟨j, e, hP, _⟩ := Lat.norm_spec (half_ne h2) (allS (X ++ Y))
  have ho := Lat.nf_ones (Γ := Pm.lat n) (X := X) (Y := Y) 1 (allS _) (allS _)
  have h : (Pm.lat n).nf (X ++ [1] ++ Y) = (Pm.lat n).Ds ((Pm.lat n).norm (X ++ Y)).1 ++ ((Pm.lat n).norm (X ++ Y)).2 ++ Lat.ones (j + 1) := by
    have ho' : (Pm.lat n).nf (X ++ [1] ++ Y) = (Pm.lat n).nf (X ++ Y) ++ Lat.ones 1 := ho
    rw [ho', e]
    simp only [Lat.ones, ← List.replicate_append_replicate, List.append_assoc]
  exact Lat.norm_of (half_ne h2) h hP
theorem sup_ge {n : Nat} (h2 : 2 ≤ n) : ∀ (X A : List (Pm n)), (Pm.lat n).Wd A → (∀ x ∈ A, x ≠ 1) → A.length ≤ ((Pm.lat n).norm (A ++ X)).1 + ((Pm.lat n).norm (A ++ X)).2.length
  | [], A, hW, hn => by
    obtain ⟨j, e, hP, _⟩ := Lat.norm_spec (half_ne h2) (allS A)
    rw [Lat.nf_fix hW] at e
    rw [List.append_nil]
    cases j with
    | zero =>
      have := congrArg List.length e
      simp only [List.length_append, List.length_replicate, Lat.ones, Lat.Ds] at this
      omega
    | succ j =>
      exact (hn 1 (by rw [e]; simp [Lat.ones]) rfl).elim
  | s :: X, A, hW, hn => by
    obtain ⟨B, r, e, hl, hB, _⟩ := put_keeps A s hW hn
    have hpn := Lat.pass_nf (Γ := Pm.lat n) (s := s) (allS A) trivial hW
    have hWB : (Pm.lat n).Wd (B ++ [r]) := by rw [← e]; exact Lat.pass_put (allS A) trivial hW
    have hnn : (Pm.lat n).norm (A ++ s :: X) = (Pm.lat n).norm (B ++ [r] ++ X) := by
      rw [← e, hpn]
      unfold Lat.norm
      rw [Lat.nf_app_l (allS _) (allS _), List.append_assoc]
      rfl
    rw [hnn]
    by_cases hr : r = 1
    · subst hr
      rw [norm_one h2, ← hl]
      exact sup_ge h2 X B (Wd_left hWB) hB
    · have := sup_ge h2 X (B ++ [r]) hWB (fun x hx => by
        rcases List.mem_append.1 hx with h | h
        · exact hB x h
        · rw [List.mem_singleton.1 h]; exact hr)
      rw [List.length_append] at this
      omega
theorem Wd_snoc {n : Nat} : ∀ (M : List (Pm n)) (s : Pm n), (Pm.lat n).Wd M → (∀ m, M.getLast? = some m → (Pm.lat n).meet ((Pm.lat n).K m) s = 1) → (Pm.lat n).Wd (M ++ [s])
  | [], s, _, _ => ⟨fun b h => by simp at h, trivial⟩
  | [a], s, _, h => ⟨fun b hb => by
      have hb' : some s = some b := hb
      cases hb'
      exact h a rfl, fun b h => by simp at h, trivial⟩
  | a :: b :: M, s, hW, h => ⟨fun c hc => hW.1 c (by simpa using hc), Wd_snoc (b :: M) s hW.2 (fun m hm => h m (by simpa using hm))⟩
theorem mk_D {n : Nat} (h2 : 2 ≤ n) (p : Int) : mk p [Pm.half n] = (p + 1, []) := by
  have hn : (Pm.lat n).norm [Pm.half n] = (1, []) := Lat.norm_of (half_ne h2) (i := 1) (j := 0) (by rfl) Lat.Proper.nil
  simp only [mk, hn]
  rfl
end Go.Ev.YtolpnaiincngjaaGreat
