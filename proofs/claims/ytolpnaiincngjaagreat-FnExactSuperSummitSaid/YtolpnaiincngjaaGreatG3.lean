/- Greatest elements taken off the front, nothings off the end. -/
import Derived.Test.YtolpnaiincngjaaGreatG2
set_option linter.unusedVariables false
set_option linter.unusedSimpArgs false
namespace Go.Gar.Lat
variable {G : Type} [Grp G] [DecidableEq G] (Γ : Lat G)
def fr : List G → Nat × List G
  | [] => (0, [])
  | a :: l => if a = Γ.D then ((fr l).1 + 1, (fr l).2) else (0, a :: l)
def bk : List G → List G
  | [] => []
  | a :: l => match bk l with
    | [] => if a = 1 then [] else [a]
    | b :: m => a :: b :: m
def norm (l : List G) : Nat × List G := ((Γ.fr (Γ.nf l)).1, bk (Γ.fr (Γ.nf l)).2)
structure Proper (A : List G) : Prop where
  S : Γ.AllS A
  W : Γ.Wd A
  no : ∀ x ∈ A, x ≠ Γ.D ∧ x ≠ 1
abbrev Ds (i : Nat) : List G := List.replicate i Γ.D
abbrev ones (j : Nat) : List G := List.replicate j 1
variable {Γ}
omit [DecidableEq G] in
theorem Proper.nil : Γ.Proper [] := ⟨AllS.nil, trivial, fun x h => by simp at h⟩
omit [DecidableEq G] in
theorem Ds_S (i : Nat) : Γ.AllS (Γ.Ds i) := fun x h => by rw [List.eq_of_mem_replicate h]; exact Γ.S_D
omit [DecidableEq G] in
theorem ones_S (j : Nat) : Γ.AllS (ones j) := fun x h => by rw [List.eq_of_mem_replicate h]; exact Γ.S_one
omit [DecidableEq G] in
theorem K_D : Γ.K Γ.D = 1 := Grp.inv_mul _
omit [DecidableEq G] in
theorem K_one : Γ.K 1 = Γ.D := by unfold K; rw [inv_one, Grp.one_mul]
omit [DecidableEq G] in
theorem meet_one_l {x : G} (hx : Γ.S x) : Γ.meet 1 x = 1 := le_one (Γ.S_meet Γ.S_one hx) (Γ.meet_l Γ.S_one hx)
omit [DecidableEq G] in
theorem meet_D_r {x : G} (hx : Γ.S x) : Γ.meet x Γ.D = x :=
  Γ.anti (Γ.S_meet hx Γ.S_D) hx (Γ.meet_l hx Γ.S_D) (Γ.le_meet hx Γ.S_D hx (Γ.refl hx) (Γ.le_D hx))
omit [DecidableEq G] in
theorem Wd_D {l : List G} (h : Γ.Wd l) (hS : Γ.AllS l) : Γ.Wd (Γ.D :: l) :=
  ⟨fun b hb => by rw [K_D]; exact meet_one_l (hS b (List.mem_of_mem_head? hb)), h⟩
omit [DecidableEq G] in
theorem nf_Ds (i : Nat) {Y : List G} (hY : Γ.AllS Y) : Γ.nf (Γ.Ds i ++ Y) = Γ.Ds i ++ Γ.nf Y := by
  induction i with
  | zero => rfl
  | succ i ih =>
    simp only [Ds, List.replicate_succ, List.cons_append] at ih ⊢
    rw [nf_cons, ih]
    apply L_fix
    have hS : Γ.AllS (List.replicate i Γ.D ++ Γ.nf Y) := (Ds_S i).app (nf_S hY)
    exact Wd_D (by rw [← ih]; exact nf_Wd ((Ds_S i).app hY)) hS
omit [DecidableEq G] in
theorem foldr_snoc : ∀ {X Z : List G}, Γ.AllS X → Γ.AllS Z → X.foldr Γ.L (Z ++ [1]) = X.foldr Γ.L Z ++ [1]
  | [], Z, _, _ => rfl
  | x :: X, Z, hX, hZ => by
    simp only [List.foldr_cons]
    rw [foldr_snoc hX.tail hZ, L_snoc hX.head (foldr_S hX.tail hZ)]
omit [DecidableEq G] in
theorem foldr_ones : ∀ (j : Nat) {X Z : List G}, Γ.AllS X → Γ.AllS Z → X.foldr Γ.L (Z ++ ones j) = X.foldr Γ.L Z ++ ones j
  | 0, X, Z, _, _ => by simp [ones]
  | j + 1, X, Z, hX, hZ => by
    have e : (ones (j + 1) : List G) = [1] ++ ones j := by simp [ones, List.replicate_succ]
    rw [e, ← List.append_assoc, foldr_ones j hX (hZ.app (AllS.cons Γ.S_one AllS.nil)), foldr_snoc hX hZ, List.append_assoc]
omit [DecidableEq G] in
theorem L_ones : ∀ (j : Nat) {A : List G}, Γ.AllS A → (ones j).foldr Γ.L A = A ++ ones j
  | 0, A, _ => by simp [ones]
  | j + 1, A, hA => by
    have h : (ones j).foldr Γ.L A = A ++ ones j := L_ones j hA
    simp only [ones, List.replicate_succ, List.foldr_cons] at h ⊢
    rw [h, L_one (hA.app (ones_S j)), List.append_assoc, ← List.replicate_succ', List.replicate_succ]
omit [DecidableEq G] in
theorem nf_ones {X Y : List G} (j : Nat) (hX : Γ.AllS X) (hY : Γ.AllS Y) : Γ.nf (X ++ ones j ++ Y) = Γ.nf (X ++ Y) ++ ones j := by
  rw [nf_append, List.foldr_append, L_ones j (nf_S hY), foldr_ones j hX (nf_S hY), nf_append]
omit [DecidableEq G] in
/-- How a weighted list looks. -/
theorem Wd_shape (hD : Γ.D ≠ 1) : ∀ {l : List G}, Γ.AllS l → Γ.Wd l → ∃ i A j, l = Γ.Ds i ++ A ++ ones j ∧ Γ.Proper A
  | [], _, _ => ⟨0, [], 0, rfl, Proper.nil⟩
  | a :: l, hS, hW => by
    obtain ⟨i, A, j, e, hP⟩ := Wd_shape hD hS.tail hW.2
    by_cases h1 : a = Γ.D
    · subst h1
      exact ⟨i + 1, A, j, by rw [e]; simp [Ds, List.replicate_succ], hP⟩
    · have hi : i = 0 := by
        cases i with
        | zero => rfl
        | succ i =>
          exfalso
          have := hW.1 Γ.D (by rw [e]; simp [Ds, List.replicate_succ])
          rw [meet_D_r (SK hS.head)] at this
          exact h1 (K_inj (by rw [this, K_D]))
      subst hi
      simp only [Ds, List.replicate_zero, List.nil_append] at e
      by_cases h2 : a = 1
      · subst h2
        have hA : A = [] := by
          cases A with
          | nil => rfl
          | cons b A =>
            exfalso
            have := hW.1 b (by rw [e]; simp)
            rw [K_one, meet_D_l (hP.S b List.mem_cons_self)] at this
            exact (hP.no b List.mem_cons_self).2 this
        subst hA
        exact ⟨0, [], j + 1, by rw [e]; simp [Ds, ones, List.replicate_succ], Proper.nil⟩
      · refine ⟨0, a :: A, j, by rw [e]; simp [Ds], AllS.cons hS.head hP.S, ⟨fun b hb => hW.1 b ?_, hP.W⟩, fun x hx => ?_⟩
        · rw [e, List.head?_append, hb]
          rfl
        · rcases List.mem_cons.1 hx with rfl | hx
          · exact ⟨h1, h2⟩
          · exact hP.no x hx
theorem bk_ones (j : Nat) : bk (ones j : List G) = [] := by
  induction j with
  | zero => rfl
  | succ j ih =>
    simp only [ones, List.replicate_succ] at ih ⊢
    unfold bk
    rw [ih]
    simp
theorem bk_app : ∀ {A : List G} (j : Nat), (∀ x ∈ A, x ≠ 1) → bk (A ++ ones j) = A
  | [], j, _ => bk_ones j
  | a :: A, j, h => by
    have ih := bk_app (A := A) j (fun x hx => h x (List.mem_cons_of_mem _ hx))
    show bk (a :: (A ++ ones j)) = _
    unfold bk
    rw [ih]
    cases A with
    | nil => simp [h a List.mem_cons_self]
    | cons b A => rfl
theorem fr_app : ∀ (i : Nat) {r : List G}, (∀ b, r.head? = some b → b ≠ Γ.D) → Γ.fr (Γ.Ds i ++ r) = (i, r)
  | 0, [], _ => rfl
  | 0, b :: r, h => by simp [Ds, fr, h b rfl]
  | i + 1, r, h => by
    have := fr_app i h
    simp only [Ds, List.replicate_succ, List.cons_append] at this ⊢
    simp [fr, this]
/-- The two ends taken off. -/
theorem ends (hD : Γ.D ≠ 1) {i j : Nat} {A : List G} (hP : Γ.Proper A) : ((Γ.fr (Γ.Ds i ++ A ++ ones j)).1, bk (Γ.fr (Γ.Ds i ++ A ++ ones j)).2) = (i, A) := by
  rw [List.append_assoc, fr_app i (r := A ++ ones j) ?_, bk_app j (fun x hx => (hP.no x hx).2)]
  intro b hb
  cases A with
  | nil =>
    cases j with
    | zero => simp [ones] at hb
    | succ j =>
      simp only [List.nil_append, ones, List.replicate_succ, List.head?_cons, Option.some.injEq] at hb
      subst hb
      exact fun h => hD h.symm
  | cons a A =>
    simp only [List.cons_append, List.head?_cons, Option.some.injEq] at hb
    subst hb
    exact (hP.no _ List.mem_cons_self).1
theorem norm_of (hD : Γ.D ≠ 1) {l A : List G} {i j : Nat} (h : Γ.nf l = Γ.Ds i ++ A ++ ones j) (hP : Γ.Proper A) : Γ.norm l = (i, A) := by
  unfold norm
  rw [h]
  exact ends hD hP
theorem norm_spec (hD : Γ.D ≠ 1) {l : List G} (h : Γ.AllS l) : ∃ j, Γ.nf l = Γ.Ds (Γ.norm l).1 ++ (Γ.norm l).2 ++ ones j ∧ Γ.Proper (Γ.norm l).2 ∧ (Γ.norm l).1 + (Γ.norm l).2.length + j = l.length := by
  obtain ⟨i, A, j, e, hP⟩ := Wd_shape hD (nf_S h) (nf_Wd h)
  have e2 := norm_of hD e hP
  refine ⟨j, by rw [e2, e], by rw [e2]; exact hP, ?_⟩
  have := nf_len (Γ := Γ) (l := l)
  rw [e] at this
  rw [e2, ← this]
  simp only [List.length_append, List.length_replicate]
theorem norm_proper (hD : Γ.D ≠ 1) {A : List G} (hP : Γ.Proper A) : Γ.norm A = (0, A) :=
  norm_of hD (i := 0) (j := 0) (by rw [nf_fix hP.W]; simp [Ds, ones]) hP
/-- Normal forms made step by step. -/
theorem norm_app (hD : Γ.D ≠ 1) {X Y : List G} (hX : Γ.AllS X) (hY : Γ.AllS Y) : Γ.norm (X ++ Y) = ((Γ.norm X).1 + (Γ.norm ((Γ.norm X).2 ++ Y)).1, (Γ.norm ((Γ.norm X).2 ++ Y)).2) := by
  obtain ⟨j, e, hP, _⟩ := norm_spec hD hX
  obtain ⟨k, e2, hP2, _⟩ := norm_spec hD (hP.S.app hY)
  apply norm_of hD (j := k + j) ?_ hP2
  rw [← nf_app_l hX hY, e, List.append_assoc, List.append_assoc, nf_Ds _ (hP.S.app ((ones_S j).app hY)), ← List.append_assoc (Γ.norm X).2, nf_ones j hP.S hY, e2]
  have e3 : (Γ.Ds ((Γ.norm X).1 + (Γ.norm ((Γ.norm X).2 ++ Y)).1)) = Γ.Ds (Γ.norm X).1 ++ Γ.Ds (Γ.norm ((Γ.norm X).2 ++ Y)).1 := by simp [Ds, List.replicate_append_replicate]
  have e4 : (ones (k + j) : List G) = ones k ++ ones j := by simp [ones, List.replicate_append_replicate]
  rw [e3, e4]
  simp only [List.append_assoc]
structure Auto (T : G → G) : Prop where
  mul : ∀ x y, T (x * y) = T x * T y
  inv : ∀ x, T x⁻¹ = (T x)⁻¹
  S : ∀ x, Γ.S x → Γ.S (T x)
  meet : ∀ x y, Γ.S x → Γ.S y → T (Γ.meet x y) = Γ.meet (T x) (T y)
  D : T Γ.D = Γ.D
  inj : ∀ x y, T x = T y → x = y
omit [DecidableEq G] in
theorem Auto.one {T : G → G} (H : Γ.Auto T) : T 1 = 1 := by
  apply cancel_l (a := T 1)
  rw [← H.mul, Grp.one_mul, Grp.mul_one]
omit [DecidableEq G] in
theorem Auto.L {T : G → G} (H : Γ.Auto T) : ∀ {A : List G} {t : G}, Γ.S t → Γ.AllS A → (Γ.L t A).map T = Γ.L (T t) (A.map T)
  | [], t, _, _ => rfl
  | a :: A, t, ht, hA => by
    have C := cut ht hA.head
    have e : T (Γ.meet (Γ.K t) a) = Γ.meet (Γ.K (T t)) (T a) := by
      rw [H.meet _ _ (SK ht) hA.head]
      unfold K
      rw [H.mul, H.inv, H.D]
    simp only [Lat.L, List.map_cons]
    rw [H.L C.S_r hA.tail, H.mul, H.mul, H.inv, e]
omit [DecidableEq G] in
theorem Auto.AllS {T : G → G} (H : Γ.Auto T) {l : List G} (h : Γ.AllS l) : Γ.AllS (l.map T) := by
  intro x hx
  obtain ⟨y, hy, rfl⟩ := List.mem_map.1 hx
  exact H.S y (h y hy)
omit [DecidableEq G] in
theorem Auto.nf {T : G → G} (H : Γ.Auto T) : ∀ {l : List G}, Γ.AllS l → (Γ.nf l).map T = Γ.nf (l.map T)
  | [], _ => rfl
  | a :: l, h => by
    rw [nf_cons, H.L h.head (nf_S h.tail), H.nf h.tail]
    rfl
omit [DecidableEq G] in
theorem Auto.Wd {T : G → G} (H : Γ.Auto T) : ∀ {l : List G}, Γ.AllS l → Γ.Wd l → Γ.Wd (l.map T)
  | [], _, _ => trivial
  | a :: l, hS, h => by
    refine ⟨fun b hb => ?_, H.Wd hS.tail h.2⟩
    cases l with
    | nil => simp at hb
    | cons c m =>
      simp only [List.map_cons, List.head?_cons, Option.some.injEq] at hb
      subst hb
      have := congrArg T (h.1 c rfl)
      rw [H.meet _ _ (SK hS.head) hS.tail.head, H.one] at this
      unfold K at this
      rw [H.mul, H.inv, H.D] at this
      exact this
omit [DecidableEq G] in
theorem Auto.Proper {T : G → G} (H : Γ.Auto T) {A : List G} (hP : Γ.Proper A) : Γ.Proper (A.map T) := by
  refine ⟨H.AllS hP.S, H.Wd hP.S hP.W, fun x hx => ?_⟩
  obtain ⟨y, hy, rfl⟩ := List.mem_map.1 hx
  exact ⟨fun h => (hP.no y hy).1 (H.inj _ _ (by rw [h, H.D])), fun h => (hP.no y hy).2 (H.inj _ _ (by rw [h, H.one]))⟩
theorem Auto.norm {T : G → G} (H : Γ.Auto T) (hD : Γ.D ≠ 1) {l : List G} (h : Γ.AllS l) : Γ.norm (l.map T) = ((Γ.norm l).1, (Γ.norm l).2.map T) := by
  obtain ⟨j, e, hP, _⟩ := norm_spec hD h
  apply norm_of hD (j := j) ?_ (H.Proper hP)
  rw [← H.nf h, e]
  simp [H.D, H.one]
end Go.Gar.Lat
