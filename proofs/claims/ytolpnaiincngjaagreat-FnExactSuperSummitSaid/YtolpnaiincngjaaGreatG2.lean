/- Normal forms: simple elements put ahead, passes, and what is taken off at both ends. -/
import Derived.Test.YtolpnaiincngjaaGreatG1
set_option linter.unusedVariables false
set_option linter.unusedSimpArgs false
namespace Go.Gar.Lat
variable {G : Type} [Grp G] (Γ : Lat G)
def AllS (l : List G) : Prop := ∀ x ∈ l, Γ.S x
/-- Each pair is weighted. -/
def Wd : List G → Prop
  | [] => True
  | a :: l => (∀ b, l.head? = some b → Γ.meet (Γ.K a) b = 1) ∧ Wd l
/-- t put ahead of a list. -/
def L : G → List G → List G
  | t, [] => [t]
  | t, a :: A => (t * Γ.meet (Γ.K t) a) :: L ((Γ.meet (Γ.K t) a)⁻¹ * a) A
def nf (l : List G) : List G := l.foldr Γ.L []
variable {Γ}
theorem AllS.tail {a : G} {l : List G} (h : Γ.AllS (a :: l)) : Γ.AllS l := fun x hx => h x (List.mem_cons_of_mem _ hx)
theorem AllS.head {a : G} {l : List G} (h : Γ.AllS (a :: l)) : Γ.S a := h a List.mem_cons_self
theorem AllS.cons {a : G} {l : List G} (h : Γ.S a) (hl : Γ.AllS l) : Γ.AllS (a :: l) := fun x hx => by
  rcases List.mem_cons.1 hx with rfl | hx
  · exact h
  · exact hl x hx
theorem AllS.nil : Γ.AllS [] := fun x hx => by simp at hx
theorem AllS.app {l m : List G} (h : Γ.AllS l) (hm : Γ.AllS m) : Γ.AllS (l ++ m) := fun x hx => (List.mem_append.1 hx).elim (h x) (hm x)
theorem AllS.left {l m : List G} (h : Γ.AllS (l ++ m)) : Γ.AllS l := fun x hx => h x (List.mem_append.2 (.inl hx))
theorem AllS.right {l m : List G} (h : Γ.AllS (l ++ m)) : Γ.AllS m := fun x hx => h x (List.mem_append.2 (.inr hx))
theorem L_S : ∀ {A : List G} {t : G}, Γ.S t → Γ.AllS A → Γ.AllS (Γ.L t A)
  | [], t, ht, _ => AllS.cons ht AllS.nil
  | a :: A, t, ht, hA => by
    have C := cut ht hA.head
    exact AllS.cons C.S_tc (L_S C.S_r hA.tail)
theorem L_len : ∀ {A : List G} {t : G}, (Γ.L t A).length = A.length + 1
  | [], t => rfl
  | a :: A, t => by simp only [L, List.length_cons, L_len]
theorem L_Wd : ∀ {A : List G} {t : G}, Γ.S t → Γ.AllS A → Γ.Wd A → Γ.Wd (Γ.L t A)
  | [], t, ht, _, _ => ⟨fun b h => by simp at h, trivial⟩
  | [a], t, ht, hA, _ => by
    have C := cut ht hA.head
    refine ⟨fun b h => ?_, ⟨fun b h => by simp at h, trivial⟩⟩
    simp only [L, List.head?_cons, Option.some.injEq] at h
    subst h
    exact C.one
  | a :: b :: B, t, ht, hA, hW => by
    have C := cut ht hA.head
    refine ⟨fun z h => ?_, L_Wd C.S_r hA.tail hW.2⟩
    simp only [L, List.head?_cons, Option.some.injEq] at h
    subst h
    exact dom1 ht hA.head hA.tail.head (hW.1 b rfl)
theorem nf_S : ∀ {l : List G}, Γ.AllS l → Γ.AllS (Γ.nf l)
  | [], _ => AllS.nil
  | a :: l, h => L_S h.head (nf_S h.tail)
theorem nf_len : ∀ {l : List G}, (Γ.nf l).length = l.length
  | [] => rfl
  | a :: l => by
    show (Γ.L a (Γ.nf l)).length = _
    rw [L_len, nf_len, List.length_cons]
theorem nf_Wd : ∀ {l : List G}, Γ.AllS l → Γ.Wd (Γ.nf l)
  | [], _ => trivial
  | a :: l, h => L_Wd h.head (nf_S h.tail) (nf_Wd h.tail)
theorem L_fix : ∀ {A : List G} {a : G}, Γ.Wd (a :: A) → Γ.L a A = a :: A
  | [], a, _ => rfl
  | b :: B, a, h => by
    have h1 := h.1 b rfl
    simp only [L, h1, Grp.mul_one, inv_one, Grp.one_mul]
    rw [L_fix h.2]
theorem nf_fix : ∀ {l : List G}, Γ.Wd l → Γ.nf l = l
  | [], _ => rfl
  | a :: l, h => by
    show Γ.L a (Γ.nf l) = _
    rw [nf_fix h.2, L_fix h]
theorem L_snoc : ∀ {A : List G} {t : G}, Γ.S t → Γ.AllS A → Γ.L t (A ++ [1]) = Γ.L t A ++ [1]
  | [], t, ht, _ => by
    simp only [List.nil_append, L, meet_one_r (SK ht), Grp.mul_one, inv_one, List.cons_append]
  | a :: A, t, ht, hA => by
    have C := cut ht hA.head
    simp only [List.cons_append, L]
    rw [L_snoc C.S_r hA.tail]
theorem L_one : ∀ {A : List G}, Γ.AllS A → Γ.L 1 A = A ++ [1]
  | [], _ => rfl
  | a :: A, h => by
    have e : Γ.K 1 = Γ.D := by unfold K; rw [inv_one, Grp.one_mul]
    simp only [L, e, meet_D_l h.head, Grp.one_mul, Grp.inv_mul]
    rw [L_one h.tail]
    rfl
theorem L_mul : ∀ {A : List G} {u v : G}, Γ.S u → Γ.S v → Γ.le v (Γ.K u) → Γ.AllS A → Γ.L u (Γ.L v A) = Γ.L (u * v) A ++ [1]
  | [], u, v, hu, hv, h, _ => by
    have e : Γ.meet (Γ.K u) v = v := Γ.anti (Γ.S_meet (SK hu) hv) hv (Γ.meet_r (SK hu) hv) (Γ.le_meet (SK hu) hv hv h (Γ.refl hv))
    simp only [L, e, Grp.inv_mul, List.cons_append, List.nil_append]
  | a :: A, u, v, hu, hv, h, hA => by
    have ha := hA.head
    obtain ⟨s1, s2⟩ := P1 hu hv h
    have C := cut hv ha
    have Cf := cut s1 ha
    -- K (u v) within K v
    have hKuv : Γ.le (Γ.K (u * v)) (Γ.K v) := by
      rw [K_mul]
      exact (P0 hv (SK hu) h).2
    have eK : v * Γ.K (u * v) = Γ.K u := by rw [K_mul, mul_inv_l]
    have ed : Γ.meet (Γ.K u) (v * Γ.meet (Γ.K v) a) = v * Γ.meet (Γ.K (u * v)) (Γ.meet (Γ.K v) a) := by
      rw [← meet_mul hv (SK s1) C.S_c hKuv C.c_K, eK]
    have ee : Γ.meet (Γ.K (u * v)) (Γ.meet (Γ.K v) a) = Γ.meet (Γ.K (u * v)) a := by
      have hm := Γ.S_meet (SK s1) C.S_c
      apply Γ.anti hm Cf.S_c
      · exact Γ.le_meet (SK s1) ha hm (Γ.meet_l (SK s1) C.S_c) (Γ.trans hm C.S_c ha (Γ.meet_r (SK s1) C.S_c) C.c_a)
      · exact Γ.le_meet (SK s1) C.S_c Cf.S_c Cf.c_K (Γ.le_meet (SK hv) ha Cf.S_c (Γ.trans Cf.S_c (SK s1) (SK hv) Cf.c_K hKuv) Cf.c_a)
    have hfc : Γ.le (Γ.meet (Γ.K (u * v)) a) (Γ.meet (Γ.K v) a) := Γ.le_meet (SK hv) ha Cf.S_c (Γ.trans Cf.S_c (SK s1) (SK hv) Cf.c_K hKuv) Cf.c_a
    simp only [L]
    rw [ed, ee]
    generalize Γ.meet (Γ.K (u * v)) a = f at *
    generalize Γ.meet (Γ.K v) a = c at *
    have e1 : (v * f)⁻¹ * (v * c) = f⁻¹ * c := by rw [mul_inv_rev, Grp.assoc, inv_mul_l]
    obtain ⟨q1, q2⟩ := P0 Cf.S_c C.S_c hfc
    have hr : Γ.le (c⁻¹ * a) (Γ.K (f⁻¹ * c)) := by
      -- c = f g: g r = f⁻¹ a
      have e2 : (f⁻¹ * c) * (c⁻¹ * a) = f⁻¹ * a := by rw [Grp.assoc, mul_inv_l]
      have hg : Γ.le (f⁻¹ * c) (f⁻¹ * a) := by
        rw [← P2 Cf.S_c q1 Cf.S_r q2 Cf.r_K, mul_inv_l, mul_inv_l]
        exact C.c_a
      have := (P0 q1 Cf.S_r hg).2
      rw [← e2, inv_mul_l] at this
      exact this
    rw [e1, L_mul q1 C.S_r hr hA.tail, Grp.assoc, mul_inv_l, Grp.assoc]
    rfl
theorem move {x y c : G} {A : List G} (hx : Γ.S x) (hy : Γ.S y) (hc : Γ.S c) (h1 : Γ.le c (Γ.K x)) (h2 : Γ.le c y) (hA : Γ.AllS A) : Γ.L x (Γ.L y A) = Γ.L (x * c) (Γ.L (c⁻¹ * y) A) := by
  obtain ⟨q1, q2⟩ := P0 hc hy h2
  have e1 := L_mul hc q1 q2 hA
  rw [mul_inv_l] at e1
  have e2 := L_mul hx hc h1 (L_S q1 hA)
  rw [e1, L_snoc hx (L_S hy hA)] at e2
  exact (List.append_cancel_right e2)
theorem foldr_S : ∀ {X Z : List G}, Γ.AllS X → Γ.AllS Z → Γ.AllS (X.foldr Γ.L Z)
  | [], Z, _, hZ => hZ
  | x :: X, Z, hX, hZ => L_S hX.head (foldr_S hX.tail hZ)
theorem foldr_L : ∀ {A : List G} {t : G} {Z : List G}, Γ.S t → Γ.AllS A → Γ.AllS Z → (Γ.L t A).foldr Γ.L Z = Γ.L t (A.foldr Γ.L Z)
  | [], t, Z, _, _, _ => rfl
  | a :: A, t, Z, ht, hA, hZ => by
    have C := cut ht hA.head
    simp only [L, List.foldr_cons]
    rw [foldr_L C.S_r hA.tail hZ]
    exact (move ht hA.head C.S_c C.c_K C.c_a (foldr_S hA.tail hZ)).symm
theorem foldr_nf : ∀ {X Z : List G}, Γ.AllS X → Γ.AllS Z → (Γ.nf X).foldr Γ.L Z = X.foldr Γ.L Z
  | [], Z, _, _ => rfl
  | x :: X, Z, hX, hZ => by
    show (Γ.L x (Γ.nf X)).foldr Γ.L Z = _
    rw [foldr_L hX.head (nf_S hX.tail) hZ, foldr_nf hX.tail hZ]
    rfl
theorem nf_append {X Y : List G} : Γ.nf (X ++ Y) = X.foldr Γ.L (Γ.nf Y) := List.foldr_append ..
theorem nf_app_l {X Y : List G} (hX : Γ.AllS X) (hY : Γ.AllS Y) : Γ.nf (Γ.nf X ++ Y) = Γ.nf (X ++ Y) := by
  rw [nf_append, nf_append, foldr_nf hX (nf_S hY)]
theorem nf_move {p q : List G} {x y c : G} (hx : Γ.S x) (hy : Γ.S y) (hc : Γ.S c) (h1 : Γ.le c (Γ.K x)) (h2 : Γ.le c y) (hq : Γ.AllS q) :
    Γ.nf (p ++ x :: y :: q) = Γ.nf (p ++ (x * c) :: (c⁻¹ * y) :: q) := by
  rw [nf_append, nf_append]
  congr 1
  exact move hx hy hc h1 h2 (nf_S hq)
variable (Γ)
def step1 (a : G) : List G → List G
  | [] => [a]
  | b :: l => (a * Γ.meet (Γ.K a) b) :: ((Γ.meet (Γ.K a) b)⁻¹ * b) :: l
def pass : List G → List G
  | [] => []
  | a :: l => Γ.step1 a (pass l)
variable {Γ}
theorem step1_S {a : G} {l : List G} (ha : Γ.S a) (hl : Γ.AllS l) : Γ.AllS (Γ.step1 a l) := by
  cases l with
  | nil => exact AllS.cons ha AllS.nil
  | cons b l =>
    have C := cut ha hl.head
    exact AllS.cons C.S_tc (AllS.cons C.S_r hl.tail)
theorem pass_S : ∀ {l : List G}, Γ.AllS l → Γ.AllS (Γ.pass l)
  | [], _ => AllS.nil
  | a :: l, h => step1_S h.head (pass_S h.tail)
theorem pass_len : ∀ {l : List G}, (Γ.pass l).length = l.length
  | [] => rfl
  | a :: l => by
    have := pass_len (l := l)
    simp only [pass]
    cases h : Γ.pass l with
    | nil => rw [h] at this; simp at this; simp [step1, ← this]
    | cons b m => rw [h] at this; simp [step1, ← this]
theorem nf_step1 {a : G} {l : List G} (ha : Γ.S a) (hl : Γ.AllS l) : Γ.nf (Γ.step1 a l) = Γ.nf (a :: l) := by
  cases l with
  | nil => rfl
  | cons b l =>
    have C := cut ha hl.head
    exact (nf_move (p := []) ha hl.head C.S_c C.c_K C.c_a hl.tail).symm
theorem nf_cons {a : G} {l : List G} : Γ.nf (a :: l) = Γ.L a (Γ.nf l) := rfl
theorem nf_pass : ∀ {l : List G}, Γ.AllS l → Γ.nf (Γ.pass l) = Γ.nf l
  | [], _ => rfl
  | a :: l, h => by
    rw [pass, nf_step1 h.head (pass_S h.tail), nf_cons, nf_pass h.tail, nf_cons]
/-- A pass finds the first element. -/
theorem pass_head : ∀ {l : List G}, Γ.AllS l → (Γ.pass l).head? = (Γ.nf l).head?
  | [], _ => rfl
  | a :: l, h => by
    have ih := pass_head h.tail
    rw [pass, nf_cons]
    cases h1 : Γ.pass l with
    | nil =>
      rw [h1] at ih
      cases h2 : Γ.nf l with
      | nil => rfl
      | cons b m => rw [h2] at ih; simp at ih
    | cons b m =>
      rw [h1] at ih
      cases h2 : Γ.nf l with
      | nil => rw [h2] at ih; simp at ih
      | cons b' m' =>
        rw [h2] at ih
        simp only [List.head?_cons, Option.some.injEq] at ih
        subst ih
        rfl
/-- Once the first one is found, it stays, and the rest goes on alone. -/
def Fst (h : G) (r : List G) : Prop := Γ.S h ∧ Γ.AllS r ∧ ∀ b, (Γ.nf r).head? = some b → Γ.meet (Γ.K h) b = 1
theorem Fst.nf {h : G} {r : List G} (H : Γ.Fst h r) : Γ.nf (h :: r) = h :: Γ.nf r := by
  rw [nf_cons]
  exact L_fix ⟨H.2.2, nf_Wd H.2.1⟩
theorem Fst.pass {h : G} {r : List G} (H : Γ.Fst h r) : Γ.pass (h :: r) = h :: Γ.pass r ∧ Γ.Fst h (Γ.pass r) := by
  refine ⟨?_, H.1, pass_S H.2.1, by rw [nf_pass H.2.1]; exact H.2.2⟩
  have e := pass_head H.2.1
  rw [Lat.pass]
  cases h1 : Γ.pass r with
  | nil => rfl
  | cons b m =>
    rw [h1] at e
    have := H.2.2 b (by rw [← e]; rfl)
    simp only [step1, this, Grp.mul_one, inv_one, Grp.one_mul]
theorem pass_fst {a : G} {l : List G} (h : Γ.AllS (a :: l)) : ∃ x r, Γ.pass (a :: l) = x :: r ∧ r.length = l.length ∧ Γ.Fst x r := by
  have hS := pass_S h
  have hl := pass_len (Γ := Γ) (l := a :: l)
  have hn := nf_pass h
  have hh := pass_head h
  cases h1 : Γ.pass (a :: l) with
  | nil => rw [h1] at hl; simp at hl
  | cons x r =>
    rw [h1] at hS hl hn hh
    refine ⟨x, r, rfl, by simpa using hl, hS.head, hS.tail, fun b hb => ?_⟩
    rw [← hn, nf_cons] at hh
    cases h2 : Γ.nf r with
    | nil => rw [h2] at hb; simp at hb
    | cons b' m =>
      rw [h2] at hb hh
      simp only [List.head?_cons, Option.some.injEq] at hb
      subst hb
      simp only [L, List.head?_cons, Option.some.injEq] at hh
      apply cancel_l (a := x)
      rw [Grp.mul_one, ← hh]
variable (Γ)
def iter : Nat → List G → List G
  | 0, l => l
  | n + 1, l => Γ.pass (iter n l)
variable {Γ}
theorem iter_succ (n : Nat) (l : List G) : Γ.iter (n + 1) l = Γ.pass (Γ.iter n l) := rfl
theorem iter_pass (n : Nat) (l : List G) : Γ.iter n (Γ.pass l) = Γ.iter (n + 1) l := by
  induction n with
  | zero => rfl
  | succ n ih => rw [iter_succ, ih, iter_succ (n + 1)]
theorem iter_fst {h : G} : ∀ (n : Nat) {r : List G}, Γ.Fst h r → Γ.iter n (h :: r) = h :: Γ.iter n r
  | 0, r, _ => rfl
  | n + 1, r, H => by
    rw [← iter_pass, H.pass.1, iter_fst n H.pass.2, iter_pass]
/-- As many passes as there are elements make the normal form. -/
theorem iter_nf : ∀ (n : Nat) {l : List G}, l.length ≤ n → Γ.AllS l → Γ.iter n l = Γ.nf l
  | 0, l, h, _ => by
    have : l = [] := List.length_eq_zero_iff.1 (by omega)
    subst this
    rfl
  | n + 1, [], _, _ => by
    rw [iter_succ, iter_nf n (by simp) AllS.nil]
    rfl
  | n + 1, a :: l, h, hS => by
    obtain ⟨x, r, h1, h2, H⟩ := pass_fst hS
    rw [← iter_pass, h1, iter_fst n H, iter_nf n (by simp only [List.length_cons] at h; omega) H.2.1, ← H.nf, ← h1, nf_pass hS]
/-- A pass over a weighted list changes nothing. -/
theorem pass_fix {l : List G} (h : Γ.Wd l) : Γ.pass l = l := by
  induction l with
  | nil => rfl
  | cons a l ih =>
    rw [pass, ih h.2]
    cases l with
    | nil => rfl
    | cons b m => simp only [step1, h.1 b rfl, Grp.mul_one, inv_one, Grp.one_mul]
/-- One pass over a weighted list with one more behind it makes the normal form. -/
theorem pass_put : ∀ {A : List G} {s : G}, Γ.AllS A → Γ.S s → Γ.Wd A → Γ.Wd (Γ.pass (A ++ [s]))
  | [], s, _, _, _ => ⟨fun b h => by simp at h, trivial⟩
  | [a], s, hA, hs, _ => by
    have C := cut hA.head hs
    refine ⟨fun b h => ?_, ⟨fun b h => by simp at h, trivial⟩⟩
    simp only [List.head?_cons, Option.some.injEq] at h
    subst h
    exact C.one
  | a1 :: a2 :: A, s, hA, hs, hW => by
    have ih := pass_put hA.tail hs hW.2
    have hS := pass_S (hA.tail.tail.app (AllS.cons hs AllS.nil))
    have hl := pass_len (Γ := Γ) (l := A ++ [s])
    have e : Γ.pass (a2 :: A ++ [s]) = Γ.step1 a2 (Γ.pass (A ++ [s])) := rfl
    rw [show a1 :: a2 :: A ++ [s] = a1 :: (a2 :: A ++ [s]) from rfl, pass, e]
    rw [e] at ih
    cases h1 : Γ.pass (A ++ [s]) with
    | nil => rw [h1] at hl; simp at hl
    | cons b m =>
      rw [h1] at ih hS
      have C := cut hA.tail.head hS.head
      have C1 := cut hA.head C.S_tc
      refine ⟨fun z h => ?_, fun z h => ?_, ih.2⟩
      · simp only [List.head?_cons, Option.some.injEq] at h
        subst h
        exact C1.one
      · simp only [List.head?_cons, Option.some.injEq] at h
        subst h
        exact dom2 hA.head hA.tail.head hS.head (hW.1 a2 rfl)
theorem pass_nf {A : List G} {s : G} (hA : Γ.AllS A) (hs : Γ.S s) (hW : Γ.Wd A) : Γ.pass (A ++ [s]) = Γ.nf (A ++ [s]) := by
  rw [← nf_pass (hA.app (AllS.cons hs AllS.nil)), nf_fix (pass_put hA hs hW)]
end Go.Gar.Lat
