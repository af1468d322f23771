/- The word of a normal form: both programs', and that it is a word of that braid. -/
import Derived.Test.YtpfpjhfimmmkmaaMnF
import Derived.Test.YtpfpjhfimmmkmaaMnK
set_option linter.unusedVariables false
set_option linter.unusedSimpArgs false
namespace Go.Ev.Ytpfpjhfimmmkmaa
open Go.Ev Go.Gar
/-! ### a simple element's word -/
/-- A word, with some fuel. -/
def wLf {n : Nat} : Nat → Pm n → List Int
  | 0, _ => []
  | f + 1, s => match begL s n with
    | [] => []
    | x :: _ => x :: wLf f (swapN n (x.natAbs - 1) * s)
def wL {n : Nat} (s : Pm n) : List Int := wLf (n * n + 1) s
theorem begL_first {n : Nat} {s : Pm n} {x : Int} {m : List Int} (h : begL s n = x :: m) : ∃ p, ∃ hp : p + 1 < n, s.f (p + 1) < s.f p ∧ x = ((p + 1 : Nat) : Int) := by
  obtain ⟨p, _, h1, h2, h3⟩ := (begL_mem s n (Nat.le_refl _) x).1 (by rw [h]; exact List.mem_cons_self)
  exact ⟨p, h1, h2, h3⟩
theorem begL_nil {n : Nat} {s : Pm n} (h : begL s n = []) : s = 1 := by
  have no : ∀ p, p + 1 < n → ¬ s.f (p + 1) < s.f p := fun p hp h2 => by
    have := (begL_mem s n (Nat.le_refl _) ((p + 1 : Nat) : Int)).2 ⟨p, by omega, hp, h2, rfl⟩
    rw [h] at this
    simp at this
  have G : Pm.Greedy s s 1 := ⟨Pm.one_le s, Pm.one_le s, fun p hp _ h => no p hp h.1⟩
  exact Pm.le_anti (G.max ((Pm.lat n).refl trivial) ((Pm.lat n).refl trivial)) (Pm.one_le s)
theorem swap_swap {n p : Nat} (h : p + 1 < n) : Pm.swap n p h * Pm.swap n p h = 1 := Pm.ext fun x => Pm.sf_sf p x
theorem swap_inv {n p : Nat} (h : p + 1 < n) : (Pm.swap n p h)⁻¹ = Pm.swap n p h := Pm.ext fun x => rfl
theorem swap_cnt {n p : Nat} (h : p + 1 < n) {s : Pm n} (hs : s.f (p + 1) < s.f p) : Pm.cnt (Pm.swap n p h * s)⁻¹ < Pm.cnt s⁻¹ := by
  have e : s⁻¹ = Pm.put1 (Pm.swap n p h * s)⁻¹ p h := by
    show s⁻¹ = (Pm.swap n p h * s)⁻¹ * Pm.swap n p h
    rw [mul_inv_rev, swap_inv, Grp.assoc, swap_swap, Grp.mul_one]
  have c : (Pm.swap n p h * s)⁻¹.g p < (Pm.swap n p h * s)⁻¹.g (p + 1) := by
    show s.f (Pm.sf p p) < s.f (Pm.sf p (p + 1))
    simp [Pm.sf]
    exact hs
  have := Pm.cnt_put1 (h := h) c
  rw [← e] at this
  exact this
/-- The letter divides. -/
theorem swap_le {n p : Nat} (h : p + 1 < n) {s : Pm n} (hs : s.f (p + 1) < s.f p) : Pm.le (Pm.swap n p h) s := by
  intro i j hij hlt
  have hlt' : Pm.sf p j < Pm.sf p i := hlt
  unfold Pm.sf at hlt'
  have : i = p ∧ j = p + 1 := by
    by_cases a : j = p
    · rw [if_pos a] at hlt'
      by_cases b : i = p
      · omega
      · rw [if_neg b] at hlt'
        by_cases c : i = p + 1
        · omega
        · rw [if_neg c] at hlt'; omega
    · rw [if_neg a] at hlt'
      by_cases a' : j = p + 1
      · rw [if_pos a'] at hlt'
        by_cases b : i = p
        · exact ⟨b, a'⟩
        · rw [if_neg b] at hlt'
          by_cases c : i = p + 1
          · omega
          · rw [if_neg c] at hlt'; omega
      · rw [if_neg a'] at hlt'
        by_cases b : i = p
        · rw [if_pos b] at hlt'; omega
        · rw [if_neg b] at hlt'
          by_cases c : i = p + 1
          · rw [if_pos c] at hlt'; omega
          · rw [if_neg c] at hlt'; omega
  obtain ⟨rfl, rfl⟩ := this
  exact hs
theorem c_l02Begins_3 (n : Nat) (hn : n ≤ 8) (s : Pm n) : ∀ (d : Nat), d ≤ n → ∀ out : List Int, out.length + d ≤ 100 →
    R is_l02Begins_3 [tA8 (sA s), tLI out, tI (n : Int), tI ((n - d + 1 : Nat) : Int)] = some [tI 0, tLI (out ++ begL s d)] := by
  intro d
  induction d with
  | zero =>
    intro _ out _
    apply vs_l02Begins_3
    have h1 : ¬ (((n - 0 + 1 : Nat) : Int) < (n : Int)) := by omega
    simp only [bs_l02Begins_3, decide_eq_false h1, cond_false, begL, List.append_nil]
  | succ d ih =>
    intro hd out ho
    apply vs_l02Begins_3
    have e0 : n - (d + 1) + 1 = n - d := by omega
    by_cases h0 : n - (d + 1) + 1 < n
    · have w1 : wi64 (((n - (d + 1) + 1 : Nat) : Int) - 1) = ((n - (d + 1) : Nat) : Int) := by rw [wrap_i64] <;> omega
      have w2 : wi64 (((n - (d + 1) + 1 : Nat) : Int) + 1) = ((n - d + 1 : Nat) : Int) := by rw [wrap_i64] <;> omega
      have g1 : List.getD (sA s) (n - (d + 1)) 0 = (s.f (n - (d + 1)) : Int) := sA_get (by omega) hn
      have g2 : List.getD (sA s) (n - (d + 1) + 1) 0 = (s.f (n - d) : Int) := by rw [e0]; exact sA_get (by omega) hn
      simp (disch := omega) only [bs_l02Begins_3, w1, w2, decide_eq_true, cond_true, Bool.and_true, Int.toNat_natCast, g1, g2, apOk1]
      unfold begL
      by_cases h : s.f (n - d) < s.f (n - (d + 1))
      · rw [decide_eq_true (show ((s.f (n - d) : Nat) : Int) < (s.f (n - (d + 1)) : Nat) by omega), cond_true, if_pos ⟨h, by omega⟩, ih (by omega) _ (by simp; omega), e0]
        simp only [List.append_assoc, List.cons_append, List.nil_append]
      · rw [decide_eq_false (show ¬ ((s.f (n - d) : Nat) : Int) < (s.f (n - (d + 1)) : Nat) by omega), cond_false, if_neg (fun h2 => h h2.1), ih (by omega) _ (by omega)]
    · have h1 : ¬ (((n - (d + 1) + 1 : Nat) : Int) < (n : Int)) := by omega
      have hd0 : d = 0 := by omega
      subst hd0
      simp only [bs_l02Begins_3, decide_eq_false h1, cond_false]
      unfold begL
      rw [if_neg (fun h2 => absurd h2.2 (by simp))]
      simp [begL]
theorem c_l02Begins (n : Nat) (hn : n ≤ 8) (s : Pm n) : R is_l02Begins [tA8 (sA s), tI (n : Int)] = some [tLI (begL s n)] := by
  apply vs_l02Begins
  have := c_l02Begins_3 n hn s n (Nat.le_refl _) [] (by simp; omega)
  rw [show ((n - n + 1 : Nat) : Int) = 1 by omega] at this
  simp only [bs_l02Begins, this, Option.bind_some, getTV_here, getTV_next, List.nil_append]
theorem sA_swapped {n p : Nat} (h : p + 1 < n) (hn : n ≤ 8) (s : Pm n) : List.set (List.set (sA s) p (List.getD (sA s) (p + 1) 0)) (p + 1) (List.getD (sA s) p 0) = sA (Pm.swap n p h * s) := by
  rw [sA_get h hn, sA_get (by omega) hn]
  show List.set (List.set (A8 n s.f) p _) (p + 1) _ = A8 n fun x => s.f (Pm.sf p x)
  rw [A8_set (by omega) hn, A8_set h hn]
  apply A8_congr
  intro x hx
  by_cases h1 : x = p + 1
  · subst h1
    simp [Pm.sf]
  · by_cases h2 : x = p
    · subst h2
      simp [Pm.sf]
    · simp [Pm.sf, h1, h2]
theorem c_l02Word_2 (n : Nat) (hn : n ≤ 8) : ∀ (f : Nat) (s : Pm n), Pm.cnt s⁻¹ < f → ∀ out : List Int, out.length + f ≤ 10000 → ∃ z : List Int, R is_l02Word_2 [tA8 (sA s), tLI out, tI (n : Int)] = some [tI 0, tLI (out ++ wLf f s)] := by
  intro f
  induction f with
  | zero => intro s h; omega
  | succ f ih =>
    intro s hf out ho
    refine ⟨[], ?_⟩
    apply vs_l02Word_2
    cases h : begL s n with
    | nil =>
      simp only [bs_l02Word_2, c_l02Begins n hn, h, Option.bind_some, getTV_here, wLf, List.append_nil]
      rfl
    | cons x m =>
      obtain ⟨p, hp, hs, rfl⟩ := begL_first h
      obtain ⟨_, hi⟩ := ih (Pm.swap n p hp * s) (by have := swap_cnt hp hs; omega) (out ++ [((p + 1 : Nat) : Int)]) (by simp; omega)
      have p1 : ((((((p + 1 : Nat) : Int) :: m).length : Nat) : Int) == 0) = false := by simp; omega
      have p2 : decide (0 < (((((p + 1 : Nat) : Int) :: m).length : Nat) : Int)) = true := by simp
      have g : List.getD (((p + 1 : Nat) : Int) :: m) 0 0 = ((p + 1 : Nat) : Int) := rfl
      have ap : apOk out [((p + 1 : Nat) : Int)] = true := apOk1 (by omega)
      have e : swapN n ((((p + 1 : Nat) : Int)).natAbs - 1) = Pm.swap n p hp := by
        rw [show (((p + 1 : Nat) : Int)).natAbs - 1 = p by omega]; exact swapN_eq hp
      simp only [bs_l02Word_2, c_l02Begins n hn, h, Option.bind_some, getTV_here, p1, p2, cond_true, cond_false, g, ap, c_l02Exchange n p hp hn, c_l02Then n hn, hi, wLf, e, List.append_assoc, List.cons_append, List.nil_append]
theorem c_l02Word (n : Nat) (hn : n ≤ 8) (s : Pm n) : R is_l02Word [tI (n : Int), tA8 (sA s)] = some [tLI (wL s)] := by
  apply vs_l02Word
  have hc := Pm.cnt_le s⁻¹
  have hm : n * n ≤ 8 * 8 := Nat.mul_le_mul hn hn
  obtain ⟨_, h⟩ := c_l02Word_2 n hn (n * n + 1) s (by omega) [] (by simp; omega)
  simp only [bs_l02Word, h, Option.bind_some, getTV_here, getTV_next, List.nil_append, wL]
theorem c_wordOf_2 (n : Nat) (hn : n ≤ 8) : ∀ (f : Nat) (s : Pm n), Pm.cnt s⁻¹ < f → ∀ out : List Int, out.length + f ≤ 10000 → R ii_wordOf_2 [tA8 (sA s), tLI out, tI (n : Int)] = some [tI 0, tLI (out ++ wLf f s)] := by
  intro f
  induction f with
  | zero => intro s h; omega
  | succ f ih =>
    intro s hf out ho
    apply vi_wordOf_2
    cases h : begL s n with
    | nil =>
      simp only [bi_wordOf_2, c_beginning n hn, h, Option.bind_some, getTV_here, wLf, List.append_nil]
      rfl
    | cons x m =>
      obtain ⟨p, hp, hs, rfl⟩ := begL_first h
      have hi := ih (Pm.swap n p hp * s) (by have := swap_cnt hp hs; omega) (out ++ [((p + 1 : Nat) : Int)]) (by simp; omega)
      have p1 : ((((((p + 1 : Nat) : Int) :: m).length : Nat) : Int) == 0) = false := by simp; omega
      have p2 : decide (0 < (((((p + 1 : Nat) : Int) :: m).length : Nat) : Int)) = true := by simp
      have g : List.getD (((p + 1 : Nat) : Int) :: m) 0 0 = ((p + 1 : Nat) : Int) := rfl
      have ap : apOk out [((p + 1 : Nat) : Int)] = true := apOk1 (by omega)
      have w1 : wi64 (((p + 1 : Nat) : Int) - 1) = (p : Int) := by rw [wrap_i64] <;> omega
      have e : swapN n ((((p + 1 : Nat) : Int)).natAbs - 1) = Pm.swap n p hp := by
        rw [show (((p + 1 : Nat) : Int)).natAbs - 1 = p by omega]; exact swapN_eq hp
      simp (disch := omega) only [bi_wordOf_2, c_beginning n hn, h, Option.bind_some, getTV_here, p1, p2, cond_true, cond_false, g, ap, w1, decide_eq_true, Bool.and_true, Int.toNat_natCast, sA_swapped hp hn, hi, wLf, e, List.append_assoc, List.cons_append, List.nil_append]
theorem c_wordOf (n : Nat) (hn : n ≤ 8) (s : Pm n) : R ii_wordOf [tA8 (sA s), tI (n : Int)] = some [tLI (wL s)] := by
  apply vi_wordOf
  have hc := Pm.cnt_le s⁻¹
  have hm : n * n ≤ 8 * 8 := Nat.mul_le_mul hn hn
  have h := c_wordOf_2 n hn (n * n + 1) s (by omega) [] (by simp; omega)
  simp only [bi_wordOf, h, Option.bind_some, getTV_here, getTV_next, List.nil_append, wL]
theorem wLf_len {n : Nat} : ∀ (f : Nat) (s : Pm n), (wLf f s).length ≤ f
  | 0, s => by simp [wLf]
  | f + 1, s => by
    unfold wLf
    cases h : begL s n with
    | nil => simp
    | cons x m =>
      have := wLf_len f (swapN n (x.natAbs - 1) * s)
      simp only [List.length_cons]
      omega
theorem wL_len {n : Nat} (hn : n ≤ 8) (s : Pm n) : (wL s).length ≤ 65 := by
  have hm : n * n ≤ 8 * 8 := Nat.mul_le_mul hn hn
  have := wLf_len (n * n + 1) s
  unfold wL
  omega
theorem wLf_Lw {n : Nat} : ∀ (f : Nat) (s : Pm n), Lw n (wLf f s)
  | 0, s => fun x hx => by simp [wLf] at hx
  | f + 1, s => by
    unfold wLf
    cases h : begL s n with
    | nil => exact fun x hx => by simp at hx
    | cons x m =>
      obtain ⟨p, hp, hs, rfl⟩ := begL_first h
      intro y hy
      rcases List.mem_cons.1 hy with rfl | hy
      · omega
      · exact wLf_Lw f _ y hy
/-! ### words and products -/
noncomputable def gx (n : Nat) (x : Int) : Nm n := if 0 < x then sN (swapN n (x.natAbs - 1)) else isN (swapN n (x.natAbs - 1))
theorem stepN_gx {n : Nat} (h2 : 2 ≤ n) (v : Nm n) (x : Int) : stepN v x = prod v (gx n x) := by
  unfold stepN gx
  by_cases h : 0 < x
  · rw [if_pos h, if_pos h]
    have := prod_mk h2 v 0 [swapN n (x.natAbs - 1)]
    rw [sN, this, Int.add_zero]
    rfl
  · rw [if_neg h, if_neg h]
    exact stepI_eq h2 v _
theorem gx_P {n : Nat} (h2 : 2 ≤ n) (x : Int) : (Pm.lat n).Proper (gx n x).2 := by
  unfold gx
  split
  · exact (mk_spec h2 0 _).1
  · exact isN_P h2 _
theorem fold_gx {n : Nat} (h2 : 2 ≤ n) : ∀ (w : List Int) (v : Nm n), (Pm.lat n).Proper v.2 → w.foldl stepN v = prod v (nOf n w)
  | [], v, h => (prod_e h2 h).symm
  | x :: w, v, h => by
    show w.foldl stepN (stepN v x) = prod v (w.foldl stepN (stepN (0, []) x))
    rw [fold_gx h2 w _ (by rw [stepN_gx h2]; exact prod_P h2 _ _), fold_gx h2 w (stepN (0, []) x) (by rw [stepN_gx h2]; exact prod_P h2 _ _), stepN_gx h2 v, stepN_gx h2 (0, []), e_prod h2 (gx_P h2 x), prod_assoc h2]
theorem nOf_P {n : Nat} (h2 : 2 ≤ n) (w : List Int) : (Pm.lat n).Proper (nOf n w).2 := by
  have := foldN_ok h2 w (OkJ.zero n)
  exact this.P
theorem nOf_cons {n : Nat} (h2 : 2 ≤ n) (x : Int) (w : List Int) : nOf n (x :: w) = prod (gx n x) (nOf n w) := by
  show w.foldl stepN (stepN (0, []) x) = _
  rw [stepN_gx h2, e_prod h2 (gx_P h2 x), fold_gx h2 w _ (gx_P h2 x)]
theorem nOf_app {n : Nat} (h2 : 2 ≤ n) (u w : List Int) : nOf n (u ++ w) = prod (nOf n u) (nOf n w) := by
  show (u ++ w).foldl stepN (0, []) = _
  rw [List.foldl_append]
  exact fold_gx h2 w _ (nOf_P h2 u)
theorem mk_last_one {n : Nat} (h2 : 2 ≤ n) (p : Int) (X : List (Pm n)) : mk p (X ++ [1]) = mk p X := by
  rw [mk_app h2, mk_one h2 _ (mk_spec h2 p X).1]
theorem mk_nf {n : Nat} {X Y : List (Pm n)} (p : Int) (h : (Pm.lat n).nf X = (Pm.lat n).nf Y) : mk p X = mk p Y := by
  unfold mk
  rw [← Lat.norm_nf (Γ := Pm.lat n) (allS X), h, Lat.norm_nf (allS Y)]
theorem mk_join {n : Nat} (h2 : 2 ≤ n) (p : Int) {u s : Pm n} (h : Pm.le u s) : mk p [u, u⁻¹ * s] = mk p [s] := by
  have hm := Lat.nf_move (Γ := Pm.lat n) (p := []) (q := []) (x := u) (y := u⁻¹ * s) (c := u⁻¹ * s) trivial trivial trivial (Pm.p0 h) ((Pm.lat n).refl trivial) (allS _)
  rw [mul_inv_l, Grp.inv_mul] at hm
  simp only [List.nil_append] at hm
  rw [mk_nf p hm]
  exact mk_last_one h2 p [s]
theorem gx_pos {n p : Nat} (h : p + 1 < n) : gx n ((p + 1 : Nat) : Int) = sN (Pm.swap n p h) := by
  unfold gx
  rw [if_pos (by omega), show (((p + 1 : Nat) : Int)).natAbs - 1 = p by omega, swapN_eq h]
theorem sN_one {n : Nat} (h2 : 2 ≤ n) : sN (1 : Pm n) = eN n := by
  have := mk_last_one h2 (n := n) 0 []
  rw [List.nil_append] at this
  rw [sN, this, mk_nil]
theorem nOf_wLf {n : Nat} (h2 : 2 ≤ n) : ∀ (f : Nat) (s : Pm n), Pm.cnt s⁻¹ < f → nOf n (wLf f s) = sN s := by
  intro f
  induction f with
  | zero => intro s h; omega
  | succ f ih =>
    intro s hf
    unfold wLf
    cases h : begL s n with
    | nil =>
      rw [begL_nil h, sN_one h2]
      rfl
    | cons x m =>
      obtain ⟨p, hp, hs, rfl⟩ := begL_first h
      have e : swapN n ((((p + 1 : Nat) : Int)).natAbs - 1) = Pm.swap n p hp := by
        rw [show (((p + 1 : Nat) : Int)).natAbs - 1 = p by omega]; exact swapN_eq hp
      simp only [e]
      rw [nOf_cons h2, gx_pos hp, ih _ (by have := swap_cnt hp hs; omega), sN, sN, mk_mk h2]
      have := mk_join h2 0 (swap_le hp hs)
      rw [swap_inv] at this
      exact this
theorem nOf_wL {n : Nat} (h2 : 2 ≤ n) (s : Pm n) : nOf n (wL s) = sN s := nOf_wLf h2 _ s (by have := Pm.cnt_le s⁻¹; omega)
def invW (w : List Int) : List Int := w.reverse.map fun x => -x
theorem gx_inv {n : Nat} (h2 : 2 ≤ n) {x : Int} (hx : x ≠ 0) : prod (gx n x) (gx n (-x)) = eN n := by
  unfold gx
  rw [show (-x).natAbs = x.natAbs by omega]
  by_cases h : 0 < x
  · rw [if_pos h, if_neg (by omega)]
    exact s_is h2 _
  · rw [if_neg h, if_pos (by omega)]
    exact is_s h2 _
theorem nOf_inv {n : Nat} (h2 : 2 ≤ n) : ∀ (w : List Int), Lw n w → prod (nOf n w) (nOf n (invW w)) = eN n
  | [], _ => prod_e h2 (v := eN n) Lat.Proper.nil
  | x :: w, h => by
    have hx := h x List.mem_cons_self
    have ih := nOf_inv h2 w (fun y hy => h y (List.mem_cons_of_mem _ hy))
    have e : invW (x :: w) = invW w ++ [-x] := by simp [invW]
    have e1 : nOf n [-x] = gx n (-x) := by rw [nOf_cons h2]; exact prod_e h2 (gx_P h2 _)
    rw [e, nOf_app h2, nOf_cons h2, prod_assoc h2, ← prod_assoc h2 (nOf n w), ih, e_prod h2 (nOf_P h2 _), e1, gx_inv h2 hx.1]
def times (l : List Int) : Nat → List Int
  | 0 => []
  | k + 1 => l ++ times l k
theorem times_len (l : List Int) : ∀ k, (times l k).length = k * l.length
  | 0 => by simp [times]
  | k + 1 => by simp only [times, List.length_append, times_len l k, Nat.add_mul]; omega
/-- The word. -/
def wordN {n : Nat} (v : Nm n) : List Int := times (if v.1 < 0 then invW (wL (Pm.half n)) else wL (Pm.half n)) v.1.natAbs ++ v.2.flatMap wL
theorem D_times {n : Nat} (h2 : 2 ≤ n) (l : List Int) (q : Int) (h : nOf n l = (q, [])) : ∀ k : Nat, nOf n (times l k) = (k * q, [])
  | 0 => by simp [times, nOf]
  | k + 1 => by
    rw [times, nOf_app h2, h, D_times h2 l q h k]
    unfold prod
    simp only [tk_nil, List.nil_append, mk_nil]
    rw [show q + (k : Int) * q = ((k + 1 : Nat) : Int) * q by rw [Int.natCast_add, Int.add_mul]; omega]
theorem nOf_flat {n : Nat} (h2 : 2 ≤ n) : ∀ A : List (Pm n), nOf n (A.flatMap wL) = mk 0 A
  | [] => by rw [mk_nil]; rfl
  | a :: A => by
    rw [List.flatMap_cons, nOf_app h2, nOf_wL h2, nOf_flat h2 A, PA_cons h2]
theorem wL_half {n : Nat} (h2 : 2 ≤ n) : nOf n (wL (Pm.half n)) = (1, []) := by
  rw [nOf_wL h2, sN, mk_D h2, Int.zero_add]
theorem wL_Lw {n : Nat} (s : Pm n) : Lw n (wL s) := wLf_Lw _ s
theorem inv_half {n : Nat} (h2 : 2 ≤ n) : nOf n (invW (wL (Pm.half n))) = (-1, []) := by
  have h := nOf_inv h2 _ (wL_Lw (Pm.half n))
  rw [wL_half h2] at h
  have hd := D_D h2 (-1) 1 (by omega)
  have e := e_prod h2 (nOf_P h2 (invW (wL (Pm.half n))))
  rw [← hd, prod_assoc h2, h] at e
  rw [← e]
  exact prod_e h2 (v := ((-1, []) : Nm n)) Lat.Proper.nil
theorem nOf_wordN {n : Nat} (h1 : 1 ≤ n) {v : Nm n} {b : Nat} (hv : OkN v b) : nOf n (wordN v) = v := by
  by_cases h2 : 2 ≤ n
  · unfold wordN
    rw [nOf_app h2, nOf_flat h2]
    have e : nOf n (times (if v.1 < 0 then invW (wL (Pm.half n)) else wL (Pm.half n)) v.1.natAbs) = (v.1, []) := by
      by_cases h : v.1 < 0
      · rw [if_pos h, D_times h2 _ _ (inv_half h2), show ((v.1.natAbs : Nat) : Int) * (-1) = v.1 by omega]
      · rw [if_neg h, D_times h2 _ _ (wL_half h2), show ((v.1.natAbs : Nat) : Int) * 1 = v.1 by omega]
    rw [e]
    exact (v_eq h2 hv.P).symm
  · have := hv.one (by omega)
    subst this
    simp [wordN, times, nOf]
theorem Lw.app {n : Nat} {u w : List Int} (h : Lw n u) (h' : Lw n w) : Lw n (u ++ w) := fun x hx => by
  rcases List.mem_append.1 hx with q | q
  · exact h x q
  · exact h' x q
theorem Lw.inv {n : Nat} {w : List Int} (h : Lw n w) : Lw n (invW w) := fun x hx => by
  simp only [invW, List.mem_map, List.mem_reverse] at hx
  obtain ⟨y, hy, rfl⟩ := hx
  have := h y hy
  omega
theorem Lw.times {n : Nat} {w : List Int} (h : Lw n w) : ∀ k, Lw n (times w k)
  | 0 => fun x hx => by simp [Go.Ev.Ytpfpjhfimmmkmaa.times] at hx
  | k + 1 => h.app (Lw.times h k)
theorem wordN_Lw {n : Nat} (v : Nm n) : Lw n (wordN v) := by
  unfold wordN
  apply Lw.app
  · apply Lw.times
    split
    · exact (wL_Lw _).inv
    · exact wL_Lw _
  · intro x hx
    obtain ⟨s, _, hs⟩ := List.mem_flatMap.1 hx
    exact wL_Lw s x hs
end Go.Ev.Ytpfpjhfimmmkmaa
