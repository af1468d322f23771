/- The super summit walk: SummitOf, SummitLengths. -/
import Derived.Test.YtolpnaiincngjaaGreatMnA
set_option linter.unusedVariables false
set_option linter.unusedSimpArgs false
namespace Go.Ev.YtolpnaiincngjaaGreat
open Go.Ev Go.Gar
def srch {α : Type} (st : α → α) (good : α → Bool) : Nat → α → Option α
  | 0, _ => none
  | d + 1, c => if good (st c) then some (st c) else srch st good d (st c)
theorem srch_some {α : Type} {st : α → α} {good : α → Bool} {P : α → Prop} (hst : ∀ x, P x → P (st x)) : ∀ (d : Nat) (c u : α), P c → srch st good d c = some u → P u ∧ good u = true := by
  intro d
  induction d with
  | zero => intro c u _ h; simp [srch] at h
  | succ d ih =>
    intro c u hc h
    by_cases g : good (st c) = true
    · rw [srch, if_pos g] at h
      cases h
      exact ⟨hst c hc, g⟩
    · rw [srch, if_neg g] at h
      exact ih _ _ (hst c hc) h
def gA {n : Nat} (v w : Nm n) : Bool := decide (v.1 < w.1)
def gB' {n : Nat} (v w : Nm n) : Bool := decide (w.1 + (w.2.length : Int) < v.1 + (v.2.length : Int))
def mN (n : Nat) : Nat := n * (n - 1) / 2
theorem mN_eq {n : Nat} (hn1 : 1 ≤ n) (hn : n ≤ 8) : wi64 (Int.tdiv (wi64 ((n : Int) * (wi64 ((n : Int) - 1)))) 2) = ((mN n : Nat) : Int) := by
  have h : n = 1 ∨ n = 2 ∨ n = 3 ∨ n = 4 ∨ n = 5 ∨ n = 6 ∨ n = 7 ∨ n = 8 := by omega
  rcases h with rfl | rfl | rfl | rfl | rfl | rfl | rfl | rfl <;> decide
theorem mN_lt {n : Nat} (hn1 : 1 ≤ n) (hn : n ≤ 8) : mN n < 100 := by
  have h : n = 1 ∨ n = 2 ∨ n = 3 ∨ n = 4 ∨ n = 5 ∨ n = 6 ∨ n = 7 ∨ n = 8 := by omega
  rcases h with rfl | rfl | rfl | rfl | rfl | rfl | rfl | rfl <;> decide
noncomputable def fA {n : Nat} (v : Nm n) : Option (Nm n) := srch cyc (gA v) (mN n) v
noncomputable def fB {n : Nat} (v : Nm n) : Option (Nm n) := srch decyc (gB' v) (mN n) v
noncomputable def sumF {n : Nat} : Nat → Nm n → Nm n
  | 0, v => v
  | f + 1, v => match fA v with
    | some u => sumF f u
    | none => match fB v with
      | some u => sumF f u
      | none => v
noncomputable def sumN {n : Nat} (v : Nm n) : Nm n := sumF (v.2.length + 1) v
theorem fA_some {n : Nat} (hn1 : 1 ≤ n) {v v0 u : Nm n} (h : Rel v v0) (hu : fA v = some u) : Rel u v0 ∧ u.2.length < v.2.length := by
  have hv : Rel v v := ⟨h.P, Int.le_refl _, Int.le_refl _, h.one⟩
  have := srch_some (P := fun x => Rel x v) (fun x hx => cyc_rel hn1 hx) _ _ _ hv hu
  refine ⟨this.1.trans h, ?_⟩
  have h2 := this.2
  simp only [gA, decide_eq_true_eq] at h2
  have b2 := this.1.hi
  omega
theorem fB_some {n : Nat} (hn1 : 1 ≤ n) {v v0 u : Nm n} (h : Rel v v0) (hu : fB v = some u) : Rel u v0 ∧ u.2.length < v.2.length := by
  have hv : Rel v v := ⟨h.P, Int.le_refl _, Int.le_refl _, h.one⟩
  have := srch_some (P := fun x => Rel x v) (fun x hx => decyc_rel hn1 hx) _ _ _ hv hu
  refine ⟨this.1.trans h, ?_⟩
  have h2 := this.2
  simp only [gB', decide_eq_true_eq] at h2
  have b1 := this.1.lo
  omega
theorem sumF_rel {n : Nat} (hn1 : 1 ≤ n) (v0 : Nm n) : ∀ (f : Nat) (v : Nm n), Rel v v0 → Rel (sumF f v) v0 := by
  intro f
  induction f with
  | zero => intro v h; exact h
  | succ f ih =>
    intro v h
    rw [sumF]
    split
    · rename_i u hu
      exact ih u (fA_some hn1 h hu).1
    · split
      · rename_i u hu
        exact ih u (fB_some hn1 h hu).1
      · exact h
theorem Rel.ok5 {n : Nat} {w v : Nm n} {b : Nat} (h : Rel w v) (hv : OkN v b) (hb : b ≤ 50000) : OkN w 100000 := (h.ok hv).mono (by omega)
theorem c_l04Summit_4 (n : Nat) (hn1 : 1 ≤ n) (hn : n ≤ 8) (v0 : Nm n) (hv0 : OkN v0 50000) (v : Nm n) (x3 x4 : Int) (x5 : List (List Int)) (x9 : Int) : ∀ (d : Nat) (c : Nm n), d < 1000 → Rel c v0 →
    ∃ w : Nm n, R is_l04Summit_4 [tI (n : Int), tI v.1, tLA8 (sL v.2), tI x3, tI x4, tLA8 x5, tI (n : Int), tI c.1, tLA8 (sL c.2), tI x9, tB false, tI (d : Int)]
      = some [tI 0, tI (n : Int), tI v.1, tLA8 (sL v.2), tI x3, tI x4, tLA8 x5, tI (n : Int), tI w.1, tLA8 (sL w.2), tI x9, tB (srch cyc (gA v) d c).isSome] ∧ (∀ u, srch cyc (gA v) d c = some u → w = u) := by
  intro d
  induction d with
  | zero =>
    intro c _ hc
    refine ⟨c, ?_, fun u h => by simp [srch] at h⟩
    apply vs_l04Summit_4
    simp only [bs_l04Summit_4, srch]
    rfl
  | succ d ih =>
    intro c hd hc
    have h1 : ((0 : Int) < ((d + 1 : Nat) : Int)) := by omega
    have hcy := c_l04Cycle n hn1 hn c (hc.ok5 hv0 (by omega))
    have hd' : wi64 (((d + 1 : Nat) : Int) - 1) = (d : Int) := by rw [wrap_i64] <;> omega
    simp only [enc] at hcy
    by_cases g : gA v (cyc c) = true
    · refine ⟨cyc c, ?_, fun u h => by rw [srch, if_pos g] at h; exact Option.some.inj h⟩
      apply vs_l04Summit_4
      simp only [bs_l04Summit_4, decide_eq_true h1, cond_true, Bool.not_false, hcy, Option.bind_some, getTV_here, hd', srch, if_pos g]
      have g' : v.1 < (cyc c).1 := by simpa [gA] using g
      simp only [decide_eq_true g']
      apply vs_l04Summit_4
      simp only [bs_l04Summit_4, Bool.not_true, cond_false]
      by_cases hz : (0 : Int) < (d : Int) <;> simp [hz]
    · obtain ⟨w, e1, e2⟩ := ih (cyc c) (by omega) (cyc_rel hn1 hc)
      refine ⟨w, ?_, fun u h => by rw [srch, if_neg g] at h; exact e2 u h⟩
      apply vs_l04Summit_4
      have g' : ¬ v.1 < (cyc c).1 := by simpa [gA] using g
      simp only [bs_l04Summit_4, decide_eq_true h1, cond_true, Bool.not_false, hcy, Option.bind_some, getTV_here, hd', srch, if_neg g, decide_eq_false g', e1]
theorem c_l04Summit_4t (a b c : Int) (x2 x5 x8 : List (List Int)) (x0 x1 x3 x4 x6 x7 x9 x11 : Int) : R is_l04Summit_11 [tI x0, tI x1, tLA8 x2, tI x3, tI x4, tLA8 x5, tI x6, tI x7, tLA8 x8, tI x9, tB true, tI x11] = some [tI 0, tI x0, tI x1, tLA8 x2, tI x3, tI x4, tLA8 x5, tI x6, tI x7, tLA8 x8, tI x9, tB true] := by
  apply vs_l04Summit_11
  by_cases h : 0 < x11 <;> simp [bs_l04Summit_11, h]
theorem c_l04Summit_11 (n : Nat) (hn1 : 1 ≤ n) (hn : n ≤ 8) (v0 : Nm n) (hv0 : OkN v0 50000) (v : Nm n) (hv : Rel v v0) (x3 x4 : Int) (x5 : List (List Int)) (x9 : Int) : ∀ (d : Nat) (c : Nm n), d < 1000 → Rel c v0 →
    ∃ w : Nm n, R is_l04Summit_11 [tI (n : Int), tI v.1, tLA8 (sL v.2), tI x3, tI x4, tLA8 x5, tI (n : Int), tI c.1, tLA8 (sL c.2), tI x9, tB false, tI (d : Int)]
      = some [tI 0, tI (n : Int), tI v.1, tLA8 (sL v.2), tI x3, tI x4, tLA8 x5, tI (n : Int), tI w.1, tLA8 (sL w.2), tI x9, tB (srch decyc (gB' v) d c).isSome] ∧ (∀ u, srch decyc (gB' v) d c = some u → w = u) := by
  intro d
  have ov := hv.ok5 hv0 (by omega)
  have v1 := ov.lo
  have v2 := ov.hi
  have v3 := ov.len
  induction d with
  | zero =>
    intro c _ hc
    refine ⟨c, ?_, fun u h => by simp [srch] at h⟩
    apply vs_l04Summit_11
    simp only [bs_l04Summit_11, srch]
    rfl
  | succ d ih =>
    intro c hd hc
    have h1 : ((0 : Int) < ((d + 1 : Nat) : Int)) := by omega
    have hcy := c_l04Decycle n hn1 hn c (hc.ok5 hv0 (by omega))
    have hd' : wi64 (((d + 1 : Nat) : Int) - 1) = (d : Int) := by rw [wrap_i64] <;> omega
    have oc := (decyc_rel hn1 hc).ok5 hv0 (by omega)
    have c1 := oc.lo
    have c2 := oc.hi
    have c3 := oc.len
    have w1 : wi64 ((decyc c).1 + ((decyc c).2.length : Int)) = (decyc c).1 + ((decyc c).2.length : Int) := by rw [wrap_i64] <;> omega
    have w2 : wi64 (v.1 + (v.2.length : Int)) = v.1 + (v.2.length : Int) := by rw [wrap_i64] <;> omega
    simp only [enc] at hcy
    by_cases g : gB' v (decyc c) = true
    · refine ⟨decyc c, ?_, fun u h => by rw [srch, if_pos g] at h; exact Option.some.inj h⟩
      apply vs_l04Summit_11
      have g' : (decyc c).1 + ((decyc c).2.length : Int) < v.1 + (v.2.length : Int) := by simpa [gB'] using g
      simp only [bs_l04Summit_11, decide_eq_true h1, cond_true, Bool.not_false, hcy, Option.bind_some, getTV_here, hd', srch, if_pos g, sL_len, w1, w2, decide_eq_true g']
      apply vs_l04Summit_11
      simp only [bs_l04Summit_11, Bool.not_true, cond_false]
      by_cases hz : (0 : Int) < (d : Int) <;> simp [hz]
    · obtain ⟨w, e1, e2⟩ := ih (decyc c) (by omega) (decyc_rel hn1 hc)
      refine ⟨w, ?_, fun u h => by rw [srch, if_neg g] at h; exact e2 u h⟩
      apply vs_l04Summit_11
      have g' : ¬ (decyc c).1 + ((decyc c).2.length : Int) < v.1 + (v.2.length : Int) := by simpa [gB'] using g
      simp only [bs_l04Summit_11, decide_eq_true h1, cond_true, Bool.not_false, hcy, Option.bind_some, getTV_here, hd', srch, if_neg g, sL_len, w1, w2, decide_eq_false g', e1]
theorem c_l04Summit_2 (n : Nat) (hn1 : 1 ≤ n) (hn : n ≤ 8) (v0 : Nm n) (hv0 : OkN v0 50000) (x3 x4 : Int) (x5 : List (List Int)) : ∀ (f : Nat) (v : Nm n), v.2.length < f → Rel v v0 →
    ∃ y3 y4 : Int, ∃ y5 : List (List Int), R is_l04Summit_2 [tI (n : Int), tI v.1, tLA8 (sL v.2), tI x3, tI x4, tLA8 x5, tI (n : Int)]
      = some [tI 0, tI (n : Int), tI (sumF f v).1, tLA8 (sL (sumF f v).2)] := by
  intro f
  induction f with
  | zero => intro v h; omega
  | succ f ih =>
    intro v hf hv
    refine ⟨0, 0, [], ?_⟩
    have hm := mN_eq hn1 hn
    have hml := mN_lt hn1 hn
    obtain ⟨w, e1, e2⟩ := c_l04Summit_4 n hn1 hn v0 hv0 v x3 x4 x5 (n : Int) (mN n) v (by omega) hv
    apply vs_l04Summit_2
    simp only [bs_l04Summit_2, hm, e1, Option.bind_some, getTV_here, getTV_next]
    rw [sumF]
    cases hA : fA v with
    | some u =>
      have hA' : srch cyc (gA v) (mN n) v = some u := hA
      obtain rfl := e2 u hA'
      have hr := fA_some hn1 hv hA
      obtain ⟨_, _, _, e3⟩ := ih w (by omega) hr.1
      simp only [hA', Option.isSome_some, Bool.not_true, cond_false, hm, c_l04Summit_4t 0 0 0, Option.bind_some, getTV_here, getTV_next, e3]
    | none =>
      have hA' : srch cyc (gA v) (mN n) v = none := hA
      obtain ⟨z, e4, e5⟩ := c_l04Summit_11 n hn1 hn v0 hv0 v hv x3 x4 x5 (n : Int) (mN n) v (by omega) hv
      simp only [hA', Option.isSome_none, Bool.not_false, cond_true, hm, e4, Option.bind_some, getTV_here, getTV_next]
      cases hB : fB v with
      | some u =>
        have hB' : srch decyc (gB' v) (mN n) v = some u := hB
        obtain rfl := e5 u hB'
        have hr := fB_some hn1 hv hB
        obtain ⟨_, _, _, e3⟩ := ih z (by omega) hr.1
        simp only [hB', Option.isSome_some, Bool.not_true, cond_false, e3]
      | none =>
        have hB' : srch decyc (gB' v) (mN n) v = none := hB
        simp only [hB', Option.isSome_none, Bool.not_false, cond_true]
theorem c_l04Summit (n : Nat) (hn1 : 1 ≤ n) (hn : n ≤ 8) (v : Nm n) (hv : OkN v 50000) : R is_l04Summit [tPIPILA8 (enc v)] = some [tPIPILA8 (enc (sumN v))] := by
  obtain ⟨_, _, _, e⟩ := c_l04Summit_2 n hn1 hn v hv 0 0 [] (v.2.length + 1) v (by omega) (Rel.refl hv)
  apply vs_l04Summit
  simp only [enc] at e ⊢
  simp only [bs_l04Summit, e, Option.bind_some, getTV_here, getTV_next]
  rfl
theorem c_better_3 (n : Nat) (hn1 : 1 ≤ n) (hn : n ≤ 8) (v0 : Nm n) (hv0 : OkN v0 50000) (v : Nm n) (x3 x4 : Int) (x5 : List (List Int)) (m : Nat) (hm : m < 1000) : ∀ (d : Nat) (i : Nat) (c : Nm n), i + d = m → Rel c v0 →
    R ii_better_3 [tI (n : Int), tI v.1, tLA8 (sL v.2), tI x3, tI x4, tLA8 x5, tI (n : Int), tI c.1, tLA8 (sL c.2), tI (m : Int), tI (i : Int)]
      = some (match srch cyc (gA v) d c with
        | some u => [tI 1, tI (n : Int), tI u.1, tLA8 (sL u.2), tB true]
        | none => [tI 0, tI (n : Int), tI v.1, tLA8 (sL v.2), tI x3, tI x4, tLA8 x5]) := by
  intro d
  induction d with
  | zero =>
    intro i c hi hc
    apply vi_better_3
    have h1 : ¬ ((i : Int) < (m : Int)) := by omega
    simp only [bi_better_3, decide_eq_false h1, cond_false, srch]
  | succ d ih =>
    intro i c hi hc
    have h1 : ((i : Int) < (m : Int)) := by omega
    have hcy := c_cycled n hn1 hn c (hc.ok5 hv0 (by omega))
    have hi' : wi64 ((i : Int) + 1) = ((i + 1 : Nat) : Int) := by rw [wrap_i64] <;> omega
    have hk : R ii_summitK1 [tPIPILA8 ((n : Int), (cyc c).1, sL (cyc c).2), tPIPILA8 ((n : Int), v.1, sL v.2)] = some [tB (gA v (cyc c))] := by
      apply vi_summitK1
      simp only [bi_summitK1, gA]
    simp only [enc] at hcy
    apply vi_better_3
    by_cases g : gA v (cyc c) = true
    · simp only [bi_better_3, decide_eq_true h1, cond_true, hcy, Option.bind_some, getTV_here, hk, g, srch, if_true]
    · have g' : gA v (cyc c) = false := by simpa using g
      simp only [bi_better_3, decide_eq_true h1, cond_true, hcy, Option.bind_some, getTV_here, hk, g', srch, cond_false, hi', ih (i + 1) (cyc c) (by omega) (cyc_rel hn1 hc), if_false, Bool.false_eq_true]
theorem c_better (n : Nat) (hn1 : 1 ≤ n) (hn : n ≤ 8) (v0 : Nm n) (hv0 : OkN v0 50000) (v : Nm n) (hv : Rel v v0) : R ii_better [tPIPILA8 ((n : Int), v.1, sL v.2)] = some (match fA v with
        | some u => [tPIPILA8 ((n : Int), u.1, sL u.2), tB true]
        | none => [tPIPILA8 ((n : Int), v.1, sL v.2), tB false]) := by
  have e := c_better_3 n hn1 hn v0 hv0 v 0 0 [] (mN n) (by have := mN_lt hn1 hn; omega) (mN n) 0 v (by omega) hv
  apply vi_better
  simp only [Int.natCast_zero] at e
  simp only [bi_better, mN_eq hn1 hn, e]
  unfold fA
  cases srch cyc (gA v) (mN n) v with
  | some u => rfl
  | none => rfl
theorem c_greatest (n : Nat) (v : Nm n) (hv : OkN v 100000) : R ii_greatest [tPIPILA8 ((n : Int), v.1, sL v.2)] = some [tI (v.1 + (v.2.length : Int))] := by
  have v1 := hv.lo
  have v2 := hv.hi
  have v3 := hv.len
  apply vi_greatest
  have w2 : wi64 (v.1 + (v.2.length : Int)) = v.1 + (v.2.length : Int) := by rw [wrap_i64] <;> omega
  simp only [bi_greatest, sL_len, w2]
theorem c_better_v2_3 (n : Nat) (hn1 : 1 ≤ n) (hn : n ≤ 8) (v0 : Nm n) (hv0 : OkN v0 50000) (v : Nm n) (hv : Rel v v0) (x3 x4 : Int) (x5 : List (List Int)) (m : Nat) (hm : m < 1000) : ∀ (d : Nat) (i : Nat) (c : Nm n), i + d = m → Rel c v0 →
    R ii_better_v2_3 [tI (n : Int), tI v.1, tLA8 (sL v.2), tI x3, tI x4, tLA8 x5, tI (n : Int), tI c.1, tLA8 (sL c.2), tI (m : Int), tI (i : Int)]
      = some (match srch decyc (gB' v) d c with
        | some u => [tI 1, tI (n : Int), tI u.1, tLA8 (sL u.2), tB true]
        | none => [tI 0, tI (n : Int), tI v.1, tLA8 (sL v.2), tI x3, tI x4, tLA8 x5]) := by
  intro d
  induction d with
  | zero =>
    intro i c hi hc
    apply vi_better_v2_3
    have h1 : ¬ ((i : Int) < (m : Int)) := by omega
    simp only [bi_better_v2_3, decide_eq_false h1, cond_false, srch]
  | succ d ih =>
    intro i c hi hc
    have h1 : ((i : Int) < (m : Int)) := by omega
    have hcy := c_decycled n hn1 hn c (hc.ok5 hv0 (by omega))
    have hi' : wi64 ((i : Int) + 1) = ((i + 1 : Nat) : Int) := by rw [wrap_i64] <;> omega
    have hk : R ii_summitK2 [tPIPILA8 ((n : Int), (decyc c).1, sL (decyc c).2), tPIPILA8 ((n : Int), v.1, sL v.2)] = some [tB (gB' v (decyc c))] := by
      apply vi_summitK2
      simp only [bi_summitK2, gB', c_greatest n _ ((decyc_rel hn1 hc).ok5 hv0 (by omega)), c_greatest n _ (hv.ok5 hv0 (by omega)), Option.bind_some, getTV_here]
    simp only [enc] at hcy
    apply vi_better_v2_3
    by_cases g : gB' v (decyc c) = true
    · simp only [bi_better_v2_3, decide_eq_true h1, cond_true, hcy, Option.bind_some, getTV_here, hk, g, srch, if_true]
    · have g' : gB' v (decyc c) = false := by simpa using g
      simp only [bi_better_v2_3, decide_eq_true h1, cond_true, hcy, Option.bind_some, getTV_here, hk, g', srch, cond_false, hi', ih (i + 1) (decyc c) (by omega) (decyc_rel hn1 hc), if_false, Bool.false_eq_true]
theorem c_better_v2 (n : Nat) (hn1 : 1 ≤ n) (hn : n ≤ 8) (v0 : Nm n) (hv0 : OkN v0 50000) (v : Nm n) (hv : Rel v v0) : R ii_better_v2 [tPIPILA8 ((n : Int), v.1, sL v.2)] = some (match fB v with
        | some u => [tPIPILA8 ((n : Int), u.1, sL u.2), tB true]
        | none => [tPIPILA8 ((n : Int), v.1, sL v.2), tB false]) := by
  have e := c_better_v2_3 n hn1 hn v0 hv0 v hv 0 0 [] (mN n) (by have := mN_lt hn1 hn; omega) (mN n) 0 v (by omega) hv
  apply vi_better_v2
  simp only [Int.natCast_zero] at e
  simp only [bi_better_v2, mN_eq hn1 hn, e]
  unfold fB
  cases srch decyc (gB' v) (mN n) v with
  | some u => rfl
  | none => rfl
theorem c_summit_1 (n : Nat) (hn1 : 1 ≤ n) (hn : n ≤ 8) (v0 : Nm n) (hv0 : OkN v0 50000) (x3 x4 : Int) (x5 : List (List Int)) : ∀ (f : Nat) (v : Nm n), v.2.length < f → Rel v v0 →
    R ii_summit_1 [tI (n : Int), tI v.1, tLA8 (sL v.2), tI x3, tI x4, tLA8 x5] = some [tI 0, tI (n : Int), tI (sumF f v).1, tLA8 (sL (sumF f v).2)] := by
  intro f
  induction f with
  | zero => intro v h; omega
  | succ f ih =>
    intro v hf hv
    have ov := hv.ok5 hv0 (by omega)
    have v3 := ov.len
    have b1 := c_better n hn1 hn v0 hv0 v hv
    have b2 := c_better_v2 n hn1 hn v0 hv0 v hv
    have hc := c_copyNormal v (by omega)
    simp only [enc] at hc
    apply vi_summit_1
    rw [sumF]
    cases hA : fA v with
    | some u =>
      have hr := fA_some hn1 hv hA
      rw [hA] at b1
      simp only [bi_summit_1, b1, Option.bind_some, getTV_here, getTV_next, Bool.not_true, cond_false, ih u (by omega) hr.1]
    | none =>
      rw [hA] at b1
      cases hB : fB v with
      | some u =>
        have hr := fB_some hn1 hv hB
        rw [hB] at b2
        simp only [bi_summit_1, b1, b2, Option.bind_some, getTV_here, getTV_next, Bool.not_true, Bool.not_false, cond_true, cond_false, ih u (by omega) hr.1]
      | none =>
        rw [hB] at b2
        simp only [bi_summit_1, b1, b2, Option.bind_some, getTV_here, getTV_next, Bool.not_false, cond_true, hc]
theorem c_summit (n : Nat) (hn1 : 1 ≤ n) (hn : n ≤ 8) (v : Nm n) (hv : OkN v 50000) : R ii_summit [tPIPILA8 (enc v)] = some [tPIPILA8 (enc (sumN v))] := by
  have e := c_summit_1 n hn1 hn v hv 0 0 [] (v.2.length + 1) v (by omega) (Rel.refl hv)
  apply vi_summit
  simp only [enc] at e ⊢
  simp only [bi_summit, e, Option.bind_some, getTV_here, getTV_next]
  rfl
theorem sumN_rel {n : Nat} (hn1 : 1 ≤ n) {v : Nm n} {b : Nat} (hv : OkN v b) : Rel (sumN v) v := sumF_rel hn1 v _ v (Rel.refl hv)
theorem sumN_ok {n : Nat} (hn1 : 1 ≤ n) {v : Nm n} {b : Nat} (hv : OkN v b) : OkN (sumN v) (4 * b + 4) := ((sumN_rel hn1 hv).ok hv).mono (by omega)
end Go.Ev.YtolpnaiincngjaaGreat
