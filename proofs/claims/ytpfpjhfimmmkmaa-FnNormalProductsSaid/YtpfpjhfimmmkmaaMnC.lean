/- The super summit walk: SummitOf, SummitLengths. -/
import Derived.Test.YtpfpjhfimmmkmaaMnA
set_option linter.unusedVariables false
set_option linter.unusedSimpArgs false
namespace Go.Ev.Ytpfpjhfimmmkmaa
open Go.Ev Go.Gar
def srch {α : Type} (st : α → α) (good : α → Bool) : Nat → α → Option α
  | 0, _ => none
  | d + 1, c => if good (st c) then some (st c) else srch st good d (st c)
theorem srch_some {α : Type} {st : α → α} {good : α → Bool} {P : α → Prop} (hst : ∀ x, P x → P (st x)) : ∀ (d : Nat) (c u : α), P c → srch st good d c = some u → P u ∧ good u = true := by
  intro d
  induction d with
  | zero => intro c u _ h; simp [srch] at h
  | succ d ih =>
    intro c u hc h
    by_cases g : good (st c) = true
    · rw [srch, if_pos g] at h
      cases h
      exact ⟨hst c hc, g⟩
    · rw [srch, if_neg g] at h
      exact ih _ _ (hst c hc) h
def gA {n : Nat} (v w : Nm n) : Bool := decide (v.1 < w.1)
def gB' {n : Nat} (v w : Nm n) : Bool := decide (w.1 + (w.2.length : Int) < v.1 + (v.2.length : Int))
def mN (n : Nat) : Nat := n * (n - 1) / 2
theorem mN_eq {n : Nat} (hn1 : 1 ≤ n) (hn : n ≤ 8) : wi64 (Int.tdiv (wi64 ((n : Int) * (wi64 ((n : Int) - 1)))) 2) = ((mN n : Nat) : Int) := by
  have h : n = 1 ∨ n = 2 ∨ n = 3 ∨ n = 4 ∨ n = 5 ∨ n = 6 ∨ n = 7 ∨ n = 8 := by omega
  rcases h with rfl | rfl | rfl | rfl | rfl | rfl | rfl | rfl <;> decide
theorem mN_lt {n : Nat} (hn1 : 1 ≤ n) (hn : n ≤ 8) : mN n < 100 := by
  have h : n = 1 ∨ n = 2 ∨ n = 3 ∨ n = 4 ∨ n = 5 ∨ n = 6 ∨ n = 7 ∨ n = 8 := by omega
  rcases h with rfl | rfl | rfl | rfl | rfl | rfl | rfl | rfl <;> decide
noncomputable def fA {n : Nat} (v : Nm n) : Option (Nm n) := srch cyc (gA v) (mN n) v
noncomputable def fB {n : Nat} (v : Nm n) : Option (Nm n) := srch decyc (gB' v) (mN n) v
noncomputable def sumF {n : Nat} : Nat → Nm n → Nm n
  | 0, v => v
  | f + 1, v => match fA v with
    | some u => sumF f u
    | none => match fB v with
      | some u => sumF f u
      | none => v
noncomputable def sumN {n : Nat} (v : Nm n) : Nm n := sumF (v.2.length + 1) v
theorem fA_some {n : Nat} (hn1 : 1 ≤ n) {v v0 u : Nm n} (h : Rel v v0) (hu : fA v = some u) : Rel u v0 ∧ u.2.length < v.2.length := by
  have hv : Rel v v := ⟨h.P, Int.le_refl _, Int.le_refl _, h.one⟩
  have := srch_some (P := fun x => Rel x v) (fun x hx => cyc_rel hn1 hx) _ _ _ hv hu
  refine ⟨this.1.trans h, ?_⟩
  have h2 := this.2
  simp only [gA, decide_eq_true_eq] at h2
  have b2 := this.1.hi
  omega
theorem fB_some {n : Nat} (hn1 : 1 ≤ n) {v v0 u : Nm n} (h : Rel v v0) (hu : fB v = some u) : Rel u v0 ∧ u.2.length < v.2.length := by
  have hv : Rel v v := ⟨h.P, Int.le_refl _, Int.le_refl _, h.one⟩
  have := srch_some (P := fun x => Rel x v) (fun x hx => decyc_rel hn1 hx) _ _ _ hv hu
  refine ⟨this.1.trans h, ?_⟩
  have h2 := this.2
  simp only [gB', decide_eq_true_eq] at h2
  have b1 := this.1.lo
  omega
theorem sumF_rel {n : Nat} (hn1 : 1 ≤ n) (v0 : Nm n) : ∀ (f : Nat) (v : Nm n), Rel v v0 → Rel (sumF f v) v0 := by
  intro f
  induction f with
  | zero => intro v h; exact h
  | succ f ih =>
    intro v h
    rw [sumF]
    split
    · rename_i u hu
      exact ih u (fA_some hn1 h hu).1
    · split
      · rename_i u hu
        exact ih u (fB_some hn1 h hu).1
      · exact h
theorem Rel.ok5 {n : Nat} {w v : Nm n} {b : Nat} (h : Rel w v) (hv : OkN v b) (hb : b ≤ 50000) : OkN w 100000 := (h.ok hv).mono (by omega)
/-! ### the spec's two loops -/
/-! ### the program's -/
theorem sumN_rel {n : Nat} (hn1 : 1 ≤ n) {v : Nm n} {b : Nat} (hv : OkN v b) : Rel (sumN v) v := sumF_rel hn1 v _ v (Rel.refl hv)
theorem sumN_ok {n : Nat} (hn1 : 1 ≤ n) {v : Nm n} {b : Nat} (hv : OkN v b) : OkN (sumN v) (4 * b + 4) := ((sumN_rel hn1 hv).ok hv).mono (by omega)
end Go.Ev.Ytpfpjhfimmmkmaa
