/- Texts merged: Mn1 Mn2 Mn3 Mn4 Mn5 Ms1. -/
import Derived.Test.YtmdkgikjnaijeaaGreatWa
set_option linter.unusedVariables false
set_option linter.unusedSimpArgs false
namespace Go.Ev.YtmdkgikjnaijeaaGreat
open Go.Ev Go.Gar
theorem jL {i : Nat} (h : i < 1000) : wi64 ((i : Int) + 1) = ((i + 1 : Nat) : Int) := by rw [zF] <;> omega
theorem zQn {i : Nat} (h : i < 256) : wu8 (i : Int) = (i : Int) := zIO (by omega) (by omega)
theorem zRD (n : Nat) : (sA (1 : Pm n)) = A8 n fun x => x := rfl
theorem zON (n : Nat) (hn : n ≤ 8) (z : List Int) : ∀ i, i ≤ n → R zCo [tA8 z, tA8 (A8 n fun x => if x < i then x else 0), tI (n : Int), tI (i : Int)] = some [tI 0, tA8 z, tA8 (sA (1 : Pm n))] := by
 refine zm _ ?_ (fun i hi ih => ?_)
 · apply zHh; rw [zRD, zl (g := fun x => x) (fun x hx => by simp [hx])]; simp [zCz]
 · apply zHh; simp (disch := omega) only [zCz, decide_eq_true, cond_true, Bool.and_true, Int.toNat_natCast, jL, zQn, zC1]; rw [zl (g := fun x => if x < i + 1 then x else 0) (fun x hx => by split <;> split <;> (try split) <;> omega)]; exact ih
theorem jp (n : Nat) (hn : n ≤ 8) : R ja [tI (n : Int)] = some [tA8 (sA (1 : Pm n))] := by
 apply zPt; have h := zON n hn (List.replicate 8 0) 0 (Nat.zero_le _); rw [zl (g := fun _ => 0) (fun x hx => by simp), ← zEq] at h; simp only [Int.natCast_zero] at h; simp only [zHW, h, Option.bind_some, getTV_here, getTV_next]
theorem zOT (n : Nat) (hn : n ≤ 8) (z : List Int) : ∀ i, i ≤ n → R zCl [tA8 z, tA8 (A8 n fun x => if x < i then x else 0), tI (n : Int), tI (i : Int)] = some [tI 0, tA8 z, tA8 (sA (1 : Pm n))] := by
 refine zm _ ?_ (fun i hi ih => ?_)
 · apply zHe; rw [zRD, zl (g := fun x => x) (fun x hx => by simp [hx])]; simp [zCw]
 · apply zHe; simp (disch := omega) only [zCw, decide_eq_true, cond_true, Bool.and_true, Int.toNat_natCast, jL, zQn, zC1]; rw [zl (g := fun x => if x < i + 1 then x else 0) (fun x hx => by split <;> split <;> (try split) <;> omega)]; exact ih
theorem jR (n : Nat) (hn : n ≤ 8) : R jY [tI (n : Int)] = some [tA8 (sA (1 : Pm n))] := by
 apply zPo; have h := zOT n hn (List.replicate 8 0) 0 (Nat.zero_le _); rw [zl (g := fun _ => 0) (fun x hx => by simp), ← zEq] at h; simp only [Int.natCast_zero] at h; simp only [zHR, h, Option.bind_some, getTV_here, getTV_next]
theorem zM4 (n : Nat) (hn : n ≤ 8) (z : List Int) : ∀ i, i ≤ n → R zBr [tA8 z, tA8 (A8 n fun x => if x < i then n - 1 - x else 0), tI (n : Int), tI (n : Int), tI (i : Int)] = some [tI 0, tA8 z, tA8 (sA (Pm.half n))] := by
 refine zm _ ?_ (fun i hi ih => ?_)
 · apply zGD; rw [show sA (Pm.half n) = A8 n (Pm.hf n) from rfl, zl (g := Pm.hf n) (fun x hx => by simp [hx, Pm.hf])]; simp [zBx]
 · apply zGD; have e : wu8 (wi64 (wi64 ((n : Int) - 1) - (i : Int))) = ((n - 1 - i : Nat) : Int) := by
    rw [zF (x := (n : Int) - 1) (by omega) (by omega), zF (by omega) (by omega), zIO (by omega) (by omega)]; omega
   simp (disch := omega) only [zBx, decide_eq_true, cond_true, Bool.and_true, Int.toNat_natCast, jL, e, zC1]; rw [zl (g := fun x => if x < i + 1 then n - 1 - x else 0) (fun x hx => by split <;> split <;> (try split) <;> omega)]; exact ih
theorem zDY (n : Nat) (hn : n ≤ 8) : R jP [tI (n : Int)] = some [tA8 (sA (Pm.half n))] := by
 apply zNX; have h := zM4 n hn (List.replicate 8 0) 0 (Nat.zero_le _); rw [zl (g := fun _ => 0) (fun x hx => by simp), ← zEq] at h; simp only [Int.natCast_zero] at h; simp only [zF5, h, Option.bind_some, getTV_here, getTV_next]
theorem zOV (n : Nat) (hn : n ≤ 8) (z : List Int) : ∀ i, i ≤ n → R zCm [tA8 z, tA8 (A8 n fun x => if x < i then n - 1 - x else 0), tI (n : Int), tI (i : Int)] = some [tI 0, tA8 z, tA8 (sA (Pm.half n))] := by
 refine zm _ ?_ (fun i hi ih => ?_)
 · apply zHf; rw [show sA (Pm.half n) = A8 n (Pm.hf n) from rfl, zl (g := Pm.hf n) (fun x hx => by simp [hx, Pm.hf])]; simp [zCx]
 · apply zHf; have e : wu8 (wi64 (wi64 ((n : Int) - 1) - (i : Int))) = ((n - 1 - i : Nat) : Int) := by
    rw [zF (x := (n : Int) - 1) (by omega) (by omega), zF (by omega) (by omega), zIO (by omega) (by omega)]; omega
   simp (disch := omega) only [zCx, decide_eq_true, cond_true, Bool.and_true, Int.toNat_natCast, jL, e, zC1]; rw [zl (g := fun x => if x < i + 1 then n - 1 - x else 0) (fun x hx => by split <;> split <;> (try split) <;> omega)]; exact ih
theorem zEc (n : Nat) (hn : n ≤ 8) : R zAp [tI (n : Int)] = some [tA8 (sA (Pm.half n))] := by
 apply zPr; have h := zOV n hn (List.replicate 8 0) 0 (Nat.zero_le _); rw [zl (g := fun _ => 0) (fun x hx => by simp), ← zEq] at h; simp only [Int.natCast_zero] at h; simp only [zHU, h, Option.bind_some, getTV_here, getTV_next]
theorem zS4 (n : Nat) (hn : n ≤ 8) (s t : Pm n) (z : List Int) : ∀ i, i ≤ n → R zGg [tA8 (sA s), tA8 (sA t), tA8 z, tA8 (A8 n fun x => if x < i then t.f (s.f x) else 0), tI (n : Int), tI (i : Int)] = some [tI 0, tA8 z, tA8 (sA (s * t))] := by
 refine zm _ ?_ (fun i hi ih => ?_)
 · apply zL0; rw [show sA (s * t) = A8 n (fun x => t.f (s.f x)) from rfl, zl (g := fun x => t.f (s.f x)) (fun x hx => by simp [hx])]; simp [zGx]
 · apply zL0; have h1 := s.lt hi; simp (disch := omega) only [zGx, decide_eq_true, cond_true, Bool.and_true, Int.toNat_natCast, jL, jA, zC1]; rw [zl (g := fun x => if x < i + 1 then t.f (s.f x) else 0) (fun x hx => by
    by_cases h2 : x = i
    · subst h2; simp
    · by_cases h3 : x < i
      · have : x < i + 1 := by omega
        simp [h2, h3, this]
      · have : ¬ x < i + 1 := by omega
        simp [h2, h3, this])]
   exact ih
theorem zKY (n : Nat) (hn : n ≤ 8) (s t : Pm n) : R zDl [tA8 (sA s), tA8 (sA t), tI (n : Int)] = some [tA8 (sA (s * t))] := by
 apply zTk; have h := zS4 n hn s t (List.replicate 8 0) 0 (Nat.zero_le _); rw [zl (g := fun _ => 0) (fun x hx => by simp), ← zEq] at h; simp only [Int.natCast_zero] at h; simp only [zOj, h, Option.bind_some, getTV_here, getTV_next]
theorem zOS (n : Nat) (hn : n ≤ 8) (s t : Pm n) (z : List Int) : ∀ i, i ≤ n → R zCk [tA8 (sA s), tA8 (sA t), tA8 z, tA8 (A8 n fun x => if x < i then t.f (s.f x) else 0), tI (n : Int), tI (i : Int)] = some [tI 0, tA8 z, tA8 (sA (s * t))] := by
 refine zm _ ?_ (fun i hi ih => ?_)
 · apply zHd; rw [show sA (s * t) = A8 n (fun x => t.f (s.f x)) from rfl, zl (g := fun x => t.f (s.f x)) (fun x hx => by simp [hx])]; simp [zCv]
 · apply zHd; have h1 := s.lt hi; simp (disch := omega) only [zCv, decide_eq_true, cond_true, Bool.and_true, Int.toNat_natCast, jL, jA, zC1]; rw [zl (g := fun x => if x < i + 1 then t.f (s.f x) else 0) (fun x hx => by
    by_cases h2 : x = i
    · subst h2; simp
    · by_cases h3 : x < i
      · have : x < i + 1 := by omega
        simp [h2, h3, this]
      · have : ¬ x < i + 1 := by omega
        simp [h2, h3, this])]
   exact ih
theorem zEb (n : Nat) (hn : n ≤ 8) (s t : Pm n) : R ki [tA8 (sA s), tA8 (sA t), tI (n : Int)] = some [tA8 (sA (s * t))] := by
 apply zPn; have h := zOS n hn s t (List.replicate 8 0) 0 (Nat.zero_le _); rw [zl (g := fun _ => 0) (fun x hx => by simp), ← zEq] at h; simp only [Int.natCast_zero] at h; simp only [zHQ, h, Option.bind_some, getTV_here, getTV_next]
theorem zQh (n : Nat) (hn : n ≤ 8) (s : Pm n) (z : List Int) : ∀ i, i ≤ n → R zDq [tA8 (sA s), tA8 z, tA8 (A8 n fun y => if s.g y < i then s.g y else 0), tI (n : Int), tI (i : Int)] = some [tI 0, tA8 z, tA8 (sA s⁻¹)] := by
 refine zm _ ?_ (fun i hi ih => ?_)
 · apply zIT; rw [show sA s⁻¹ = A8 n s.g from rfl, zl (g := s.g) (fun x hx => by simp [s.lt_g hx])]; simp [zDy]
 · apply zIT; have h1 := s.lt hi; simp (disch := omega) only [zDy, decide_eq_true, cond_true, Bool.and_true, Int.toNat_natCast, jL, zQn, jA, zC1]; rw [zl (g := fun y => if s.g y < i + 1 then s.g y else 0) (fun y hy => by
    by_cases h2 : y = s.f i
    · subst h2; simp [s.gf]
    · have h4 : s.g y ≠ i := fun h => h2 (by rw [← h, s.fg])
      by_cases h3 : s.g y < i
      · have : s.g y < i + 1 := by omega
        simp [h2, h3, this]
      · have : ¬ s.g y < i + 1 := by omega
        simp [h2, h3, this])]
   exact ih
theorem zGv (n : Nat) (hn : n ≤ 8) (s : Pm n) : R zCT [tA8 (sA s), tI (n : Int)] = some [tA8 (sA s⁻¹)] := by
 apply zQw; have h := zQh n hn s (List.replicate 8 0) 0 (Nat.zero_le _); rw [zl (g := fun _ => 0) (fun x hx => by simp), ← zEq] at h; simp only [Int.natCast_zero] at h; simp only [zJW, h, Option.bind_some, getTV_here, getTV_next]
theorem zOW (n : Nat) (hn : n ≤ 8) (s : Pm n) (z : List Int) : ∀ i, i ≤ n → R zCn [tA8 (sA s), tA8 z, tA8 (A8 n fun y => if s.g y < i then s.g y else 0), tI (n : Int), tI (i : Int)] = some [tI 0, tA8 z, tA8 (sA s⁻¹)] := by
 refine zm _ ?_ (fun i hi ih => ?_)
 · apply zHg; rw [show sA s⁻¹ = A8 n s.g from rfl, zl (g := s.g) (fun x hx => by simp [s.lt_g hx])]; simp [zCy]
 · apply zHg; have h1 := s.lt hi; simp (disch := omega) only [zCy, decide_eq_true, cond_true, Bool.and_true, Int.toNat_natCast, jL, zQn, jA, zC1]; rw [zl (g := fun y => if s.g y < i + 1 then s.g y else 0) (fun y hy => by
    by_cases h2 : y = s.f i
    · subst h2; simp [s.gf]
    · have h4 : s.g y ≠ i := fun h => h2 (by rw [← h, s.fg])
      by_cases h3 : s.g y < i
      · have : s.g y < i + 1 := by omega
        simp [h2, h3, this]
      · have : ¬ s.g y < i + 1 := by omega
        simp [h2, h3, this])]
   exact ih
theorem zGu (n : Nat) (hn : n ≤ 8) (s : Pm n) : R zCB [tA8 (sA s), tI (n : Int)] = some [tA8 (sA s⁻¹)] := by
 apply zPs; have h := zOW n hn s (List.replicate 8 0) 0 (Nat.zero_le _); rw [zl (g := fun _ => 0) (fun x hx => by simp), ← zEq] at h; simp only [Int.natCast_zero] at h; simp only [zHV, h, Option.bind_some, getTV_here, getTV_next]
theorem zEd (n : Nat) (hn : n ≤ 8) (s : Pm n) : R zBe [tA8 (sA s), tI (n : Int)] = some [tA8 (sA (s⁻¹ * Pm.half n))] := by
 apply zH4; simp only [zBi, zGu n hn, zEc n hn, zEb n hn, Option.bind_some, getTV_here]
theorem zH0 (n : Nat) (hn : n ≤ 8) (s : Pm n) : R zDo [tA8 (sA s), tI (n : Int)] = some [tA8 (sA (s⁻¹ * Pm.half n))] := by
 apply zKm; simp only [zDx, zGv n hn, zDY n hn, zKY n hn, Option.bind_some, getTV_here]
theorem zRy (n : Nat) (hn : n ≤ 8) (s : Pm n) : R zEt [tA8 (sA s), tI (n : Int)] = some [tA8 (sA (Pm.half n * s⁻¹))] := by
 apply zPq; simp only [zHT, zGu n hn, zEc n hn, zEb n hn, Option.bind_some, getTV_here]
theorem zEA (n : Nat) (hn : n ≤ 8) (s : Pm n) : R zAq [tA8 (sA s), tI (n : Int)] = some [tA8 (sA (Pm.half n * s⁻¹))] := by
 apply zG3; simp only [zAu, zGv n hn, zDY n hn, zKY n hn, Option.bind_some, getTV_here]
def trn {n : Nat} (s : Pm n) : Pm n := Pm.half n * s * Pm.half n
theorem zJH (n : Nat) (hn : n ≤ 8) (s : Pm n) : R zCA [tA8 (sA s), tI (n : Int)] = some [tA8 (sA (trn s))] := by
 apply zPm; simp only [zHP, zEc n hn, zEb n hn, Option.bind_some, getTV_here, trn]
theorem zTa (n : Nat) (hn : n ≤ 8) (s : Pm n) : R zLC [tA8 (sA s), tI (n : Int)] = some [tA8 (sA (trn s))] := by
 apply zTj; simp only [zOi, zDY n hn, zKY n hn, Option.bind_some, getTV_here, trn]
theorem zRC {n p : Nat} (h : p + 1 < n) (hn : n ≤ 8) : List.set (List.set (sA (1 : Pm n)) p ((p + 1 : Nat) : Int)) (p + 1) (p : Int) = sA (Pm.swap n p h) := by
 rw [zRD, zC1 (by omega) hn, zC1 h hn]; apply zl; intro x hx; show _ = Pm.sf p x; unfold Pm.sf
 by_cases h1 : x = p + 1
 · subst h1; simp
 · simp [h1]
theorem zLW (n p : Nat) (h : p + 1 < n) (hn : n ≤ 8) : R zC9 [tI (n : Int), tI ((p + 1 : Nat) : Int)] = some [tA8 (sA (Pm.swap n p h))] := by
 apply zJg; have e1 : wi64 (((p + 1 : Nat) : Int) - 1) = (p : Int) := by rw [zF] <;> omega
 simp (disch := omega) only [zDK, jR n hn, Option.bind_some, getTV_here, e1, decide_eq_true, cond_true, Bool.and_true, Int.toNat_natCast, zQn, zRC h hn]
theorem zKc (n p : Nat) (h : p + 1 < n) (hn : n ≤ 8) : R zFn [tI ((p + 1 : Nat) : Int), tI (n : Int)] = some [tA8 (sA (Pm.swap n p h))] := by
 apply zNZ; have e1 : wi64 (((p + 1 : Nat) : Int) - 1) = (p : Int) := by rw [zF] <;> omega
 simp (disch := omega) only [zF7, jp n hn, Option.bind_some, getTV_here, e1, decide_eq_true, cond_true, Bool.and_true, Int.toNat_natCast, jA, Pm.one_f, zRC h hn]
end Go.Ev.YtmdkgikjnaijeaaGreat
namespace Go.Ev.YtmdkgikjnaijeaaGreat
open Go.Ev Go.Gar
theorem zLr {p : Nat} (h : p < 1000) : wi64 (((p + 1 : Nat) : Int) - 1) = (p : Int) := by rw [zF] <;> omega
theorem zOU (n : Nat) (hn : n ≤ 8) (a b : Pm n) (z : List Int) : ∀ (k d : Nat) (c : Pm n) (p : Nat), n * n ≤ c.cnt + k → p + d = n → c.le a → c.le b →
  (∀ q, q < p → q + 1 < n → c.g q < c.g (q + 1) → ¬ (a.f (c.g (q + 1)) < a.f (c.g q) ∧ b.f (c.g (q + 1)) < b.f (c.g q))) →
  R zAP [tA8 (sA (c⁻¹ * a)), tA8 (sA (c⁻¹ * b)), tA8 z, tA8 (sA c), tI (n : Int), tI ((p + 1 : Nat) : Int)] = some [tI 0, tA8 z, tA8 (sA (Pm.meet a b))] := by
 intro k
 induction k with
 | zero =>
  intro d
  induction d with
  | zero =>
   intro c p hk hp ha hb hs; have e := Pm.Greedy.eq ⟨ha, hb, fun q h1 h2 => hs q (by omega) h1 h2⟩; apply zAN; have h1 : ¬ (((p + 1 : Nat) : Int) < (n : Int)) := by omega
   simp only [kp, decide_eq_false h1, cond_false, e]
  | succ d ih =>
   intro c p hk hp ha hb hs; have stop : ∀ q, q + 1 < n → c.g q < c.g (q + 1) → ¬ (a.f (c.g (q + 1)) < a.f (c.g q) ∧ b.f (c.g (q + 1)) < b.f (c.g q)) := by
    intro q hq h1 h2; have := Pm.cnt_put1 (h := hq) h1; have := Pm.cnt_le (Pm.put1 c q hq); omega
   have e := Pm.Greedy.eq ⟨ha, hb, stop⟩
   by_cases h0 : p + 1 < n
   · have ih' := ih c (p + 1) hk (by omega) ha hb (fun q _ h1 h2 => stop q h1 h2); apply zAN; have e1 := zLr (p := p) (by omega); have ga := jA (s := c⁻¹ * a) (x := p) (by omega) hn; have ga1 := jA (s := c⁻¹ * a) (x := p + 1) h0 hn; have gb := jA (s := c⁻¹ * b) (x := p) (by omega) hn; have gb1 := jA (s := c⁻¹ * b) (x := p + 1) h0 hn; simp only [Pm.mul_f, Pm.inv_f] at ga ga1 gb gb1; simp (disch := omega) only [kp, e1, decide_eq_true, cond_true, Bool.and_true, Int.toNat_natCast, ga, ga1, gb, gb1, jL, ih']
     by_cases h1 : a.f (c.g (p + 1)) < a.f (c.g p)
     · by_cases h2 : b.f (c.g (p + 1)) < b.f (c.g p)
       · exfalso
         rcases Nat.lt_trichotomy (c.g p) (c.g (p + 1)) with h3 | h3 | h3
         · exact stop p h0 h3 ⟨h1, h2⟩
         · have := c.inj_g h3; omega
         · have := ha _ _ h3 (by rw [c.fg, c.fg]; omega); omega
       · simp [h2]
     · simp [h1]
   · apply zAN; have h1 : ¬ (((p + 1 : Nat) : Int) < (n : Int)) := by omega
     simp only [kp, decide_eq_false h1, cond_false, e]
 | succ k ihk =>
  intro d
  induction d with
  | zero =>
   intro c p hk hp ha hb hs; have e := Pm.Greedy.eq ⟨ha, hb, fun q h1 h2 => hs q (by omega) h1 h2⟩; apply zAN; have h1 : ¬ (((p + 1 : Nat) : Int) < (n : Int)) := by omega
   simp only [kp, decide_eq_false h1, cond_false, e]
  | succ d ih =>
   intro c p hk hp ha hb hs
   by_cases h0 : p + 1 < n
   · apply zAN; have e1 := zLr (p := p) (by omega); have ga := jA (s := c⁻¹ * a) (x := p) (by omega) hn; have ga1 := jA (s := c⁻¹ * a) (x := p + 1) h0 hn; have gb := jA (s := c⁻¹ * b) (x := p) (by omega) hn; have gb1 := jA (s := c⁻¹ * b) (x := p + 1) h0 hn; simp only [Pm.mul_f, Pm.inv_f] at ga ga1 gb gb1; simp (disch := omega) only [kp, e1, decide_eq_true, cond_true, Bool.and_true, Int.toNat_natCast, ga, ga1, gb, gb1, jL]
     by_cases hc : a.f (c.g (p + 1)) < a.f (c.g p) ∧ b.f (c.g (p + 1)) < b.f (c.g p)
     · have h3 : c.g p < c.g (p + 1) := by
        rcases Nat.lt_trichotomy (c.g p) (c.g (p + 1)) with h3 | h3 | h3
        · exact h3
        · have := c.inj_g h3; omega
        · have := ha _ _ h3 (by rw [c.fg, c.fg]; omega); omega
       have := Pm.cnt_put1 (h := h0) h3; have e2 : ∀ x : Pm n, Pm.swap n p h0 * (c⁻¹ * x) = (Pm.put1 c p h0)⁻¹ * x := by
        intro x; apply Pm.ext; intro y
        rfl
       have ih' := ihk n (Pm.put1 c p h0) 0 (by omega) (by omega) (Pm.put1_le h3 ha hc.1) (Pm.put1_le h3 hb hc.2) (fun q h => by omega); have e3 : sA (Pm.put1 c p h0) = sA (c * Pm.swap n p h0) := rfl; rw [e3] at ih'; have d1 : ((a.f (c.g (p + 1)) : Int) < (a.f (c.g p) : Int)) := by omega
       have d2 : ((b.f (c.g (p + 1)) : Int) < (b.f (c.g p) : Int)) := by omega
       simp only [decide_eq_true d1, decide_eq_true d2, cond_true, zLW n p h0 hn, zEb n hn, Option.bind_some, getTV_here, e2]; exact ih'
     · have ih' := ih c (p + 1) hk (by omega) ha hb (fun q h1 h2 h3 => by
        rcases Nat.lt_or_ge q p with h4 | h4
        · exact hs q h4 h2 h3
        · have : q = p := by omega
          subst this; exact hc)
       by_cases h1 : a.f (c.g (p + 1)) < a.f (c.g p)
       · have d1 : ((a.f (c.g (p + 1)) : Int) < (a.f (c.g p) : Int)) := by omega
         have d2 : ¬ ((b.f (c.g (p + 1)) : Int) < (b.f (c.g p) : Int)) := by omega
         rw [decide_eq_true d1, decide_eq_false d2, cond_true, cond_false]; exact ih'
       · have d1 : ¬ ((a.f (c.g (p + 1)) : Int) < (a.f (c.g p) : Int)) := by omega
         rw [decide_eq_false d1, cond_false]; exact ih'
   · have e := Pm.Greedy.eq ⟨ha, hb, fun q h1 h2 => hs q (by omega) h1 h2⟩; apply zAN; have h1 : ¬ (((p + 1 : Nat) : Int) < (n : Int)) := by omega
     simp only [kp, decide_eq_false h1, cond_false, e]
theorem zM2 (n : Nat) (hn : n ≤ 8) (a b : Pm n) : R zHH [tA8 (sA a), tA8 (sA b), tI (n : Int)] = some [tA8 (sA (Pm.meet a b))] := by
 apply zPp; have h := zOU n hn a b (List.replicate 8 0) (n * n) n 1 0 (by omega) (by omega) (Pm.one_le a) (Pm.one_le b) (fun q h => by omega); have e1 : (1 : Pm n)⁻¹ * a = a := by rw [jJ, Grp.one_mul]
 have e2 : (1 : Pm n)⁻¹ * b = b := by rw [jJ, Grp.one_mul]
 rw [e1, e2] at h; simp only [zHS, jR n hn, Option.bind_some, getTV_here, getTV_next]; rw [show (1 : Int) = ((0 + 1 : Nat) : Int) from rfl, h]; simp only [Option.bind_some, getTV_here, getTV_next]
def Bits (d : Nat) (P : Nat → Nat → Prop) : Prop := d < 2 ^ 64 ∧ ∀ x y, x < 8 → y < 8 → (d.testBit (8 * x + y) = true ↔ P x y)
theorem Bits.congr {d : Nat} {P Q : Nat → Nat → Prop} (h : Bits d P) (e : ∀ x y, x < 8 → y < 8 → (P x y ↔ Q x y)) : Bits d Q :=
 ⟨h.1, fun x y hx hy => (h.2 x y hx hy).trans (e x y hx hy)⟩
theorem Bits.set {d : Nat} {P : Nat → Nat → Prop} {a b : Nat} (h : Bits d P) (ha : a < 8) (hb : b < 8) : Bits (d ||| 2 ^ (8 * a + b)) (fun x y => P x y ∨ (x = a ∧ y = b)) := by
 have h1 : 2 ^ (8 * a + b) < 2 ^ 64 := Nat.pow_lt_pow_right (by omega) (by omega); refine ⟨Nat.or_lt_two_pow h.1 h1, fun x y hx hy => ?_⟩; rw [Nat.testBit_or, Bool.or_eq_true, h.2 x y hx hy, Nat.testBit_two_pow]; simp only [decide_eq_true_eq]
 constructor
 · rintro (h2 | h2)
   · exact .inl h2
   · right; omega
 · rintro (h2 | ⟨rfl, rfl⟩)
   · exact .inl h2
   · exact .inr rfl
theorem Bits.and {d e : Nat} {P Q : Nat → Nat → Prop} (h : Bits d P) (h' : Bits e Q) : Bits (d &&& e) (fun x y => P x y ∧ Q x y) := by
 refine ⟨Nat.and_lt_two_pow d h'.1, fun x y hx hy => ?_⟩; rw [Nat.testBit_and, Bool.and_eq_true, h.2 x y hx hy, h'.2 x y hx hy]
theorem zM6 (n : Nat) (hn : n ≤ 8) (s : Pm n) (Y : Nat) (hY : Y < n) : ∀ i, i ≤ Y → ∀ d, Bits d (fun x y => x < y ∧ s.f y < s.f x ∧ (y < Y ∨ (y = Y ∧ x < i))) →
  ∃ d', Bits d' (fun x y => x < y ∧ s.f y < s.f x ∧ y < Y + 1) ∧
   R zAc [tA8 (sA s), tU64 (d : Int), tI (Y : Int), tI (n : Int), tI (Y : Int), tI (Y : Int), tI (i : Int)] = some [tI 0, tA8 (sA s), tU64 (d' : Int), tI (n : Int), tI (Y : Int)] := by
 refine zm _ (fun d hd => ?_) (fun i hi ih d hd => ?_)
 · refine ⟨d, hd.congr (fun x y hx hy => ?_), ?_⟩
   · constructor
     · rintro ⟨h1, h2, h3⟩; exact ⟨h1, h2, by omega⟩
     · rintro ⟨h1, h2, h3⟩; exact ⟨h1, h2, by omega⟩
   · apply zDd; simp [zAj]
 · have e1 : wi64 (wi64 (8 * (i : Int)) + (Y : Int)) = ((8 * i + Y : Nat) : Int) := by
    rw [zF (x := 8 * (i : Int)) (by omega) (by omega), zF] <;> omega
   by_cases h : s.f Y < s.f i
   · obtain ⟨d', h1, h2⟩ := ih (d ||| 2 ^ (8 * i + Y)) ((hd.set (a := i) (b := Y) (by omega) (by omega)).congr (fun x y hx hy => by
      constructor
      · rintro (⟨h1, h2, h3⟩ | ⟨rfl, rfl⟩)
        · exact ⟨h1, h2, by omega⟩
        · exact ⟨hi, h, by omega⟩
      · rintro ⟨h1, h2, h3⟩
        by_cases h4 : x = i ∧ y = Y
        · exact .inr h4
        · exact .inl ⟨h1, h2, by omega⟩))
     refine ⟨d', h1, ?_⟩; apply zDd; have d1 : ((s.f Y : Int) < (s.f i : Int)) := by omega
     have e2 : bitsOr .u64 (d : Int) (shl .u64 1 ((8 * i + Y : Nat) : Int)) = ((d ||| 2 ^ (8 * i + Y) : Nat) : Int) := by
      rw [zTy (by omega), zQl hd.1 (Nat.pow_lt_pow_right (by omega) (by omega))]
     simp (disch := omega) only [zAj, decide_eq_true, cond_true, Bool.and_true, Int.toNat_natCast, jL, jA, e1, e2, h2]
   · obtain ⟨d', h1, h2⟩ := ih d (hd.congr (fun x y hx hy => by
      constructor
      · rintro ⟨h1, h2, h3⟩; exact ⟨h1, h2, by omega⟩
      · rintro ⟨h1, h2, h3⟩; refine ⟨h1, h2, ?_⟩
        by_cases h4 : x = i ∧ y = Y
        · rw [h4.1, h4.2] at h2; exact (h h2).elim
        · omega))
     refine ⟨d', h1, ?_⟩; apply zDd; have d1 : ¬ ((s.f Y : Int) < (s.f i : Int)) := by omega
     simp (disch := omega) only [zAj, decide_eq_true, decide_eq_false d1, cond_true, cond_false, Bool.and_true, Int.toNat_natCast, jL, jA, h2]
theorem zM7 (n : Nat) (hn : n ≤ 8) (s : Pm n) : ∀ i, i ≤ n → ∀ d, Bits d (fun x y => x < y ∧ s.f y < s.f x ∧ y < i) →
  ∃ d', Bits d' (fun x y => x < y ∧ s.f y < s.f x) ∧ R zBs [tA8 (sA s), tU64 (d : Int), tI (n : Int), tI (i : Int)] = some [tI 0, tU64 (d' : Int)] := by
 refine zm _ (fun d hd => ?_) (fun i hi ih d hd => ?_)
 · refine ⟨d, hd.congr (fun x y hx hy => ?_), ?_⟩
   · constructor
     · rintro ⟨h1, h2, h3⟩; exact ⟨h1, h2⟩
     · rintro ⟨h1, h2⟩; exact ⟨h1, h2, Pm.below h1 h2⟩
   · apply zGE; simp [zBy]
 · obtain ⟨d1, h1, h2⟩ := zM6 n hn s i hi 0 (Nat.zero_le _) d (hd.congr (fun x y hx hy => by
    constructor
    · rintro ⟨h1, h2, h3⟩; exact ⟨h1, h2, .inl h3⟩
    · rintro ⟨h1, h2, h3⟩; exact ⟨h1, h2, by omega⟩))
   obtain ⟨d2, h3, h4⟩ := ih d1 h1; refine ⟨d2, h3, ?_⟩; apply zGE; simp only [Int.natCast_zero] at h2; simp (disch := omega) only [zBy, decide_eq_true, cond_true, h2, Option.bind_some, getTV_here, getTV_next, jL, h4]
theorem zKe (n : Nat) (hn : n ≤ 8) (s : Pm n) : ∃ d, Bits d (fun x y => x < y ∧ s.f y < s.f x) ∧ R zDn [tA8 (sA s), tI (n : Int)] = some [tU64 (d : Int)] := by
 obtain ⟨d, h1, h2⟩ := zM7 n hn s 0 (Nat.zero_le _) 0 ⟨by omega, fun x y hx hy => by simp⟩; refine ⟨d, h1, ?_⟩; apply zNa; simp only [Int.natCast_zero] at h2; simp only [zF8, h2, Option.bind_some, getTV_here, getTV_next]
theorem zT0 {n : Nat} (hn : n ≤ 8) (c : Pm n) (p : Nat) (h : p + 1 < n) : List.set (List.set (sA c⁻¹) p (c.g (p + 1) : Int)) (p + 1) (c.g p : Int) = sA (Pm.put1 c p h)⁻¹ := by
 rw [show sA c⁻¹ = A8 n c.g from rfl, zC1 (by omega) hn, zC1 h hn]; apply zl; intro x hx; show _ = c.g (Pm.sf p x); unfold Pm.sf
 by_cases h1 : x = p + 1
 · subst h1; simp
 · by_cases h2 : x = p
   · subst h2; simp
   · simp [h1, h2]
def StopAt {n : Nat} (a b c : Pm n) (q : Nat) : Prop := c.g q < c.g (q + 1) → ¬ (a.f (c.g (q + 1)) < a.f (c.g q) ∧ b.f (c.g (q + 1)) < b.f (c.g q))
theorem zS6 (n : Nat) (hn : n ≤ 8) (a b : Pm n) (m : Nat) (hm : Bits m (fun x y => (x < y ∧ a.f y < a.f x) ∧ (x < y ∧ b.f y < b.f x))) (z : List Int) :
  ∀ (d p : Nat), p + d = n → ∀ (c : Pm n) (fl : Bool), c.le a → c.le b → ∃ c' fl', c'.le a ∧ c'.le b ∧ c.cnt ≤ c'.cnt ∧ (fl' = false → fl = false ∧ c' = c ∧ ∀ q, p ≤ q → q + 1 < n → StopAt a b c q) ∧ (fl' = true → fl = true ∨ c.cnt < c'.cnt) ∧
   R zDV [tA8 z, tA8 (sA c⁻¹), tI (n : Int), tU64 (m : Int), tB fl, tI ((p + 1 : Nat) : Int)] = some [tI 0, tA8 z, tA8 (sA c'⁻¹), tI (n : Int), tU64 (m : Int), tB fl'] := by
 intro d
 induction d with
 | zero =>
  intro p hp c fl ha hb; refine ⟨c, fl, ha, hb, Nat.le_refl _, fun h => ⟨h, rfl, fun q h1 h2 => by omega⟩, fun h => .inl h, ?_⟩; apply zEE; have h1 : ¬ (((p + 1 : Nat) : Int) < (n : Int)) := by omega
  simp only [zCZ, decide_eq_false h1, cond_false]
 | succ d ih =>
  intro p hp c fl ha hb
  by_cases h0 : p + 1 < n
  · have e1 := zLr (p := p) (by omega); have l0 := c.lt_g (show p < n by omega); have l1 := c.lt_g h0; have g0 := jA (s := c⁻¹) (x := p) (by omega) hn; have g1 := jA (s := c⁻¹) (x := p + 1) h0 hn; simp only [Pm.inv_f] at g0 g1
    by_cases h1 : c.g p < c.g (p + 1)
    · have e2 : wu8 (wu8 (8 * (c.g p : Int)) + (c.g (p + 1) : Int)) = ((8 * c.g p + c.g (p + 1) : Nat) : Int) := by
       rw [zIO (x := 8 * (c.g p : Int)) (by omega) (by omega), zIO] <;> omega
      have e3 := zVL (d := m) (k := 8 * c.g p + c.g (p + 1)) hm.1 (by omega); have e4 := hm.2 (c.g p) (c.g (p + 1)) (by omega) (by omega); have d1 : ((c.g p : Int) < (c.g (p + 1) : Int)) := by omega
      by_cases h2 : a.f (c.g (p + 1)) < a.f (c.g p) ∧ b.f (c.g (p + 1)) < b.f (c.g p)
      · have hcn := Pm.cnt_put1 (h := h0) h1; obtain ⟨c', fl', q1, q2, q3, q4, q5, q6⟩ := ih (p + 1) (by omega) (Pm.put1 c p h0) true (Pm.put1_le h1 ha h2.1) (Pm.put1_le h1 hb h2.2); refine ⟨c', fl', q1, q2, by omega, fun h => absurd (q4 h).1 (by simp), fun _ => .inr (by omega), ?_⟩; apply zEE; have e5 : m.testBit (8 * c.g p + c.g (p + 1)) = true := e4.2 ⟨⟨h1, h2.1⟩, h1, h2.2⟩; simp (disch := omega) only [zCZ, e1, decide_eq_true, cond_true, Bool.and_true, Int.toNat_natCast, g0, g1, e2, e3, e5, jL, zT0 hn c p h0]; exact q6
      · obtain ⟨c', fl', q1, q2, q3, q4, q5, q6⟩ := ih (p + 1) (by omega) c fl ha hb
        refine ⟨c', fl', q1, q2, q3, fun h => ⟨(q4 h).1, (q4 h).2.1, fun q h3 h4 => ?_⟩, q5, ?_⟩
        · rcases Nat.lt_or_ge p q with h5 | h5
          · exact (q4 h).2.2 q (by omega) h4
          · have : q = p := by omega
            subst this; exact fun _ => h2
        · apply zEE; have e5 : m.testBit (8 * c.g p + c.g (p + 1)) = false := by
           rw [Bool.eq_false_iff]; intro h; exact h2 ⟨(e4.1 h).1.2, (e4.1 h).2.2⟩
          simp (disch := omega) only [zCZ, e1, decide_eq_true, cond_true, cond_false, Bool.and_true, Int.toNat_natCast, g0, g1, e2, e3, e5, jL]; exact q6
    · obtain ⟨c', fl', q1, q2, q3, q4, q5, q6⟩ := ih (p + 1) (by omega) c fl ha hb
      refine ⟨c', fl', q1, q2, q3, fun h => ⟨(q4 h).1, (q4 h).2.1, fun q h3 h4 => ?_⟩, q5, ?_⟩
      · rcases Nat.lt_or_ge p q with h5 | h5
        · exact (q4 h).2.2 q (by omega) h4
        · have : q = p := by omega
          subst this; exact fun h => (h1 h).elim
      · apply zEE; have d1 : ¬ ((c.g p : Int) < (c.g (p + 1) : Int)) := by omega
        simp (disch := omega) only [zCZ, e1, decide_eq_true, decide_eq_false d1, cond_true, cond_false, Bool.and_true, Int.toNat_natCast, g0, g1, jL]; exact q6
  · refine ⟨c, fl, ha, hb, Nat.le_refl _, fun h => ⟨h, rfl, fun q h1 h2 => by omega⟩, fun h => .inl h, ?_⟩; apply zEE; have h1 : ¬ (((p + 1 : Nat) : Int) < (n : Int)) := by omega
    simp only [zCZ, decide_eq_false h1, cond_false]
theorem zS7 (n : Nat) (hn : n ≤ 8) (a b : Pm n) (m : Nat) (hm : Bits m (fun x y => (x < y ∧ a.f y < a.f x) ∧ (x < y ∧ b.f y < b.f x))) (z : List Int) :
  ∀ (k : Nat) (c : Pm n), n * n < c.cnt + k → c.le a → c.le b → R zGh [tA8 z, tA8 (sA c⁻¹), tI (n : Int), tU64 (m : Int), tB true] = some [tI 0, tA8 z, tA8 (sA (Pm.meet a b)⁻¹), tI (n : Int)] := by
 intro k
 induction k with
 | zero =>
  intro c hk; have := Pm.cnt_le c; omega
 | succ k ih =>
  intro c hk ha hb; obtain ⟨c', fl', q1, q2, q3, q4, q5, q6⟩ := zS6 n hn a b m hm z n 0 (by omega) c false ha hb; apply zL1; simp only [Nat.zero_add] at q6; rw [show ((1 : Nat) : Int) = 1 from rfl] at q6; simp only [zGy, cond_true, q6, Option.bind_some, getTV_here, getTV_next]
  cases fl' with
  | true =>
   have := q5 rfl; simp only [Bool.false_eq_true, false_or] at this; exact ih c' (by omega) q1 q2
  | false =>
   obtain ⟨_, r2, r3⟩ := q4 rfl; subst r2; have e := Pm.Greedy.eq ⟨q1, q2, fun q h1 h2 => r3 q (Nat.zero_le _) h1 h2⟩; apply zL1; simp only [zGy, cond_false, e]
theorem zTc (n : Nat) (hn : n ≤ 8) (a b : Pm n) : R zN2 [tA8 (sA a), tA8 (sA b), tI (n : Int)] = some [tA8 (sA (Pm.meet a b))] := by
 obtain ⟨d, h1, h2⟩ := zKe n hn a; obtain ⟨e, h3, h4⟩ := zKe n hn b; have h5 := zS7 n hn a b (d &&& e) (h1.and h3) (List.replicate 8 0) (n * n + 1) 1 (by omega) (Pm.one_le a) (Pm.one_le b); rw [jJ] at h5; apply zTl; simp only [zOk, h2, h4, jp n hn, Option.bind_some, getTV_here, getTV_next, zJQ h1.1 h3.1, h5, zGv n hn, kS]
end Go.Ev.YtmdkgikjnaijeaaGreat
namespace Go.Ev.YtmdkgikjnaijeaaGreat
open Go.Ev Go.Gar
def sL {n : Nat} (l : List (Pm n)) : List (List Int) := l.map sA
theorem zT {n : Nat} (l : List (Pm n)) : (sL l).length = l.length := by simp [sL]
theorem zBS {n : Nat} {l : List (Pm n)} {i : Nat} (h : i < l.length) : List.getD (sL l) i (List.replicate 8 0) = sA l[i] := by
 simp [sL, List.getD_eq_getElem?_getD, h]
theorem zRA {n : Nat} (l : List (Pm n)) (i : Nat) (s : Pm n) : List.set (sL l) i (sA s) = sL (l.set i s) := by
 simp [sL]
theorem zIe {n : Nat} (l : List (Pm n)) (s : Pm n) : sL l ++ [sA s] = sL (l ++ [s]) := by simp [sL]
theorem zNp {n : Nat} (l : List (Pm n)) (k : Nat) : List.drop k (sL l) = sL (l.drop k) := by simp [sL]
theorem zKq {n : Nat} (l : List (Pm n)) (k : Nat) : List.take k (sL l) = sL (l.take k) := by simp [sL]
theorem zDR (n : Nat) : sL ([] : List (Pm n)) = [] := rfl
instance {n : Nat} : DecidableEq (Pm n) := fun a b => decidable_of_iff (∀ x, x < n → a.f x = b.f x)
 ⟨fun h => Pm.ext fun x => by
  by_cases hx : x < n
  · exact h x hx
  · rw [a.out x (by omega), b.out x (by omega)], fun h x _ => by rw [h]⟩
theorem zDO {α : Type} {X : List α} {k : Nat} (hk : k < X.length) : X.take (k + 1) = X.take k ++ [X[k]] := by
 rw [List.take_add_one, List.getElem?_eq_getElem hk]
 rfl
theorem zG1 {n : Nat} (hn : n ≤ 8) (s t : Pm n) : (sA s == sA t) = decide (s = t) := by
 rw [Bool.eq_iff_iff, beq_iff_eq, decide_eq_true_eq, zVi hn]
theorem allS {n : Nat} (l : List (Pm n)) : (Pm.lat n).AllS l := fun _ _ => trivial
theorem zSi {n : Nat} (a b : Pm n) : Pm.meet (a⁻¹ * Pm.half n) b = (Pm.lat n).meet ((Pm.lat n).K a) b := rfl
theorem zRp {n : Nat} {X : List (Pm n)} {k : Nat} (hk : k < X.length) (b : Pm n) (m : List (Pm n)) :
  ∃ (h1 : k < (X.take (k + 1) ++ b :: m).length) (h2 : k + 1 < (X.take (k + 1) ++ b :: m).length), (X.take (k + 1) ++ b :: m)[k] = X[k] ∧ (X.take (k + 1) ++ b :: m)[k + 1] = b := by
 have e : (X.take (k + 1)).length = k + 1 := by simp; omega
 refine ⟨by simp; omega, by simp; omega, ?_, ?_⟩
 · rw [List.getElem_append_left (by omega)]; simp
 · rw [List.getElem_append_right (by omega)]; simp [e]
theorem zRo {n : Nat} {X : List (Pm n)} {k : Nat} (hk : k < X.length) (b x y : Pm n) (m : List (Pm n)) :
  ((X.take (k + 1) ++ b :: m).set k x).set (k + 1) y = X.take k ++ x :: y :: m := by
 have e : X.take (k + 1) = X.take k ++ [X[k]] := zDO hk; have e1 : (X.take k).length = k := by simp; omega
 rw [e, List.append_assoc]; rw [List.set_append_right _ _ (by omega), e1, Nat.sub_self]; rw [List.set_append_right _ _ (by omega), e1, show k + 1 - k = 1 by omega]
 rfl
theorem zMN {n : Nat} {X : List (Pm n)} {k : Nat} (hk : k < X.length) : (Pm.lat n).pass (X.drop k) = (Pm.lat n).step1 X[k] ((Pm.lat n).pass (X.drop (k + 1))) := by
 rw [List.drop_eq_getElem_cons hk]
 rfl
theorem zHz (n : Nat) (hn : n ≤ 8) (X : List (Pm n)) (hX : X.length < 1000000) : ∀ k, k < X.length → ∀ mv : Bool,
  ∃ mv', (mv' = false → mv = false ∧ (Pm.lat n).pass X = X.take k ++ (Pm.lat n).pass (X.drop k)) ∧ (mv' = true → mv = true ∨ ¬ (Pm.lat n).Wd X) ∧
   R ku [tLA8 (sL (X.take k ++ (Pm.lat n).pass (X.drop k))), tI (n : Int), tB mv, tI ((k : Int) - 1)] = some [tI 0, tLA8 (sL ((Pm.lat n).pass X)), tI (n : Int), tB mv'] := by
 intro k
 induction k with
 | zero =>
  intro _ mv; refine ⟨mv, fun h => ⟨h, by simp⟩, fun h => .inl h, ?_⟩; apply zAV; simp [kx]
 | succ k ih =>
  intro hk mv; have hk' : k < X.length := by omega
  have hlen := (Pm.lat n).pass_len (l := X.drop (k + 1)); have hd := zMN hk'
  cases hp : (Pm.lat n).pass (X.drop (k + 1)) with
  | nil =>
   rw [hp] at hlen; simp at hlen; omega
  | cons b m =>
   rw [hp] at hd; obtain ⟨l1, l2, g1, g2⟩ := zRp hk' b m; have e1 : wi64 ((k : Int) + 1) = ((k + 1 : Nat) : Int) := by rw [zF] <;> omega
   have e2 : wi64 ((k : Int) - 1) = (k : Int) - 1 := by rw [zF] <;> omega
   have len : (X.take (k + 1) ++ b :: m).length = X.length := by
    rw [hp] at hlen; simp at hlen ⊢; omega
   have gg1 := zBS (n := n) l1; have gg2 := zBS (n := n) l2; rw [g1] at gg1; rw [g2] at gg2; have tk : X.take (k + 1) = X.take k ++ [X[k]] := zDO hk'
   by_cases hc : Pm.meet (X[k]⁻¹ * Pm.half n) b = 1
   · have hst : (Pm.lat n).pass (X.drop k) = X[k] :: b :: m := by
      rw [hd, Lat.step1, ← zSi, hc, Grp.mul_one, jJ, Grp.one_mul]
     obtain ⟨mv', q1, q2, q3⟩ := ih hk' mv; have ecur : X.take k ++ (Pm.lat n).pass (X.drop k) = X.take (k + 1) ++ b :: m := by
      rw [hst, tk, List.append_assoc]
      rfl
     rw [ecur] at q1 q3; refine ⟨mv', fun h => ⟨(q1 h).1, (q1 h).2⟩, q2, ?_⟩; apply zAV; rw [show ((k + 1 : Nat) : Int) - 1 = (k : Int) by omega]; simp (disch := omega) only [kx, decide_eq_true, cond_true, Bool.and_true, Int.toNat_natCast, zT, len, gg1, gg2, e1, zEd n hn, zM2 n hn, jR n hn, Option.bind_some, getTV_here, hc, beq_self_eq_true, e2]; exact q3
   · have hst : (Pm.lat n).pass (X.drop k) = (X[k] * Pm.meet (X[k]⁻¹ * Pm.half n) b) :: ((Pm.meet (X[k]⁻¹ * Pm.half n) b)⁻¹ * b) :: m := by
      rw [hd, Lat.step1, ← zSi]
     obtain ⟨mv', q1, q2, q3⟩ := ih hk' true; rw [hst] at q3; have wd : ¬ (Pm.lat n).Wd X := by
      intro hW; have hpf := Lat.pass_fix hW; have hW2 : ∀ j, (Pm.lat n).Wd (X.drop j) := by
       intro j
       induction j with
       | zero => exact hW
       | succ j ihj =>
        rw [← List.drop_drop]
        cases hx : X.drop j with
        | nil => exact trivial
        | cons u v =>
         rw [hx] at ihj; exact ihj.2
      have := Lat.pass_fix (hW2 (k + 1)); rw [hp] at this; have h2 := hW2 k; rw [List.drop_eq_getElem_cons hk', ← this] at h2; exact hc (h2.1 b rfl)
     refine ⟨mv', fun h => absurd (q1 h).1 (by simp), fun h => .inr wd, ?_⟩; have e3 := zRo hk' b (X[k] * Pm.meet (X[k]⁻¹ * Pm.half n) b) ((Pm.meet (X[k]⁻¹ * Pm.half n) b)⁻¹ * b) m; have l3 : k + 1 < ((X.take (k + 1) ++ b :: m).set k (X[k] * Pm.meet (X[k]⁻¹ * Pm.half n) b)).length := by rw [List.length_set]; exact l2
     have gg3 := zBS (n := n) l3; have g3 : ((X.take (k + 1) ++ b :: m).set k (X[k] * Pm.meet (X[k]⁻¹ * Pm.half n) b))[k + 1] = b := by
      rw [List.getElem_set_ne (by omega), g2]
     rw [g3] at gg3; apply zAV; rw [show ((k + 1 : Nat) : Int) - 1 = (k : Int) by omega]; have hb : (sA (Pm.meet (X[k]⁻¹ * Pm.half n) b) == sA (1 : Pm n)) = false := by rw [zG1 hn]; simpa using hc
     simp (disch := omega) only [kx, decide_eq_true, cond_true, cond_false, Bool.and_true, Int.toNat_natCast, zT, List.length_set, len, gg1, gg2, e1, zEd n hn, zM2 n hn, jR n hn, Option.bind_some, getTV_here, hb, e2, zEb n hn, zGu n hn, zRA, gg3, e3]; exact q3
theorem zM0 (n : Nat) (hn : n ≤ 8) : ∀ (j : Nat) (X : List (Pm n)), X.length < 1000000 → (Pm.lat n).iter j X = (Pm.lat n).nf X →
  R kZ [tLA8 (sL X), tI (n : Int), tB true] = some [tI 0, tLA8 (sL ((Pm.lat n).nf X))] := by
 intro j
 induction j with
 | zero =>
  intro X hX hj; have hW : (Pm.lat n).Wd X := by
   have := Lat.nf_Wd (allS X); rw [← hj] at this; exact this
  have hpx := Lat.pass_fix hW; have hnx := Lat.nf_fix hW; apply jS
  cases X with
  | nil =>
   have h1 : R ku [tLA8 (sL ([] : List (Pm n))), tI (n : Int), tB false, tI (-2)] = some [tI 0, tLA8 (sL ([] : List (Pm n))), tI (n : Int), tB false] := by
    apply zAV; simp [kx]
   have h2 : R kZ [tLA8 (sL ([] : List (Pm n))), tI (n : Int), tB false] = some [tI 0, tLA8 (sL ([] : List (Pm n)))] := by
    apply jS; simp [zw]
   have e2 : wi64 (((([] : List (List Int)).length : Nat) : Int) - 2) = -2 := by decide
   simp only [zw, cond_true, zDR, e2] at h1 h2 ⊢; simp [h1, h2, hnx, zDR]
  | cons a X =>
   obtain ⟨mv', q1, q2, q3⟩ := zHz n hn (a :: X) hX X.length (by simp) false; have hd : (a :: X).take X.length ++ (Pm.lat n).pass ((a :: X).drop X.length) = a :: X := by
    have hWd : (Pm.lat n).pass ((a :: X).drop X.length) = (a :: X).drop X.length := by
     have h1 : ((a :: X).drop X.length).length = 1 := by simp
     match h2 : (a :: X).drop X.length, h1 with
     | [y], _ => rfl
    rw [hWd, List.take_append_drop]
   rw [hd] at q1 q3; have e2 : wi64 (((sL (a :: X)).length : Nat) - 2) = (X.length : Int) - 1 := by
    simp only [List.length_cons] at hX; rw [zT, List.length_cons, zF] <;> omega
   have hmv : mv' = false := by
    cases mv' with
    | false => rfl
    | true =>
     rcases q2 rfl with h | h
     · simp at h
     · exact (h hW).elim
   subst hmv; have h2 : R kZ [tLA8 (sL ((Pm.lat n).pass (a :: X))), tI (n : Int), tB false] = some [tI 0, tLA8 (sL ((Pm.lat n).pass (a :: X)))] := by
    apply jS; simp [zw]
   rw [hpx] at q3 h2; simp only [zw, cond_true, e2, q3, Option.bind_some, getTV_here, getTV_next, h2, hnx]
 | succ j ih =>
  intro X hX hj; apply jS
  cases X with
  | nil =>
   have h1 : R ku [tLA8 (sL ([] : List (Pm n))), tI (n : Int), tB false, tI (-2)] = some [tI 0, tLA8 (sL ([] : List (Pm n))), tI (n : Int), tB false] := by
    apply zAV; simp [kx]
   have h2 : R kZ [tLA8 (sL ([] : List (Pm n))), tI (n : Int), tB false] = some [tI 0, tLA8 (sL ([] : List (Pm n)))] := by
    apply jS; simp [zw]
   have e2 : wi64 (((([] : List (List Int)).length : Nat) : Int) - 2) = -2 := by decide
   have hnx : (Pm.lat n).nf [] = [] := rfl; simp only [zw, cond_true, zDR, e2] at h1 h2 ⊢; simp [h1, h2, hnx, zDR]
  | cons a X =>
   obtain ⟨mv', q1, q2, q3⟩ := zHz n hn (a :: X) hX X.length (by simp) false; have hd : (a :: X).take X.length ++ (Pm.lat n).pass ((a :: X).drop X.length) = a :: X := by
    have hWd : (Pm.lat n).pass ((a :: X).drop X.length) = (a :: X).drop X.length := by
     have h1 : ((a :: X).drop X.length).length = 1 := by simp
     match h2 : (a :: X).drop X.length, h1 with
     | [y], _ => rfl
    rw [hWd, List.take_append_drop]
   rw [hd] at q1 q3; have e2 : wi64 (((sL (a :: X)).length : Nat) - 2) = (X.length : Int) - 1 := by
    simp only [List.length_cons] at hX; rw [zT, List.length_cons, zF] <;> omega
   have hnp := Lat.nf_pass (allS (a :: X)); have hlp := (Pm.lat n).pass_len (l := a :: X)
   cases mv' with
   | false =>
    have hpx := (q1 rfl).2; have hnx : (Pm.lat n).nf (a :: X) = a :: X := by
     have h3 : ∀ i, (Pm.lat n).iter i (a :: X) = a :: X := by
      intro i
      induction i with
      | zero => rfl
      | succ i ihi => rw [Lat.iter_succ, ihi, hpx]
     rw [← hj, h3]
    have h2 : R kZ [tLA8 (sL ((Pm.lat n).pass (a :: X))), tI (n : Int), tB false] = some [tI 0, tLA8 (sL ((Pm.lat n).pass (a :: X)))] := by
     apply jS; simp [zw]
    have hpx' : (Pm.lat n).pass (a :: X) = a :: X := hpx; rw [hpx'] at q3 h2; simp only [zw, cond_true, e2, q3, Option.bind_some, getTV_here, getTV_next, h2, hnx]
   | true =>
    have h2 := ih ((Pm.lat n).pass (a :: X)) (by rw [hlp]; exact hX) (by rw [Lat.iter_pass, hj, hnp]); rw [hnp] at h2; simp only [zw, cond_true, e2, q3, Option.bind_some, getTV_here, getTV_next, h2]
theorem zKa (n : Nat) (hn : n ≤ 8) (X : List (Pm n)) (hX : X.length < 1000000) : R zFj [tLA8 (sL X), tI (n : Int)] = some [tLA8 (sL ((Pm.lat n).nf X))] := by
 apply zNR; have h := zM0 n hn X.length X hX (Lat.iter_nf _ (Nat.le_refl _) (allS X)); simp only [zF0, zQm (ys := sL X) (by rw [zT]; omega), cond_true, h, Option.bind_some, getTV_here, getTV_next]
end Go.Ev.YtmdkgikjnaijeaaGreat
namespace Go.Ev.YtmdkgikjnaijeaaGreat
open Go.Ev Go.Gar
theorem zOg {G : Type} [Grp G] [DecidableEq G] : ∀ (m : List G) (x : G), Lat.bk (m ++ [x]) = if x = 1 then Lat.bk m else m ++ [x]
 | [], x => by
  simp only [List.nil_append, Lat.bk]
 | a :: m, x => by
  have ih := zOg m x; show Lat.bk (a :: (m ++ [x])) = _; unfold Lat.bk; rw [ih]
  by_cases h : x = 1
  · simp only [if_pos h]
  · simp only [if_neg h]
    cases m <;> rfl
theorem zTd {G : Type} [Grp G] [DecidableEq G] : ∀ (m : List G), (Lat.bk m).length ≤ m.length
 | [] => by simp [Lat.bk]
 | a :: m => by
  have ih := zTd m; unfold Lat.bk
  cases h : Lat.bk m with
  | nil =>
   simp only; split <;> simp
  | cons b k =>
   rw [h] at ih; simp at ih ⊢; exact ih
theorem zR5 {G : Type} [Grp G] [DecidableEq G] : ∀ (m : List G), Lat.bk m = m.take (Lat.bk m).length
 | [] => rfl
 | a :: m => by
  have ih := zR5 m; unfold Lat.bk
  cases h : Lat.bk m with
  | nil =>
   simp only; split <;> simp
  | cons b k =>
   rw [h] at ih; simp only [List.length_cons, List.take_succ_cons] at ih ⊢; rw [← ih]
theorem zN4 {G : Type} [Grp G] [DecidableEq G] (Γ : Lat G) : ∀ (l : List G), l.drop (Γ.fr l).1 = (Γ.fr l).2 ∧ (Γ.fr l).1 ≤ l.length
 | [] => by simp [Lat.fr]
 | a :: l => by
  have ih := zN4 Γ l; unfold Lat.fr
  by_cases h : a = Γ.D
  · simp only [if_pos h, List.drop_succ_cons, List.length_cons]; exact ⟨ih.1, by omega⟩
  · simp only [if_neg h]; simp
theorem zOQ (n : Nat) (hn : n ≤ 8) (Y : List (Pm n)) (hY : Y.length < 1000000) (a b : Int) (u : List (List Int)) : ∀ (d i : Nat) (p : Int), i + d = Y.length → -1000000000 ≤ p → p ≤ 1000000000 →
  R zBX [tLA8 (sL Y), tI a, tI b, tLA8 u, tI (n : Int), tI p, tI (i : Int), tI (Y.length : Int)] =
   some [tI 0, tLA8 (sL Y), tI a, tI b, tLA8 u, tI (n : Int), tI (p + (((Pm.lat n).fr (Y.drop i)).1 : Nat)), tI ((i + ((Pm.lat n).fr (Y.drop i)).1 : Nat) : Int), tI (Y.length : Int)] := by
 suffices ∀ (d i : Nat) (p : Int), i + d = Y.length → -1000000000 ≤ p → p + d ≤ 1001000000 →
   R zBX [tLA8 (sL Y), tI a, tI b, tLA8 u, tI (n : Int), tI p, tI (i : Int), tI (Y.length : Int)] =
   some [tI 0, tLA8 (sL Y), tI a, tI b, tLA8 u, tI (n : Int), tI (p + (((Pm.lat n).fr (Y.drop i)).1 : Nat)), tI ((i + ((Pm.lat n).fr (Y.drop i)).1 : Nat) : Int), tI (Y.length : Int)] by
  intro d i p h1 h2 h3; exact this d i p h1 h2 (by omega)
 intro d
 induction d with
 | zero =>
  intro i p hi hp hp'; apply zHb; have h1 : ¬ ((i : Int) < (Y.length : Int)) := by omega
  rw [List.drop_of_length_le (by omega)]; simp only [zCt, decide_eq_false h1, cond_false, Lat.fr]; simp
 | succ d ih =>
  intro i p hi hp hp'; have h0 : i < Y.length := by omega
  apply zHb; rw [List.drop_eq_getElem_cons h0]; simp (disch := omega) only [zCt, decide_eq_true, cond_true, Bool.and_true, Int.toNat_natCast, zT, zBS h0, zEc n hn, Option.bind_some, getTV_here, zG1 hn, zF]; unfold Lat.fr
  by_cases h : Y[i] = Pm.half n
  · have h' : Y[i] = (Pm.lat n).D := h; rw [decide_eq_true h, cond_true, if_pos h', show (i : Int) + 1 = ((i + 1 : Nat) : Int) by omega, ih (i + 1) (p + 1) (by omega) (by omega) (by omega)]; simp only; rw [show p + 1 + (((Pm.lat n).fr (Y.drop (i + 1))).1 : Int) = p + ((((Pm.lat n).fr (Y.drop (i + 1))).1 + 1 : Nat) : Int) by omega, show i + 1 + ((Pm.lat n).fr (Y.drop (i + 1))).1 = i + (((Pm.lat n).fr (Y.drop (i + 1))).1 + 1) by omega]
  · have h' : ¬ Y[i] = (Pm.lat n).D := h; rw [decide_eq_false h, cond_false, if_neg h']; simp
theorem zJF (n : Nat) (hn : n ≤ 8) (Y : List (Pm n)) (hY : Y.length < 1000000) (a b p : Int) (u : List (List Int)) (i : Nat) : ∀ (d : Nat), i + d ≤ Y.length →
  R zBW [tLA8 (sL Y), tI a, tI b, tLA8 u, tI (n : Int), tI p, tI (i : Int), tI ((i + d : Nat) : Int)] =
   some [tI 0, tLA8 (sL Y), tI a, tI b, tLA8 u, tI (n : Int), tI p, tI (i : Int), tI ((i + (Lat.bk ((Y.drop i).take d)).length : Nat) : Int)] := by
 intro d
 induction d with
 | zero =>
  intro hd; apply zHa; simp [zCs, Lat.bk]
 | succ d ih =>
  intro hd; have h0 : i + d < Y.length := by omega
  apply zHa; have e1 : wi64 (((i + (d + 1) : Nat) : Int) - 1) = ((i + d : Nat) : Int) := by rw [zF] <;> omega
  have e2 : (Y.drop i).take (d + 1) = (Y.drop i).take d ++ [Y[i + d]] := by
   have : d < (Y.drop i).length := by simp; omega
   rw [zDO this]; simp
  simp (disch := omega) only [zCs, decide_eq_true, cond_true, Bool.and_true, Int.toNat_natCast, zT, e1, zBS h0, jR n hn, Option.bind_some, getTV_here, zG1 hn]; rw [e2, zOg]
  by_cases h : Y[i + d] = 1
  · rw [decide_eq_true h, cond_true, if_pos h, ih (by omega)]
  · rw [decide_eq_false h, cond_false, if_neg h]; have : ((Y.drop i).take d ++ [Y[i + d]]).length = d + 1 := by simp; omega
    rw [this]
abbrev Nm (n : Nat) := Int × List (Pm n)
def enc {n : Nat} (v : Nm n) : Int × Int × List (List Int) := ((n : Int), v.1, sL v.2)
noncomputable def mk {n : Nat} (p : Int) (l : List (Pm n)) : Nm n := (p + (((Pm.lat n).norm l).1 : Nat), ((Pm.lat n).norm l).2)
theorem kw {n : Nat} (h : 2 ≤ n) : (Pm.lat n).D ≠ 1 := by
 intro e; have := congrArg (fun s : Pm n => s.f 0) e
 change Pm.hf n 0 = 0 at this
 unfold Pm.hf at this; split at this <;> omega
theorem zKB {n : Nat} (p : Int) : mk p ([] : List (Pm n)) = (p, []) := by
 simp [mk, Lat.norm, Lat.nf, Lat.fr, Lat.bk]
theorem zGt (n : Nat) (hn1 : 1 ≤ n) (hn : n ≤ 8) (l : List (Pm n)) (hl : l.length < 1000000) (h1 : n = 1 → l = []) (p : Int) (hp : -1000000000 ≤ p) (hp' : p ≤ 1000000000) :
  R jX [tI (n : Int), tI p, tLA8 (sL l)] = some [zA (enc (mk p l))] := by
 apply zPj; have hlen := (Pm.lat n).nf_len (l := l)
 by_cases h2 : n = 1
 · have := h1 h2; subst this; have hnf : (Pm.lat n).nf [] = [] := rfl; have h7 := zJF n hn [] (by simp) 0 0 p [] 0 0 (by simp); have h3 : ¬ ((1 : Int) < (n : Int)) := by omega
   simp only [Int.natCast_zero, Nat.zero_add] at h7; have hw := zKa n hn [] (by simp); rw [hnf, zDR] at hw; have hb : Lat.bk ([] : List (Pm n)) = [] := rfl; simp only [zDR, List.drop_nil, List.take_nil, hb, List.length_nil, Int.natCast_zero] at h7; simp only [zE2, zDR, hw, Option.bind_some, getTV_here, getTV_next, decide_eq_false h3, cond_false, List.length_nil, Int.natCast_zero, h7, Int.toNat_zero, List.take_nil, List.drop_nil, zKB, enc]
   rfl
 · have h3 : ((1 : Int) < (n : Int)) := by omega
   have h4 := zOQ n hn ((Pm.lat n).nf l) (by omega) 0 0 [] ((Pm.lat n).nf l).length 0 p (by omega) hp hp'; have hf := zN4 (Pm.lat n) ((Pm.lat n).nf l); have h7 := zJF n hn ((Pm.lat n).nf l) (by omega) 0 0 (p + (((Pm.lat n).fr ((Pm.lat n).nf l)).1 : Nat)) [] ((Pm.lat n).fr ((Pm.lat n).nf l)).1 (((Pm.lat n).nf l).length - ((Pm.lat n).fr ((Pm.lat n).nf l)).1) (by omega); rw [hf.1, show ((Pm.lat n).fr ((Pm.lat n).nf l)).1 + (((Pm.lat n).nf l).length - ((Pm.lat n).fr ((Pm.lat n).nf l)).1) = ((Pm.lat n).nf l).length by omega] at h7; have hfl : ((Pm.lat n).fr ((Pm.lat n).nf l)).2.length = ((Pm.lat n).nf l).length - ((Pm.lat n).fr ((Pm.lat n).nf l)).1 := by rw [← hf.1]; simp
   rw [List.take_of_length_le (by omega)] at h7; simp only [List.drop_zero, Nat.zero_add, Int.natCast_zero] at h4; have hb := zTd ((Pm.lat n).fr ((Pm.lat n).nf l)).2; have ht := zR5 ((Pm.lat n).fr ((Pm.lat n).nf l)).2; have e1 : List.drop ((Pm.lat n).fr ((Pm.lat n).nf l)).1 (List.take (((Pm.lat n).fr ((Pm.lat n).nf l)).1 + (Lat.bk ((Pm.lat n).fr ((Pm.lat n).nf l)).2).length) ((Pm.lat n).nf l)) = Lat.bk ((Pm.lat n).fr ((Pm.lat n).nf l)).2 := by
    rw [List.drop_take, hf.1, Nat.add_sub_cancel_left, ← ht]
   simp (disch := omega) only [zE2, zKa n hn l hl, Option.bind_some, getTV_here, getTV_next, decide_eq_true, cond_true, Bool.and_true, zT, h4, h7, Int.toNat_natCast, zKq, zNp, e1]; rw [zQm (by rw [zT]; omega), cond_true]
   rfl
theorem zGL (n : Nat) : (Pm.lat n).Auto (fun s : Pm n => trn s) where
 mul x y := by
  have hh : ∀ z : Pm n, Pm.half n * (Pm.half n * z) = z := fun z => by rw [← Grp.assoc, Pm.half_half, Grp.one_mul]
  simp only [trn, Grp.assoc, hh]
 inv x := by
  unfold trn; rw [zL, zL, Pm.half_inv, Grp.assoc]
 S _ _ := trivial
 meet x y _ _ := by
  have le_trn : ∀ {a b : Pm n}, a.le b → (trn a).le (trn b) := by
   intro a b h i j hij h1; have hj := Pm.below hij h1; simp only [trn, Pm.mul_f, Pm.half_f] at h1 ⊢; have h2 : Pm.hf n j < Pm.hf n i := Pm.hf_anti hij hj; have hb : ∀ s : Pm n, ∀ k, k < n → s.f (Pm.hf n k) < n := fun s k hk => s.lt (by unfold Pm.hf; split <;> omega)
   have h3 : a.f (Pm.hf n i) < a.f (Pm.hf n j) := by
    rcases Pm.hf_rev h1 with h4 | h4
    · exact h4
    · have := hb a i (by omega); omega
   have h4 := h _ _ h2 h3; exact Pm.hf_anti h4 (hb b j hj)
  have tt : ∀ s : Pm n, trn (trn s) = s := by
   intro s; unfold trn; apply Pm.ext; intro k; simp only [Pm.mul_f, Pm.half_f, Pm.hf_hf]
  show trn (Pm.meet x y) = Pm.meet (trn x) (trn y); have g1 := Pm.meet_greedy x y; have g2 := Pm.meet_greedy (trn x) (trn y)
  apply Pm.le_anti
  · exact g2.max (le_trn g1.la) (le_trn g1.lb)
  · have a1 := le_trn g2.la; have a2 := le_trn g2.lb; rw [tt] at a1 a2; have := le_trn (g1.max a1 a2); rw [tt] at this; exact this
 D := by
  show trn (Pm.half n) = Pm.half n; unfold trn; rw [Pm.half_half, Grp.one_mul]
 inj x y h := by
  have tt : ∀ s : Pm n, trn (trn s) = s := by
   intro s; unfold trn; apply Pm.ext; intro k; simp only [Pm.mul_f, Pm.half_f, Pm.hf_hf]
  have := congrArg trn h; simp only [tt] at this; exact this
theorem zQ0 {n : Nat} (s : Pm n) : trn (trn s) = s := by
 unfold trn; apply Pm.ext; intro k; simp only [Pm.mul_f, Pm.half_f, Pm.hf_hf]
def tk {n : Nat} (k : Int) (l : List (Pm n)) : List (Pm n) := if k.tmod 2 = 0 then l else l.map trn
theorem zOs {n : Nat} (k : Int) (l : List (Pm n)) : (tk k l).length = l.length := by unfold tk; split <;> simp
end Go.Ev.YtmdkgikjnaijeaaGreat
namespace Go.Ev.YtmdkgikjnaijeaaGreat
open Go.Ev Go.Gar
theorem kf {n : Nat} (h2 : 2 ≤ n) (p : Int) (l : List (Pm n)) : (Pm.lat n).Proper (mk p l).2 ∧ p ≤ (mk p l).1 ∧ (mk p l).1 + (mk p l).2.length ≤ p + l.length := by
 obtain ⟨j, _, hP, hl⟩ := Lat.norm_spec (kw h2) (allS l)
 refine ⟨hP, ?_, ?_⟩
 · simp only [mk]; omega
 · simp only [mk]; omega
theorem zMW {n : Nat} (h2 : 2 ≤ n) (p : Int) (X Y : List (Pm n)) : mk p (X ++ Y) = mk (mk p X).1 ((mk p X).2 ++ Y) := by
 simp only [mk]; rw [Lat.norm_app (kw h2) (allS X) (allS Y)]; simp only [Int.natCast_add, Int.add_assoc]
theorem kO {n : Nat} (h2 : 2 ≤ n) (p : Int) {A : List (Pm n)} (hP : (Pm.lat n).Proper A) : mk p A = (p, A) := by
 simp only [mk, Lat.norm_proper (kw h2) hP]; simp
theorem zRW {n : Nat} (h2 : 2 ≤ n) (p : Int) {A : List (Pm n)} (hP : (Pm.lat n).Proper A) : mk p (A ++ [1]) = (p, A) := by
 have e := Lat.nf_ones (Γ := Pm.lat n) (X := A) (Y := []) 1 (allS _) (allS _); simp only [List.append_nil] at e; have e2 : (Pm.lat n).norm (A ++ [1]) = (0, A) := Lat.norm_of (kw h2) (i := 0) (j := 1) (by
  have : (Lat.ones 1 : List (Pm n)) = [1] := rfl; rw [this] at e; rw [e, Lat.nf_fix hP.W]
  rfl) hP
 simp only [mk, e2]; simp
theorem zMM {n : Nat} : ∀ (U : List (Pm n)) {Z m : List (Pm n)} {x : Pm n}, (Pm.lat n).Wd (U ++ [x]) → (Pm.lat n).pass Z = x :: m → (Pm.lat n).pass (U ++ Z) = U ++ (Pm.lat n).pass Z
 | [], Z, m, x, _, _ => rfl
 | u :: U, Z, m, x, hW, hZ => by
  have ih := zMM U hW.2 hZ; show (Pm.lat n).step1 u ((Pm.lat n).pass (U ++ Z)) = _; rw [ih, hZ]
  cases U with
  | nil =>
   have := hW.1 x rfl; simp only [List.nil_append, Lat.step1, this, Grp.mul_one, jJ, Grp.one_mul]
   rfl
  | cons v U =>
   have := hW.1 v rfl; simp only [List.cons_append, Lat.step1, this, Grp.mul_one, jJ, Grp.one_mul]
theorem zLq {n : Nat} : ∀ {U V : List (Pm n)}, (Pm.lat n).Wd (U ++ V) → (Pm.lat n).Wd U
 | [], V, _ => trivial
 | u :: U, V, h => by
  refine ⟨fun b hb => h.1 b ?_, zLq h.2⟩
  cases U with
  | nil => simp at hb
  | cons v U => exact hb
theorem zUf (n : Nat) (hn : n ≤ 8) (A : List (Pm n)) (s : Pm n) (p : Int) (hA : A.length < 1000000) (hW : (Pm.lat n).Wd A) : ∀ k, k ≤ A.length →
  R i__i_Normal__put_5 [tI (n : Int), tI p, tLA8 (sL ((A ++ [s]).take k ++ (Pm.lat n).pass ((A ++ [s]).drop k))), tI (n : Int), tI (k : Int)] = some [tI 0, tI (n : Int), tI p, tLA8 (sL ((Pm.lat n).pass (A ++ [s]))), tI (n : Int)] := by
 intro k
 induction k with
 | zero =>
  intro _; apply zAW; simp [b__i_Normal__put_5]
 | succ k ih =>
  intro hk; have hlX : (A ++ [s]).length = A.length + 1 := by simp
  have hk' : k < (A ++ [s]).length := by omega
  have hlen := (Pm.lat n).pass_len (l := (A ++ [s]).drop (k + 1)); have hd := zMN hk'
  cases hp : (Pm.lat n).pass ((A ++ [s]).drop (k + 1)) with
  | nil =>
   rw [hp] at hlen; simp at hlen; omega
  | cons b m =>
   rw [hp] at hd; obtain ⟨l1, l2, g1, g2⟩ := zRp hk' b m; have e1 : wi64 (((k + 1 : Nat) : Int) - 1) = (k : Int) := by rw [zF] <;> omega
   have len : ((A ++ [s]).take (k + 1) ++ b :: m).length = A.length + 1 := by
    rw [hp] at hlen; simp at hlen ⊢; omega
   have gg1 := zBS (n := n) l1; have gg2 := zBS (n := n) l2; rw [g1] at gg1; rw [g2] at gg2; have tk := zDO hk'
   by_cases hc : Pm.meet ((A ++ [s])[k]⁻¹ * Pm.half n) b = 1
   · have hst : (Pm.lat n).pass ((A ++ [s]).drop k) = (A ++ [s])[k] :: b :: m := by
      rw [hd, Lat.step1, ← zSi, hc, Grp.mul_one, jJ, Grp.one_mul]
     have hWk : (Pm.lat n).Wd ((A ++ [s]).take k ++ [(A ++ [s])[k]]) := by
      rw [← tk, List.take_append_of_le_length (by omega)]; rw [← List.take_append_drop (k + 1) A] at hW; exact zLq hW
     have hfin := zMM _ hWk hst; rw [List.take_append_drop, hst] at hfin; have ecur : (A ++ [s]).take k ++ (A ++ [s])[k] :: b :: m = (A ++ [s]).take (k + 1) ++ b :: m := by
      rw [tk, List.append_assoc]
      rfl
     rw [ecur] at hfin; apply zAW; simp (disch := omega) only [b__i_Normal__put_5, decide_eq_true, cond_true, Bool.and_true, Int.toNat_natCast, zT, len, gg1, gg2, e1, zH0 n hn, zTc n hn, jp n hn, Option.bind_some, getTV_here, hc, beq_self_eq_true, hfin]
   · have hst : (Pm.lat n).pass ((A ++ [s]).drop k) = ((A ++ [s])[k] * Pm.meet ((A ++ [s])[k]⁻¹ * Pm.half n) b) :: ((Pm.meet ((A ++ [s])[k]⁻¹ * Pm.half n) b)⁻¹ * b) :: m := by
      rw [hd, Lat.step1, ← zSi]
     have ih' := ih (by omega); rw [hst] at ih'; have e3 := zRo hk' b ((A ++ [s])[k] * Pm.meet ((A ++ [s])[k]⁻¹ * Pm.half n) b) ((Pm.meet ((A ++ [s])[k]⁻¹ * Pm.half n) b)⁻¹ * b) m; have l3 : k + 1 < (((A ++ [s]).take (k + 1) ++ b :: m).set k ((A ++ [s])[k] * Pm.meet ((A ++ [s])[k]⁻¹ * Pm.half n) b)).length := by rw [List.length_set]; exact l2
     have gg3 := zBS (n := n) l3; have g3 : (((A ++ [s]).take (k + 1) ++ b :: m).set k ((A ++ [s])[k] * Pm.meet ((A ++ [s])[k]⁻¹ * Pm.half n) b))[k + 1] = b := by
      rw [List.getElem_set_ne (by omega), g2]
     rw [g3] at gg3; apply zAW; have hb : (sA (Pm.meet ((A ++ [s])[k]⁻¹ * Pm.half n) b) == sA (1 : Pm n)) = false := by rw [zG1 hn]; simpa using hc
     simp (disch := omega) only [b__i_Normal__put_5, decide_eq_true, cond_true, cond_false, Bool.and_true, Int.toNat_natCast, zT, List.length_set, len, gg1, gg2, e1, zH0 n hn, zTc n hn, jp n hn, Option.bind_some, getTV_here, hb, zKY n hn, zGv n hn, zRA, gg3, e3]; exact ih'
theorem zPe (n : Nat) (hn : n ≤ 8) : ∀ (Y : List (Pm n)) (p : Int), -1000000000 ≤ p → p + Y.length ≤ 1001000000 → Y.length < 1000000 →
  R i__i_Normal__put_11 [tI (n : Int), tI p, tLA8 (sL Y), tI (n : Int)] = some [tI 0, tI (n : Int), tI (p + (((Pm.lat n).fr Y).1 : Nat)), tLA8 (sL ((Pm.lat n).fr Y).2), tI (n : Int)]
 | [], p, _, _, _ => by
  apply zCI; simp [b__i_Normal__put_11, zDR, Lat.fr]
 | a :: Y, p, h1, h2, h3 => by
  simp only [List.length_cons] at h2 h3; have ih := zPe n hn Y (p + 1) (by omega) (by omega) (by omega); have l0 : 0 < (sL (a :: Y)).length := by simp [sL]
  have e0 : List.getD (sL (a :: Y)) 0 (List.replicate 8 0) = sA a := rfl; have e1 : List.drop 1 (sL (a :: Y)) = sL Y := rfl; apply zCI; simp (disch := omega) only [b__i_Normal__put_11, decide_eq_true, cond_true, e0, e1, zDY n hn, Option.bind_some, getTV_here, zG1 hn, zF]; unfold Lat.fr
  by_cases h : a = Pm.half n
  · have h' : a = (Pm.lat n).D := h; rw [decide_eq_true h, cond_true, if_pos h', ih]; simp only; rw [show p + 1 + (((Pm.lat n).fr Y).1 : Int) = p + ((((Pm.lat n).fr Y).1 + 1 : Nat) : Int) by omega]
  · have h' : ¬ a = (Pm.lat n).D := h; rw [decide_eq_false h, cond_false, if_neg h']; simp
theorem zS5 (n : Nat) (hn : n ≤ 8) (p : Int) : ∀ (k : Nat) (Y : List (Pm n)), Y.length = k → Y.length < 2000000 →
  R i__i_Normal__put_14 [tI (n : Int), tI p, tLA8 (sL Y), tI (n : Int)] = some [tI 0, tI (n : Int), tI p, tLA8 (sL (Lat.bk Y))] := by
 intro k
 induction k with
 | zero =>
  intro Y hk _; have : Y = [] := List.length_eq_zero_iff.1 hk; subst this; apply zCH; simp [b__i_Normal__put_14, zDR, Lat.bk]
 | succ k ih =>
  intro Y hk hl; have h0 : k < Y.length := by omega
  have e : Y = Y.take k ++ [Y[k]] := by
   rw [← zDO h0, List.take_of_length_le (by omega)]
  have e1 : wi64 (((sL Y).length : Nat) - 1) = (k : Int) := by rw [zT, zF] <;> omega
  have l0 : ((0 : Int) < ((sL Y).length : Nat)) := by rw [zT]; omega
  have l1 : ((k : Int) < ((sL Y).length : Nat)) := by rw [zT]; omega
  have ih' := ih (Y.take k) (by simp; omega) (by simp; omega); apply zCH; simp (disch := omega) only [b__i_Normal__put_14, e1, decide_eq_true, cond_true, Bool.and_true, Int.toNat_natCast, zBS h0, jp n hn, Option.bind_some, getTV_here, zG1 hn, zKq]; have hb : Lat.bk Y = if Y[k] = 1 then Lat.bk (Y.take k) else Y := by
   have h1 := zOg (Y.take k) Y[k]; rw [← e] at h1; exact h1
  rw [hb]
  by_cases h : Y[k] = 1
  · rw [decide_eq_true h, cond_true, if_pos h, ih']
  · rw [decide_eq_false h, cond_false, if_neg h]
theorem zQa (n : Nat) (h2 : 2 ≤ n) (hn : n ≤ 8) (v : Nm n) (s : Pm n) (hP : (Pm.lat n).Proper v.2) (hl : v.2.length < 900000) (hp : -1000000000 ≤ v.1) (hp' : v.1 ≤ 1000000000) :
  R i__i_Normal__put [zA (enc v), tA8 (sA s)] = some [zA (enc (mk v.1 (v.2 ++ [s])))] := by
 apply zD9
 by_cases h : s = 1
 · subst h; simp only [b__i_Normal__put, enc, jp n hn, Option.bind_some, getTV_here, beq_self_eq_true, cond_true, zRW h2 v.1 hP]
 · have hb : (sA s == sA (1 : Pm n)) = false := by rw [zG1 hn]; simpa using h
   have h5 := zUf n hn v.2 s v.1 (by omega) hP.W v.2.length (Nat.le_refl _); have e0 : (v.2 ++ [s]).take v.2.length ++ (Pm.lat n).pass ((v.2 ++ [s]).drop v.2.length) = v.2 ++ [s] := by simp [Lat.pass, Lat.step1]
   rw [e0, Lat.pass_nf (allS v.2) trivial hP.W] at h5; have e1 : wi64 (((sL (v.2 ++ [s])).length : Nat) - 1) = (v.2.length : Int) := by
    rw [zT, List.length_append, List.length_cons, List.length_nil, zF] <;> omega
   have hnl := (Pm.lat n).nf_len (l := v.2 ++ [s]); have hf := zN4 (Pm.lat n) ((Pm.lat n).nf (v.2 ++ [s])); have hlA : (v.2 ++ [s]).length = v.2.length + 1 := by simp
   have hfl : ((Pm.lat n).fr ((Pm.lat n).nf (v.2 ++ [s]))).2.length ≤ v.2.length + 1 := by rw [← hf.1, List.length_drop]; omega
   have h11 := zPe n hn ((Pm.lat n).nf (v.2 ++ [s])) v.1 hp (by omega) (by omega); have h14 := zS5 n hn (v.1 + (((Pm.lat n).fr ((Pm.lat n).nf (v.2 ++ [s]))).1 : Nat)) _ ((Pm.lat n).fr ((Pm.lat n).nf (v.2 ++ [s]))).2 rfl (by omega); simp only [b__i_Normal__put, enc, jp n hn, Option.bind_some, getTV_here, getTV_next, hb, cond_false, zJx (xs := sL v.2) (x := sA s) (by rw [zT]; omega), cond_true, zIe, e1, h5, h11, h14]
   rfl
theorem zQX (n : Nat) (hn : n ≤ 8) (p : Int) (l : List (Pm n)) (hl : l.length < 1000000) : ∀ i, i ≤ l.length →
  R i__i_Normal__turnBy_4 [tI (n : Int), tI p, tLA8 (sL ((l.take i).map trn ++ l.drop i)), tI (l.length : Int), tI (i : Int)] = some [tI 0, tI (n : Int), tI p, tLA8 (sL (l.map trn))] := by
 refine zm _ ?_ (fun i hi ih => ?_)
 · apply zBQ; simp [b__i_Normal__turnBy_4]
 · have l1 : i < ((l.take i).map trn ++ l.drop i).length := by simp; omega
   have e0 : ((l.take i).map trn).length = i := by simp; omega
   have g : ((l.take i).map trn ++ l.drop i)[i] = l[i] := by
    rw [List.getElem_append_right (by omega)]; simp only [e0, Nat.sub_self, List.getElem_drop, Nat.add_zero]
   have gg := zBS (n := n) l1; rw [g] at gg; have len : ((l.take i).map trn ++ l.drop i).length = l.length := by simp; omega
   have e1 : ((l.take i).map trn ++ l.drop i).set i (trn l[i]) = (l.take (i + 1)).map trn ++ l.drop (i + 1) := by
    rw [List.set_append_right _ _ (by omega), e0, Nat.sub_self, List.drop_eq_getElem_cons hi, zDO hi, List.map_append, List.append_assoc]
    rfl
   apply zBQ; simp (disch := omega) only [b__i_Normal__turnBy_4, decide_eq_true, cond_true, Bool.and_true, Int.toNat_natCast, zT, len, gg, zTa n hn, Option.bind_some, getTV_here, zRA, e1, zF]; rw [show (i : Int) + 1 = ((i + 1 : Nat) : Int) by omega]; exact ih
theorem zPc (n : Nat) (hn1 : 1 ≤ n) (hn : n ≤ 8) (v : Nm n) (k : Int) (h1 : n = 1 → k = 0) (hl : v.2.length < 1000000) (hp : -1000000000 ≤ v.1) (hp' : v.1 ≤ 1000000000) (hk : -1000000000 ≤ k) (hk' : k ≤ 1000000000) :
  R i__i_Normal__turnBy [zA (enc v), tI k] = some [zA (enc (v.1 + k, tk k v.2))] := by
 apply zCG
 by_cases h : n = 1
 · have := h1 h; subst this; have h3 : ((n : Int) < 2) := by omega
   simp [b__i_Normal__turnBy, enc, h3, tk]
 · have h3 : ¬ ((n : Int) < 2) := by omega
   have h4 := zQX n hn (v.1 + k) v.2 hl 0 (Nat.zero_le _); simp only [List.take_zero, List.map_nil, List.nil_append, List.drop_zero, Int.natCast_zero] at h4; simp (disch := omega) only [b__i_Normal__turnBy, enc, decide_eq_false h3, cond_false, kQ, zF, zT, h4, Option.bind_some, getTV_here, getTV_next, tk]
   by_cases h5 : k.tmod 2 = 0
   · simp [h5, h3]
   · simp [h5, h3]
theorem zUr {n : Nat} (l : List (Pm n)) : tk (-1) l = l.map trn := rfl
theorem zEG {n : Nat} (k : Int) {l : List (Pm n)} (h : (Pm.lat n).Proper l) : (Pm.lat n).Proper (tk k l) := by
 unfold tk
 split
 · exact h
 · exact (zGL n).Proper h
theorem zMv (n : Nat) (h2 : 2 ≤ n) (hn : n ≤ 8) (v : Nm n) (s : Pm n) (hP : (Pm.lat n).Proper v.2) (hl : v.2.length < 900000) (hp : -900000000 ≤ v.1) (hp' : v.1 ≤ 900000000) :
  R i__i_Normal__putInverse [zA (enc v), tA8 (sA s)] = some [zA (enc (mk (v.1 - 1) (v.2.map trn ++ [Pm.half n * s⁻¹])))] := by
 apply zAX; have h3 := zPc n (by omega) hn v (-1) (fun h => by omega) (by omega) (by omega) (by omega) (by omega) (by omega); rw [zUr] at h3; have h4 := zQa n h2 hn (v.1 + -1, v.2.map trn) (Pm.half n * s⁻¹) ((zGL n).Proper hP) (by simp; omega) (by simp only; omega) (by simp only; omega); simp only [enc] at h3 h4 ⊢; simp only [b__i_Normal__putInverse, h3, Option.bind_some, getTV_here, zEA n hn, h4]
 rfl
theorem zOM (n : Nat) (h2 : 2 ≤ n) (hn : n ≤ 8) (B : List (Pm n)) (hB : B.length < 400000) (x0 x1 : Int) (x2 : List (List Int)) : ∀ (d i : Nat) (v : Nm n), i + d = B.length → (Pm.lat n).Proper v.2 → v.2.length + d < 900000 → -1000000000 ≤ v.1 → v.1 + v.2.length + d ≤ 1000000000 →
  R zAQ [tI x0, tI x1, tLA8 x2, tI (n : Int), tI v.1, tLA8 (sL v.2), tLA8 (sL B), tI (B.length : Int), tI (i : Int)] = some [tI 0, tI x0, tI x1, tLA8 x2, tI (n : Int), tI (mk v.1 (v.2 ++ B.drop i)).1, tLA8 (sL (mk v.1 (v.2 ++ B.drop i)).2)] := by
 intro d
 induction d with
 | zero =>
  intro i v hi hP _ _ _; apply zCd; have h1 : ¬ ((i : Int) < (B.length : Int)) := by omega
  rw [List.drop_of_length_le (by omega), List.append_nil, kO h2 v.1 hP]; simp only [zAR, decide_eq_false h1, cond_false]
 | succ d ih =>
  intro i v hi hP hl hp hp'; have h0 : i < B.length := by omega
  have hm := kf h2 v.1 (v.2 ++ [B[i]]); have hle : (v.2 ++ [B[i]]).length = v.2.length + 1 := by simp
  have hput := zQa n h2 hn v B[i] hP (by omega) (by omega) (by omega); have ih' := ih (i + 1) (mk v.1 (v.2 ++ [B[i]])) (by omega) hm.1 (by omega) (by omega) (by omega); rw [← zMW h2, List.append_assoc, List.singleton_append, ← List.drop_eq_getElem_cons h0] at ih'; apply zCd; simp only [enc] at hput; simp (disch := omega) only [zAR, decide_eq_true, cond_true, Bool.and_true, Int.toNat_natCast, zT, zBS h0, hput, Option.bind_some, getTV_here, zF]; rw [show (i : Int) + 1 = ((i + 1 : Nat) : Int) by omega]; exact ih'
structure OkN {n : Nat} (v : Nm n) (b : Nat) : Prop where
 P : (Pm.lat n).Proper v.2
 len : v.2.length ≤ b
 lo : -(b : Int) ≤ v.1
 hi : v.1 ≤ b
 one : n = 1 → v = (0, [])
noncomputable def prod {n : Nat} (v w : Nm n) : Nm n := mk (v.1 + w.1) (tk w.1 v.2 ++ w.2)
theorem zBa {n : Nat} (v : Nm n) (hl : v.2.length < 1000000) : R kJ [zA (enc v)] = some [zA (enc v)] := by
 apply zGG; simp only [zB0, enc, zQm (ys := sL v.2) (by rw [zT]; omega), cond_true]
theorem zRv (n : Nat) (hn1 : 1 ≤ n) (hn : n ≤ 8) (v w : Nm n) (hv : OkN v 100000) (hw : OkN w 100000) : R zEw [zA (enc v), zA (enc w)] = some [zA (enc (prod v w))] := by
 have a1 := hv.len; have a2 := hv.lo; have a3 := hv.hi; have b1 := hw.len; have b2 := hw.lo; have b3 := hw.hi; have ht := zPc n hn1 hn v w.1 (fun h => by rw [hw.one h]) (by omega) (by omega) (by omega) (by omega) (by omega); have hc := zBa v (by omega); apply zJ1
 by_cases h : n = 1
 · have e1 := hv.one h; have e2 := hw.one h; subst e1; subst e2; have h4 : R zAQ [tI 0, tI 0, tLA8 [], tI (n : Int), tI 0, tLA8 [], tLA8 [], tI 0, tI 0] = some [tI 0, tI 0, tI 0, tLA8 [], tI (n : Int), tI 0, tLA8 []] := by
    apply zCd; simp [zAR]
   have htk : tk 0 ([] : List (Pm n)) = [] := rfl; simp only [enc, zDR, htk, Int.add_zero, prod, List.nil_append, zKB] at ht hc ⊢; simp [zDZ, hc, ht, h4]
 · have h4 := zOM n (by omega) hn w.2 (by omega) 0 0 [] w.2.length 0 (v.1 + w.1, tk w.1 v.2) (by omega) (zEG _ hv.P) (by simp only [zOs]; omega) (by simp only; omega) (by simp only [zOs]; omega); simp only [Int.natCast_zero, List.drop_zero] at h4; simp only [enc] at hc ht ⊢; simp only [zDZ, hc, ht, Option.bind_some, getTV_here, getTV_next, zT, h4]
   rfl
theorem zM1 (n : Nat) (h2 : 2 ≤ n) (hn : n ≤ 8) (v : Nm n) (s : Pm n) (hl : v.2.length < 900000) (hp : -900000000 ≤ v.1) (hp' : v.1 ≤ 900000000) :
  R zFk [zA (enc v), tA8 (sA s), tB false] = some [zA (enc (mk v.1 (v.2 ++ [s])))] := by
 apply zNS; have hm := zGt n (by omega) hn (v.2 ++ [s]) (by simp; omega) (fun h => by omega) v.1 (by omega) (by omega); simp only [enc] at hm ⊢; simp only [zF1, cond_false, zQm (ys := sL v.2) (by rw [zT]; omega), zJx (xs := sL v.2) (x := sA s) (by rw [zT]; omega), cond_true, zIe, hm, Option.bind_some, getTV_here]
end Go.Ev.YtmdkgikjnaijeaaGreat
namespace Go.Ev.YtmdkgikjnaijeaaGreat
open Go.Ev
def Len8 (L : List (List Int)) : Prop := ∀ x ∈ L, x.length = 8
theorem Len8.at {L : List (List Int)} (h : Len8 L) {i : Nat} (hi : i < L.length) : L[i].length = 8 := h _ (List.getElem_mem hi)
theorem zMh {L : List (List Int)} {i : Nat} {d : List Int} (hi : i < L.length) : List.getD L i d = L[i] := by
 simp [List.getD_eq_getElem?_getD, List.getElem?_eq_getElem hi]
theorem zOL (a : List (List Int)) (k : Int) (h : a.length ≤ 9223372036854775807) (hk : 0 ≤ k) (hk' : k ≤ 1000000000) :
  R zEP [tLA8 a, tI k] = some [tI (if k < a.length then -1 else k - a.length)] := by
 apply zLu; simp (disch := omega) only [zEf, zF]
 by_cases e : k < a.length
 · simp (disch := omega) only [decide_eq_true, cond_true, if_pos e]
 · simp (disch := omega) only [decide_eq_false, cond_false, if_neg e]
theorem zKZ (a : Int × Int × List (List Int)) (k : Int) (h : a.2.2.length ≤ 9223372036854775807) (hk : 0 ≤ k) (hk' : k ≤ 1000000000) :
  R zFg [zA a, tI k] = some [tI (if k < a.2.2.length then -1 else k - a.2.2.length)] := by
 apply zNM; simp only [zFw, zOL a.2.2 k h hk hk', Option.bind_some, getTV_here]
 by_cases e : k < a.2.2.length
 · simp [e]
 · simp (disch := omega) only [if_neg e, decide_eq_false, cond_false]
theorem zMu (a z : List Int) (ha : a.length = 8) : ∀ i : Nat, i ≤ 8 → ∀ b : List Int, b.length = 8 → b.take i = a.take i → R zBp [tA8 a, tA8 z, tA8 b, tI (i : Int)] = some [tI 0, tA8 z, tA8 a] := by
 refine zm _ (fun b h1 h2 => ?_) (fun i hi ih b h1 h2 => ?_)
 · apply zGB; rw [List.take_of_length_le (by omega), List.take_of_length_le (by omega)] at h2; subst h2; simp [zBu]
 · apply zGB; have hi' : i < a.length := by omega
   simp (disch := omega) only [zBu, decide_eq_true, cond_true, Bool.and_true, Int.toNat_natCast, zF]; rw [show (i : Int) + 1 = ((i + 1 : Nat) : Int) by omega]; refine ih _ (by simp [h1]) ?_; rw [List.take_add_one, List.take_add_one, List.take_set_of_le (Nat.le_refl _), h2]; simp [h1, hi, List.getD_eq_getElem?_getD, List.getElem?_eq_getElem hi']
theorem zQY (a : List Int) (ha : a.length = 8) : R zFf [tA8 a] = some [tA8 a] := by
 apply zNK; have h := zMu a (List.replicate 8 0) ha 0 (by omega) (List.replicate 8 0) (by simp) rfl; simp only [Int.natCast_zero] at h; simp only [zFu, h, Option.bind_some, getTV_here, getTV_next]
theorem zLN (x0 : List (List Int)) (h8 : Len8 x0) (h0 : x0.length < 1000000000) : ∀ i, i ≤ x0.length → ∀ x1 : List (List Int), x1.length = x0.length → x1.take i = x0.take i → R zA0 [tLA8 x0, tLA8 x1, tI (i : Int)] = some [tI 0, tLA8 x0] := by
 refine zm _ (fun x1 h1 h2 => ?_) (fun i hi ih x1 h1 h2 => ?_)
 · apply zE7; rw [← h1, List.take_length, h1, List.take_length] at h2; subst h2; simp [zBG]
 · apply zE7; simp (disch := omega) only [zBG, decide_eq_true, cond_true, Bool.and_true, Int.toNat_natCast, zF, zMh hi, zQY _ (h8.at hi), Option.bind_some, getTV_here]; rw [show (i : Int) + 1 = ((i + 1 : Nat) : Int) by omega]; refine ih _ (by simp [h1]) ?_; rw [List.take_add_one, List.take_add_one, List.take_set_of_le (Nat.le_refl _), h2]; simp [h1, hi]
theorem zOK (a : List (List Int)) (h8 : Len8 a) (h : a.length < 1000000000) : R zEO [tLA8 a] = some [tLA8 a] := by
 apply zLt; have e : mkOk ((a.length : Nat) : Int) = true := by
  have h2 : ((a.length : Int) ≤ (lim : Int)) := by simp only [lim]; omega
  simp [mkOk, h2]
 have := zLN a h8 h 0 (Nat.zero_le _) (List.replicate a.length (List.replicate 8 0)) (by simp) rfl; simp only [Int.natCast_zero] at this; simp only [zEe, e, cond_true, Int.toNat_natCast, this, Option.bind_some, getTV_here, getTV_next]
theorem zKX (a : Int × Int × List (List Int)) (h8 : Len8 a.2.2) (h : a.2.2.length < 1000000000) : R zAo [zA a] = some [zA a] := by
 apply zNL; simp only [zFv, zOK a.2.2 h8 h, Option.bind_some, getTV_here]
theorem zM5 (x0 x1 : List Int) (h0 : x0.length = 8) (h1 : x1.length = 8) : ∀ i : Nat, i ≤ 8 → R zBq [tA8 x0, tA8 x1, tI (i : Int)] = some (if x0.drop i = x1.drop i then [tI 0] else [tI 1, tB false]) := by
 refine zm _ ?_ (fun i hi ih => ?_)
 · apply zGC; rw [List.drop_of_length_le (by omega), List.drop_of_length_le (by omega)]; simp [zBv]
 · apply zGC; rw [List.drop_eq_getElem_cons (by omega : i < x0.length), List.drop_eq_getElem_cons (by omega : i < x1.length)]; simp (disch := omega) only [zBv, decide_eq_true, cond_true, Bool.and_true, Int.toNat_natCast, zF]; rw [show (i : Int) + 1 = ((i + 1 : Nat) : Int) by omega, ih]; simp only [List.getD_eq_getElem?_getD, List.getElem?_eq_getElem (by omega : i < x0.length), List.getElem?_eq_getElem (by omega : i < x1.length), Option.getD_some, List.cons.injEq]; by_cases e : x0[i] = x1[i] <;> simp [e, kQ]
theorem zQe (a b : List Int) (h0 : a.length = 8) (h1 : b.length = 8) : R zFh [tA8 a, tA8 b] = some [tB (decide (a = b))] := by
 apply zNN; have := zM5 a b h0 h1 0 (by omega); simp only [List.drop_zero, Int.natCast_zero] at this; simp only [zFx, this]; by_cases e2 : a = b <;> simp [e2]
theorem zLZ (x0 x1 : List (List Int)) (h8 : Len8 x0) (h8' : Len8 x1) (h0 : x0.length < 1000000000) (h1 : x1.length = x0.length) : ∀ i, i ≤ x0.length → R zA3 [tLA8 x0, tLA8 x1, tI (i : Int)] = some (if x0.drop i = x1.drop i then [tI 0] else [tI 1, tB false]) := by
 refine zm _ ?_ (fun i hi ih => ?_)
 · apply zE8; rw [List.drop_length, ← h1, List.drop_length]; simp [zBH, h1]
 · apply zE8; have hi' : i < x1.length := by omega
   rw [List.drop_eq_getElem_cons hi, List.drop_eq_getElem_cons hi']; simp (disch := omega) only [zBH, decide_eq_true, cond_true, Bool.and_true, Int.toNat_natCast, zF, zMh hi, zMh hi', zQe _ _ (h8.at hi) (h8'.at hi'), Option.bind_some, getTV_here]; rw [show (i : Int) + 1 = ((i + 1 : Nat) : Int) by omega, ih]; simp only [List.cons.injEq]; by_cases e : x0[i] = x1[i] <;> simp [e]
theorem zOY (a b : List (List Int)) (h8 : Len8 a) (h8' : Len8 b) (h : a.length < 1000000000) : R zEQ [tLA8 a, tLA8 b] = some [tB (decide (a = b))] := by
 apply zLv
 by_cases e : b.length = a.length
 · have := zLZ a b h8 h8' h e 0 (Nat.zero_le _); simp only [List.drop_zero, Int.natCast_zero] at this; simp only [zCr, e, bne_self_eq_false, cond_false, this]; by_cases e2 : a = b <;> simp [e2]
 · have : a ≠ b := fun h => e (by rw [h])
   have e3 : ¬ ((a.length : Int) = b.length) := by omega
   simp [zCr, this, e3, kQ]
theorem zKd (a b : Int × Int × List (List Int)) (h8 : Len8 a.2.2) (h8' : Len8 b.2.2) (h : a.2.2.length < 1000000000) : R zDj [zA a, zA b] = some [tB (decide (a = b))] := by
 apply zNO; obtain ⟨a1, a2, a3⟩ := a; obtain ⟨b1, b2, b3⟩ := b; simp only [zFy, zOY a3 b3 h8 h8' h]; by_cases e : a1 = b1 <;> by_cases e2 : a2 = b2 <;> by_cases e3 : a3 = b3 <;> simp [e, e2, e3, kQ]
def mrow (k : Int) : List Int := (List.range 8).map fun (x : Nat) => wu8 (k + x)
theorem zO7 (k : Int) : (mrow k).length = 8 := by simp [mrow]
theorem zO8 (k : Int) {x : Nat} (h : x < 8) : (mrow k)[x]? = some (wu8 (k + x)) := by simp [mrow, h]
def marksR (k : Int) : Nat → List (List Int)
 | 0 => []
 | m + 1 => mrow k :: marksR (k + 8) m
theorem zB6 : ∀ (m : Nat) (k : Int), (marksR k m).length = m
 | 0, _ => rfl
 | m + 1, k => by simp [marksR, zB6 m]
theorem zHE : ∀ (m : Nat) (k : Int) (i : Nat), i < m → (marksR k m)[i]? = some (mrow (k + 8 * i))
 | 0, k, i, h => by omega
 | m + 1, k, 0, h => by simp [marksR]
 | m + 1, k, i + 1, h => by
  simp only [marksR, List.getElem?_cons_succ]; rw [zHE m _ _ (by omega)]; congr 2; omega
theorem zJA (k : Int) (hk : 0 ≤ k) (hk' : k < 4000000000) (i : Nat) : ∀ c : Nat, c ≤ 8 → ∀ (L : List (List Int)) (hi : i < L.length), L[i].length = 8 → L[i].take c = (mrow k).take c →
  R jw [tLA8 L, tI (k + c), tI (i : Int), tI (c : Int)] = some [tI 0, tLA8 (L.set i (mrow k)), tI (k + 8), tI (i : Int)] := by
 refine zm _ (fun L hi h1 h2 => ?_) (fun c hc ih L hi h1 h2 => ?_)
 · apply zD0; have h3 : L[i] = mrow k := by
    rw [List.take_of_length_le (by omega), List.take_of_length_le (by rw [zO7]; omega)] at h2; exact h2
   have h4 : L.set i (mrow k) = L := by rw [← h3, List.set_getElem_self]
   rw [h4]; simp [zAC]
 · apply zD0; simp (disch := omega) only [zAC, decide_eq_true, cond_true, Bool.and_true, Int.toNat_natCast, zF, zMh hi]; rw [show k + (c : Int) + 1 = k + ((c + 1 : Nat) : Int) by omega, show (c : Int) + 1 = ((c + 1 : Nat) : Int) by omega]; rw [ih (L.set i (L[i].set c (wu8 (k + c)))) (by simp; exact hi) (by simp [h1]) (by
    simp only [List.getElem_set_self]; rw [List.take_add_one, List.take_add_one, List.take_set_of_le (Nat.le_refl _), h2, zO8 k hc]; simp [h1, hc])]
   rw [List.set_set]
theorem zJB (k : Int) (m : Nat) (hk : 0 ≤ k) (hk' : k + 8 * m < 1000000000) : ∀ i, i ≤ m → ∀ L : List (List Int), L.length = m → Len8 L → L.take i = (marksR k m).take i →
  R jx [tLA8 L, tI (k + 8 * i), tI (i : Int)] = some [tI 0, tLA8 (marksR k m), tI (k + 8 * m)] := by
 refine zm _ (fun L h1 h8 h2 => ?_) (fun i hi ih L h1 h8 h2 => ?_)
 · apply zD1; have h3 : L = marksR k m := by
    rw [List.take_of_length_le (by omega), List.take_of_length_le (by rw [zB6]; omega)] at h2; exact h2
   subst h3; simp [zAD, zB6]
 · have hi' : i < L.length := by omega
   have h5 := zJA (k + 8 * i) (by omega) (by omega) i 0 (by omega) L hi' (h8.at hi') rfl; simp only [Int.natCast_zero, Int.add_zero] at h5; apply zD1; simp (disch := omega) only [zAD, decide_eq_true, cond_true, h5, Option.bind_some, getTV_here, getTV_next, zF]; rw [show k + 8 * (i : Int) + 8 = k + 8 * ((i + 1 : Nat) : Int) by omega, show (i : Int) + 1 = ((i + 1 : Nat) : Int) by omega]
   refine ih _ (by simp [h1]) (fun x hx => ?_) ?_
   · rcases List.mem_or_eq_of_mem_set hx with hx | rfl
     · exact h8 x hx
     · exact zO7 _
   · rw [List.take_add_one, List.take_add_one, List.take_set_of_le (Nat.le_refl _), h2, zHE m k i hi]; simp [hi']
theorem zGs (L : List (List Int)) (k : Int) (h8 : Len8 L) (hk : 0 ≤ k) (hk' : k + 8 * L.length < 1000000000) : R zA1 [tLA8 L, tI k] = some [tI (k + 8 * L.length), tLA8 (marksR k L.length)] := by
 apply zJa; have h := zJB k L.length hk hk' 0 (Nat.zero_le _) L rfl h8 rfl; simp only [Int.natCast_zero, Int.mul_zero, Int.add_zero] at h; simp only [zDE, h, Option.bind_some, getTV_here, getTV_next]
theorem zMw (v : Int × Int × List (List Int)) (k : Int) (h8 : Len8 v.2.2) (hk : 0 ≤ k) (hk' : k + 8 * v.2.2.length < 1000000000) : R zDi [zA v, tI k] = some [tI (k + 8 * v.2.2.length), zA (v.1, v.2.1, marksR k v.2.2.length)] := by
 apply zKj; simp only [zDu, zGs v.2.2 k h8 hk hk', Option.bind_some, getTV_here, getTV_next]
theorem zJI (k : Int) (m : Nat) (hk : 0 ≤ k) (hk' : k + 8 * m < 1000000000) (i : Nat) (hi : i < m) : ∀ c : Nat, c ≤ 8 →
  R jz [tLA8 (marksR k m), tI (k + 8 * i + c), tI (i : Int), tI (c : Int)] = some [tI 0, tLA8 (marksR k m), tI (k + 8 * i + 8), tI (i : Int)] := by
 refine zm _ ?_ (fun c hc ih => ?_)
 · apply zD3; simp [zAF]
 · apply zD3; have l0 := zB6 m k; have e : List.getD (List.getD (marksR k m) i []) c 0 = wu8 (k + 8 * i + c) := by
    have h1 : List.getD (marksR k m) i [] = mrow (k + 8 * i) := by
     rw [List.getD_eq_getElem?_getD, zHE m k i hi]
     rfl
    rw [h1, List.getD_eq_getElem?_getD, zO8 _ hc]
    rfl
   simp (disch := omega) only [zAF, decide_eq_true, cond_true, cond_false, Bool.and_true, Int.toNat_natCast, l0, e, bne_self_eq_false, zF]; rw [show k + 8 * (i : Int) + (c : Int) + 1 = k + 8 * (i : Int) + ((c + 1 : Nat) : Int) by omega, show (c : Int) + 1 = ((c + 1 : Nat) : Int) by omega]; exact ih
theorem zJJ (k : Int) (m : Nat) (hk : 0 ≤ k) (hk' : k + 8 * m < 1000000000) : ∀ i, i ≤ m → R zAA [tLA8 (marksR k m), tI (k + 8 * i), tI (i : Int)] = some [tI 0, tI (k + 8 * m)] := by
 refine zm _ ?_ (fun i hi ih => ?_)
 · apply zD4; simp [zAG, zB6]
 · have h5 := zJI k m hk hk' i hi 0 (by omega); simp only [Int.natCast_zero, Int.add_zero] at h5; have l0 := zB6 m k; apply zD4; simp (disch := omega) only [zAG, l0, decide_eq_true, cond_true, h5, Option.bind_some, getTV_here, getTV_next, beq_self_eq_true, zF]; rw [show k + 8 * (i : Int) + 8 = k + 8 * ((i + 1 : Nat) : Int) by omega, show (i : Int) + 1 = ((i + 1 : Nat) : Int) by omega]; exact ih
theorem zLX (k : Int) (m : Nat) (hk : 0 ≤ k) (hk' : k + 8 * m < 1000000000) : R zC7 [tLA8 (marksR k m), tI k] = some [tI (k + 8 * m)] := by
 apply zJc; have h := zJJ k m hk hk' 0 (Nat.zero_le _); simp only [Int.natCast_zero, Int.mul_zero, Int.add_zero] at h; simp [zDG, h]
theorem zSv {L : List (List Int)} (h : Fit (.slice (.arr .u8 8)) L) : L.length ≤ 9223372036854775807 ∧ Len8 L ∧ ∀ x ∈ L, ∀ y ∈ x, 0 ≤ y ∧ y ≤ 255 :=
 ⟨h.1, fun x hx => (h.2 x hx).1, fun x hx y hy => zVR ((h.2 x hx).2 y hy)⟩
end Go.Ev.YtmdkgikjnaijeaaGreat
