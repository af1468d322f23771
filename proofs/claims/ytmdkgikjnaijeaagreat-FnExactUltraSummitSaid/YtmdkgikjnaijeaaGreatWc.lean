/- Texts merged: Mn6 Mn7 Mn8 Mn9. -/
import Derived.Test.YtmdkgikjnaijeaaGreatWb
import Derived.Test.YtmdkgikjnaijeaaGreatWa
set_option linter.unusedVariables false
set_option linter.unusedSimpArgs false
namespace Go.Ev.YtmdkgikjnaijeaaGreat
open Go.Ev Go.Gar
theorem zO9 {n : Nat} (h2 : 2 ≤ n) (p : Int) (l : List (Pm n)) : (mk p l).2.length ≤ l.length := by
 obtain ⟨j, _, hP, hl⟩ := Lat.norm_spec (kw h2) (allS l); simp only [mk]; omega
def limV (v : Int × Int × List (List Int)) : (Int × Int × List (List Int)) × Int := if -200 ≤ v.2.1 ∧ v.2.1 ≤ 200 ∧ v.2.2.length ≤ 200 then (v, 0) else ((0, 0, []), 3)
theorem zMx (v : Int × Int × List (List Int)) : R zHI [zA v] = some [zA (limV v).1, tI (limV v).2] := by
 apply zPu; simp only [zHX, zLM, Option.bind_some, getTV_here, limV]
 by_cases h1 : -200 ≤ v.2.1
 · by_cases h2 : v.2.1 ≤ 200
   · by_cases h3 : v.2.2.length ≤ 200
     · have h4 : ¬ ((200 : Int) < (v.2.2.length : Int)) := by omega
       simp [h1, h2, h3, h4]
     · have h4 : ((200 : Int) < (v.2.2.length : Int)) := by omega
       simp [h1, h2, h3, h4]
   · simp [h1, h2]
 · simp [h1]
theorem zS8 (v : Int × Int × List (List Int)) : R zIr [zA v] = some [zA (limV v).1, tI (limV v).2] := by
 apply zQp; simp only [zJP, zOX, Option.bind_some, getTV_here, limV]
 by_cases h1 : -200 ≤ v.2.1
 · by_cases h2 : v.2.1 ≤ 200
   · by_cases h3 : v.2.2.length ≤ 200
     · have h4 : ¬ ((200 : Int) < (v.2.2.length : Int)) := by omega
       simp [h1, h2, h3, h4]
     · have h4 : ((200 : Int) < (v.2.2.length : Int)) := by omega
       simp [h1, h2, h3, h4]
   · simp [h1, h2]
 · simp [h1]
theorem sL_8 {n : Nat} (l : List (Pm n)) : Len8 (sL l) := fun x hx => by
 obtain ⟨s, _, rfl⟩ := List.mem_map.1 hx; exact zRE s
end Go.Ev.YtmdkgikjnaijeaaGreat
namespace Go.Ev.YtmdkgikjnaijeaaGreat
open Go.Ev Go.Gar
open Classical in
noncomputable def isSm (n : Int) (a : List Int) : Bool := decide (1 ≤ n) && decide (n ≤ 8) && decide (∃ s : Pm n.toNat, a = sA s)
theorem zRz (n : Nat) (hn : n ≤ 8) (a : List Int) (ha : B8 a) : ∀ (k : Nat) (met : List Bool), k ≤ 8 → met.length = 8 →
  R zDU [tA8 a, tAB8 met, tI (n : Int), tI ((8 - k : Nat) : Int)] = some (if chk n a k met then [tI 0] else [tI 1, tB false]) := by
 intro k
 induction k with
 | zero =>
  intro met _ _; apply zJ0; simp [zE4, chk]
 | succ k ih =>
  intro met hk hm; have hb := (ha.at (show 7 - k < 8 by omega)).2; have e : 8 - (k + 1) = 7 - k := by omega
  apply zJ0; rw [e]; unfold chk; have e1 : wi64 (((7 - k : Nat) : Int) + 1) = ((8 - k : Nat) : Int) := by rw [zF] <;> omega
  have e2 : wi64 (List.getD a (7 - k) 0) = List.getD a (7 - k) 0 := zF (by omega) (by omega); simp (disch := omega) only [zE4, decide_eq_true, cond_true, Bool.and_true, Int.toNat_natCast, e1, e2]
  by_cases h : n ≤ 7 - k
  · have h' : ((n : Int) ≤ ((7 - k : Nat) : Int)) := by omega
    rw [decide_eq_true h', cond_true, if_pos h, ih met (by omega) hm]
    by_cases h2 : List.getD a (7 - k) 0 = 0
    · simp only [h2, bne_self_eq_false, cond_false, beq_self_eq_true, Bool.true_and]
    · have h3 : (List.getD a (7 - k) 0 == 0) = false := by rw [zDz, decide_eq_false h2]
      have h4 : (List.getD a (7 - k) 0 != 0) = true := by rw [kQ, decide_eq_false h2]; rfl
      rw [h3, h4]; simp
  · have h' : ¬ ((n : Int) ≤ ((7 - k : Nat) : Int)) := by omega
    rw [decide_eq_false h', cond_false, if_neg h]
    by_cases h2 : (n : Int) ≤ List.getD a (7 - k) 0
    · have h3 : ¬ (List.getD a (7 - k) 0 < (n : Int)) := by omega
      rw [decide_eq_true h2, cond_true, decide_eq_false h3]; simp
    · have h3 : (List.getD a (7 - k) 0 < (n : Int)) := by omega
      rw [decide_eq_false h2, cond_false, decide_eq_true h3, Bool.true_and]; have e3 : List.getD a (7 - k) 0 < 8 := by omega
      rw [decide_eq_true e3, cond_true]
      cases h4 : List.getD met (List.getD a (7 - k) 0).toNat false with
      | true => simp
      | false =>
       rw [cond_false, cond_true, ih _ (by omega) (by simp [hm])]; simp
theorem zUg (n : Int) (a : List Int) (ha : B8 a) : R zLB [tA8 a, tI n] = some [tB (isSm n a)] := by
 apply zSN; simp only [zLk, zOX, Option.bind_some, getTV_here, isSm]
 by_cases h1 : 1 ≤ n ∧ n ≤ 8
 · obtain ⟨m, rfl⟩ : ∃ m : Nat, n = m := ⟨n.toNat, by omega⟩; have h := zRz m (by omega) a ha 8 (List.replicate 8 false) (by omega) (by simp); have hc := zTZ (n := m) (by omega) ha; simp only [Nat.sub_self, Int.natCast_zero] at h; simp only [h1, decide_true, Bool.and_self, Bool.not_true, cond_false, h, Option.bind_some, Int.toNat_natCast, Bool.true_and]
   by_cases h2 : chk m a 8 (List.replicate 8 false) = true
   · have h3 := hc.1 h2; rw [if_pos h2]; simp [h3]
   · have h3 : ¬ ∃ s : Pm m, a = sA s := fun h => h2 (hc.2 h); rw [if_neg h2]; simp [h3]
 · have e : (decide (1 ≤ n) && decide (n ≤ 8)) = false := by simp; omega
   simp [e]
theorem zNA (n : Nat) (hn : n ≤ 8) (a : List Int) (ha : B8 a) : ∀ (k : Nat) (met : List Bool), k ≤ 8 → met.length = 8 →
  R zAd [tAB8 met, tI (n : Int), tA8 a, tI ((8 - k : Nat) : Int)] = some (if chk n a k met then [tI 0] else [tI 1, tB false]) := by
 intro k
 induction k with
 | zero =>
  intro met _ _; apply zGH; simp [zB1, chk]
 | succ k ih =>
  intro met hk hm; have hb := (ha.at (show 7 - k < 8 by omega)).2; have e : 8 - (k + 1) = 7 - k := by omega
  apply zGH; rw [e]; unfold chk; have e1 : wi64 (((7 - k : Nat) : Int) + 1) = ((8 - k : Nat) : Int) := by rw [zF] <;> omega
  have e2 : wi64 (List.getD a (7 - k) 0) = List.getD a (7 - k) 0 := zF (by omega) (by omega); simp (disch := omega) only [zB1, decide_eq_true, cond_true, Bool.and_true, Int.toNat_natCast, e1, e2]
  by_cases h : n ≤ 7 - k
  · have h' : ((n : Int) ≤ ((7 - k : Nat) : Int)) := by omega
    rw [decide_eq_true h', cond_true, if_pos h, ih met (by omega) hm]
    by_cases h2 : List.getD a (7 - k) 0 = 0
    · simp only [h2, bne_self_eq_false, cond_false, beq_self_eq_true, Bool.true_and]
    · have h3 : (List.getD a (7 - k) 0 == 0) = false := by rw [zDz, decide_eq_false h2]
      have h4 : (List.getD a (7 - k) 0 != 0) = true := by rw [kQ, decide_eq_false h2]; rfl
      rw [h3, h4]; simp
  · have h' : ¬ ((n : Int) ≤ ((7 - k : Nat) : Int)) := by omega
    rw [decide_eq_false h', cond_false, if_neg h]
    by_cases h2 : (n : Int) ≤ List.getD a (7 - k) 0
    · have h3 : ¬ (List.getD a (7 - k) 0 < (n : Int)) := by omega
      rw [decide_eq_true h2, cond_true, decide_eq_false h3]; simp
    · have h3 : (List.getD a (7 - k) 0 < (n : Int)) := by omega
      rw [decide_eq_false h2, cond_false, decide_eq_true h3, Bool.true_and]; have e3 : List.getD a (7 - k) 0 < 8 := by omega
      rw [decide_eq_true e3, cond_true]
      cases h4 : List.getD met (List.getD a (7 - k) 0).toNat false with
      | true => simp
      | false =>
       rw [cond_false, cond_true, ih _ (by omega) (by simp [hm])]; simp
theorem zQi (n : Int) (a : List Int) (ha : B8 a) : R zFp [tA8 a, tI n] = some [tB (isSm n a)] := by
 apply zNc; simp only [zF9, zM3, Option.bind_some, getTV_here, isSm]
 by_cases h1 : 1 ≤ n ∧ n ≤ 8
 · obtain ⟨m, rfl⟩ : ∃ m : Nat, n = m := ⟨n.toNat, by omega⟩; have h := zNA m (by omega) a ha 8 (List.replicate 8 false) (by omega) (by simp); have hc := zTZ (n := m) (by omega) ha; simp only [Nat.sub_self, Int.natCast_zero] at h; simp only [h1, decide_true, Bool.and_self, Bool.not_true, cond_false, h, Option.bind_some, Int.toNat_natCast, Bool.true_and]
   by_cases h2 : chk m a 8 (List.replicate 8 false) = true
   · have h3 := hc.1 h2; rw [if_pos h2]; simp [h3]
   · have h3 : ¬ ∃ s : Pm m, a = sA s := fun h => h2 (hc.2 h); rw [if_neg h2]; simp [h3]
 · have e : (decide (1 ≤ n) && decide (n ≤ 8)) = false := by simp; omega
   simp [e]
def WdAt {n : Nat} (a b : Pm n) (p : Nat) : Prop := b.f (p + 1) < b.f p → ¬ a.g p < a.g (p + 1)
theorem zLs {n : Nat} (a b : Pm n) : Pm.meet (a⁻¹ * Pm.half n) b = 1 ↔ ∀ p, p + 1 < n → WdAt a b p := by
 constructor
 · intro h p hp h1 h2; have g := Pm.meet_greedy (a⁻¹ * Pm.half n) b; rw [h] at g; refine g.stop p hp (by simp) ⟨?_, h1⟩; simp only [Pm.one_g, Pm.mul_f, Pm.inv_f, Pm.half_f]; exact Pm.hf_anti h2 (a.lt_g hp)
 · intro h; refine (Pm.Greedy.eq ⟨Pm.one_le _, Pm.one_le _, fun p hp _ h1 => ?_⟩).symm; simp only [Pm.one_g, Pm.mul_f, Pm.inv_f, Pm.half_f] at h1; refine h p hp h1.2 ?_
   rcases Pm.hf_rev h1.1 with h2 | h2
   · exact h2
   · have := a.lt_g (show p < n by omega); omega
theorem zJE (n : Nat) (hn : n ≤ 8) (a b : Pm n) : ∀ (d p : Nat), p + d = n →
  (∀ q, q < p → q + 1 < n → WdAt a b q) →
  R jB [tA8 (sA b), tA8 (sA a⁻¹), tI (n : Int), tI ((p + 1 : Nat) : Int)] = some (if Pm.meet (a⁻¹ * Pm.half n) b = 1 then [tI 0] else [tI 1, tB false]) := by
 intro d
 induction d with
 | zero =>
  intro p hp h; apply zD6; have h1 : ¬ (((p + 1 : Nat) : Int) < (n : Int)) := by omega
  rw [if_pos ((zLs a b).2 fun q hq => h q (by omega) hq)]; simp only [jF, decide_eq_false h1, cond_false]
 | succ d ih =>
  intro p hp h; apply zD6
  by_cases h0 : p + 1 < n
  · have e1 := zLr (p := p) (by omega); have g0 := jA (s := a⁻¹) (x := p) (by omega) hn; have g1 := jA (s := a⁻¹) (x := p + 1) h0 hn; simp only [Pm.inv_f] at g0 g1; simp (disch := omega) only [jF, e1, decide_eq_true, cond_true, Bool.and_true, Int.toNat_natCast, jA, g0, g1, jL]
    by_cases h1 : b.f (p + 1) < b.f p
    · have d1 : ((b.f (p + 1) : Int) < (b.f p : Int)) := by omega
      rw [decide_eq_true d1, cond_true]
      by_cases h2 : a.g p < a.g (p + 1)
      · have d2 : ((a.g p : Int) < (a.g (p + 1) : Int)) := by omega
        rw [decide_eq_true d2, cond_true, if_neg (fun hm => (zLs a b).1 hm p h0 h1 h2)]
      · have d2 : ¬ ((a.g p : Int) < (a.g (p + 1) : Int)) := by omega
        rw [decide_eq_false d2, cond_false]; exact ih (p + 1) (by omega) (fun q hq hq2 => by
         by_cases h3 : q = p
         · subst h3; exact fun _ => h2
         · exact h q (by omega) hq2)
    · have d1 : ¬ ((b.f (p + 1) : Int) < (b.f p : Int)) := by omega
      rw [decide_eq_false d1, cond_false]; exact ih (p + 1) (by omega) (fun q hq hq2 => by
       by_cases h3 : q = p
       · subst h3; exact fun h => (h1 h).elim
       · exact h q (by omega) hq2)
  · have h1 : ¬ (((p + 1 : Nat) : Int) < (n : Int)) := by omega
    rw [if_pos ((zLs a b).2 fun q hq => h q (by omega) hq)]; simp only [jF, decide_eq_false h1, cond_false]
theorem zLU (n : Nat) (hn : n ≤ 8) (a b : Pm n) : R zC8 [tA8 (sA a), tA8 (sA b), tI (n : Int)] = some [tB (decide (Pm.meet (a⁻¹ * Pm.half n) b = 1))] := by
 apply zJf; have h := zJE n hn a b n 0 (by omega) (fun q h => by omega); simp only [zDJ, zGu n hn, Option.bind_some, getTV_here]; rw [show (1 : Int) = ((0 + 1 : Nat) : Int) from rfl, h]; by_cases h1 : Pm.meet (a⁻¹ * Pm.half n) b = 1 <;> simp [h1]
theorem zPf (n p : Nat) (hp : p + 1 < n) (hn : n ≤ 8) (s : Pm n) : R zGi [tA8 (sA s), tI ((p + 1 : Nat) : Int)] = some [tB (decide (s.f (p + 1) < s.f p))] := by
 apply zQv; have e1 := zLr (p := p) (by omega); simp (disch := omega) only [zJV, e1, decide_eq_true, cond_true, Bool.and_true, Int.toNat_natCast, jA]
 by_cases h : s.f (p + 1) < s.f p
 · have d1 : ((s.f (p + 1) : Int) < (s.f p : Int)) := by omega
   rw [decide_eq_true h, decide_eq_true d1]
 · have d1 : ¬ ((s.f (p + 1) : Int) < (s.f p : Int)) := by omega
   rw [decide_eq_false h, decide_eq_false d1]
def begL {n : Nat} (s : Pm n) : Nat → List Int
 | 0 => []
 | d + 1 => if s.f (n - d) < s.f (n - (d + 1)) ∧ n - d < n then ((n - d : Nat) : Int) :: begL s d else begL s d
theorem zLe (n : Nat) (hn : n ≤ 8) (s : Pm n) : ∀ (d : Nat), d ≤ n → ∀ out : List Int, out.length + d ≤ 100 →
  R jl [tA8 (sA s), tLI out, tI (n : Int), tI ((n - d + 1 : Nat) : Int)] = some [tI 0, tLI (out ++ begL s d)] := by
 intro d
 induction d with
 | zero =>
  intro _ out _; apply zFG; have h1 : ¬ (((n - 0 + 1 : Nat) : Int) < (n : Int)) := by omega
  simp only [jt, decide_eq_false h1, cond_false, begL, List.append_nil]
 | succ d ih =>
  intro hd out ho; apply zFG; have e0 : n - (d + 1) + 1 = n - d := by omega
  by_cases h0 : n - (d + 1) + 1 < n
  · have hb := zPf n (n - (d + 1)) h0 hn s; simp (disch := omega) only [jt, decide_eq_true, cond_true, hb, Option.bind_some, getTV_here, zJx, zF]; rw [e0, show ((n - d : Nat) : Int) + 1 = ((n - d + 1 : Nat) : Int) by omega]; unfold begL
    by_cases h : s.f (n - d) < s.f (n - (d + 1))
    · rw [decide_eq_true h, cond_true, if_pos ⟨h, by omega⟩, ih (by omega) _ (by simp; omega)]; simp only [List.append_assoc, List.cons_append, List.nil_append]
    · rw [decide_eq_false h, cond_false, if_neg (fun h2 => h h2.1), ih (by omega) _ (by omega)]
  · have h1 : ¬ (((n - (d + 1) + 1 : Nat) : Int) < (n : Int)) := by omega
    have hd0 : d = 0 := by omega
    subst hd0; simp only [jt, decide_eq_false h1, cond_false]; unfold begL; rw [if_neg (fun h2 => absurd h2.2 (by simp))]; simp [begL]
theorem zOe (n : Nat) (hn : n ≤ 8) (s : Pm n) : R zEW [tA8 (sA s), tI (n : Int)] = some [tLI (begL s n)] := by
 apply zL4; have h := zLe n hn s n (Nat.le_refl _) [] (by simp; omega); simp only [Nat.sub_self, List.nil_append] at h; rw [show ((0 + 1 : Nat) : Int) = 1 from rfl] at h; simp only [zEn, h, Option.bind_some, getTV_here, getTV_next]
theorem zIN {n : Nat} (s : Pm n) : ∀ (d : Nat), d ≤ n → ∀ x : Int, x ∈ begL s d ↔ ∃ p, n - d ≤ p ∧ p + 1 < n ∧ s.f (p + 1) < s.f p ∧ x = ((p + 1 : Nat) : Int)
 | 0, _, x => by
  simp only [begL, List.not_mem_nil, false_iff]; rintro ⟨p, h1, h2, _⟩; omega
 | d + 1, hd, x => by
  have ih := zIN s d (by omega) x; unfold begL
  by_cases h : s.f (n - d) < s.f (n - (d + 1)) ∧ n - d < n
  · rw [if_pos h, List.mem_cons, ih]; clear ih
    constructor
    · rintro (rfl | ⟨p, h1, h2, h3⟩)
      · refine ⟨n - (d + 1), Nat.le_refl _, by omega, ?_, by omega⟩; rw [show n - (d + 1) + 1 = n - d by omega]; exact h.1
      · exact ⟨p, by omega, h2, h3⟩
    · rintro ⟨p, h1, h2, h3, rfl⟩
      by_cases h4 : p = n - (d + 1)
      · left; omega
      · right; exact ⟨p, by omega, h2, h3, rfl⟩
  · rw [if_neg h, ih]; clear ih
    constructor
    · rintro ⟨p, h1, h2, h3⟩; exact ⟨p, by omega, h2, h3⟩
    · rintro ⟨p, h1, h2, h3, h4⟩
      by_cases h5 : p = n - (d + 1)
      · exfalso; subst h5; rw [show n - (d + 1) + 1 = n - d by omega] at h2 h3; exact h ⟨h3, h2⟩
      · exact ⟨p, by omega, h2, h3, h4⟩
theorem zPg {n : Nat} (s : Pm n) : ∀ (d : Nat), (begL s d).length ≤ d
 | 0 => by simp [begL]
 | d + 1 => by
  have := zPg s d; unfold begL
  split
  · simp; omega
  · omega
theorem zOa (n : Nat) (hn : n ≤ 8) (a : Pm n) (l : List Int) (hl : l.length ≤ 100) (hm : ∀ x ∈ l, ∃ p, p + 1 < n ∧ x = ((p + 1 : Nat) : Int)) : ∀ i, i ≤ l.length →
  ∃ o, R zCp [tA8 (sA a⁻¹), tLI l, tI (l.length : Int), tI (i : Int)] = some o ∧ ((o = [tI 0] ∧ ∀ p, ((p + 1 : Nat) : Int) ∈ l.drop i → ¬ a.g p < a.g (p + 1)) ∨ (o = [tI 1, tB false] ∧ ∃ p, p + 1 < n ∧ ((p + 1 : Nat) : Int) ∈ l.drop i ∧ a.g p < a.g (p + 1))) := by
 refine zm _ ?_ (fun i hi ih => ?_)
 · refine ⟨[tI 0], ?_, .inl ⟨rfl, fun p hp => by simp at hp⟩⟩; apply zEF; simp [zBb]
 · obtain ⟨p, hp, he⟩ := hm _ (List.getElem_mem hi); have hb := zPf n p hp hn a⁻¹; rw [← he] at hb; simp only [Pm.inv_f] at hb
   by_cases h : a.g (p + 1) < a.g p
   · obtain ⟨o, h1, h2⟩ := ih
     refine ⟨o, ?_, ?_⟩
     · apply zEF; simp (disch := omega) only [zBb, decide_eq_true, cond_true, Bool.and_true, Int.toNat_natCast, zRd hi, hb, Option.bind_some, getTV_here, Bool.not_true, cond_false, zF]; rw [show (i : Int) + 1 = ((i + 1 : Nat) : Int) by omega]; exact h1
     · rw [List.drop_eq_getElem_cons hi]
       rcases h2 with ⟨h3, h4⟩ | ⟨h3, q, h4, h5, h6⟩
       · refine .inl ⟨h3, fun q hq => ?_⟩
         rcases List.mem_cons.1 hq with h5 | h5
         · have : q = p := by omega
           subst this; omega
         · exact h4 q h5
       · exact .inr ⟨h3, q, h4, List.mem_cons_of_mem _ h5, h6⟩
   · have hne : a.g p ≠ a.g (p + 1) := fun h2 => by have := a.inj_g h2; omega
     refine ⟨[tI 1, tB false], ?_, .inr ⟨rfl, p, hp, ?_, by omega⟩⟩
     · apply zEF; simp (disch := omega) only [zBb, decide_eq_true, decide_eq_false h, cond_true, Bool.and_true, Int.toNat_natCast, zRd hi, hb, Option.bind_some, getTV_here, Bool.not_false]
     · rw [List.drop_eq_getElem_cons hi, he]; exact List.mem_cons_self
theorem zR1 (n : Nat) (hn : n ≤ 8) (a b : Pm n) : R zHJ [tA8 (sA a), tA8 (sA b), tI (n : Int)] = some [tB (decide (Pm.meet (a⁻¹ * Pm.half n) b = 1))] := by
 have hl := zPg b n; obtain ⟨o, h1, h2⟩ := zOa n hn a (begL b n) (by omega) (fun x hx => by
  obtain ⟨p, _, h3, _, h4⟩ := (zIN b n (Nat.le_refl _) x).1 hx; exact ⟨p, h3, h4⟩) 0 (Nat.zero_le _)
 simp only [Int.natCast_zero, List.drop_zero] at h1 h2; apply zPw; simp only [zHZ, zGv n hn, zOe n hn, Option.bind_some, getTV_here, h1]
 rcases h2 with ⟨rfl, h3⟩ | ⟨rfl, p, h3, h4, h5⟩
 · have : Pm.meet (a⁻¹ * Pm.half n) b = 1 := (zLs a b).2 fun p hp hb => h3 p ((zIN b n (Nat.le_refl _) _).2 ⟨p, by omega, hp, hb, rfl⟩)
   simp [this]
 · have : ¬ Pm.meet (a⁻¹ * Pm.half n) b = 1 := fun hm => by
    obtain ⟨q, _, q2, q3, q4⟩ := (zIN b n (Nat.le_refl _) _).1 h4; have : q = p := by omega
    subst this; exact (zLs a b).1 hm q h3 q3 h5
   simp [this]
end Go.Ev.YtmdkgikjnaijeaaGreat
namespace Go.Ev.YtmdkgikjnaijeaaGreat
open Go.Ev Go.Gar
theorem zS1 {p : Prop} {i : Decidable p} (h : ¬ p) : @decide p i = false := decide_eq_false h
theorem zUe {p : Prop} {i : Decidable p} (h : p) : @decide p i = true := decide_eq_true h
def Rows8 (L : List (List Int)) : Prop := ∀ x ∈ L, B8 x
theorem Rows8.at {L : List (List Int)} (h : Rows8 L) {i : Nat} (hi : i < L.length) : B8 L[i] := h _ (List.getElem_mem hi)
theorem Rows8.len8 {L : List (List Int)} (h : Rows8 L) : Len8 L := fun x hx => (h x hx).1
theorem zRB {n : Nat} (hn : n ≤ 8) (l : List (Pm n)) : Rows8 (sL l) := fun x hx => by
 obtain ⟨s, _, rfl⟩ := List.mem_map.1 hx; exact zVj hn s
theorem zTJ {n : Nat} (hn : n ≤ 8) : ∀ {l m : List (Pm n)}, sL l = sL m → l = m
 | [], [], _ => rfl
 | [], _ :: _, h => by simp [sL] at h
 | _ :: _, [], h => by simp [sL] at h
 | a :: l, b :: m, h => by
  simp only [sL, List.map_cons, List.cons.injEq] at h; rw [zOz hn h.1, zTJ hn h.2]
def Goes (n : Nat) (last : Option (Pm n)) (L : List (List Int)) : Prop := ∃ A : List (Pm n), L = sL A ∧ (Pm.lat n).Proper A ∧ ∀ a, last = some a → ∀ b, A.head? = some b → Pm.meet (a⁻¹ * Pm.half n) b = 1
theorem zMf {n : Nat} (hn : n ≤ 8) (last : Option (Pm n)) (s : Pm n) (L : List (List Int)) : Goes n last (sA s :: L) ↔ s ≠ 1 ∧ s ≠ Pm.half n ∧ (∀ a, last = some a → Pm.meet (a⁻¹ * Pm.half n) s = 1) ∧ Goes n (some s) L := by
 constructor
 · rintro ⟨A, h1, h2, h3⟩
   cases A with
   | nil => simp [sL] at h1
   | cons a A =>
    simp only [sL, List.map_cons, List.cons.injEq] at h1; have e := zOz hn h1.1; subst e; have hn := h2.no s List.mem_cons_self; refine ⟨hn.2, hn.1, fun a ha => h3 a ha s rfl, A, h1.2, ⟨h2.S.tail, h2.W.2, fun x hx => h2.no x (List.mem_cons_of_mem _ hx)⟩, fun a ha b hb => ?_⟩; simp only [Option.some.injEq] at ha; subst ha; exact h2.W.1 b hb
 · rintro ⟨h1, h2, h3, A, rfl, h5, h6⟩
   refine ⟨s :: A, rfl, ⟨allS _, ⟨fun b hb => h6 s rfl b hb, h5.W⟩, fun x hx => ?_⟩, fun a ha b hb => ?_⟩
   · rcases List.mem_cons.1 hx with rfl | hx
     · exact ⟨h2, h1⟩
     · exact h5.no x hx
   · simp only [List.head?_cons, Option.some.injEq] at hb; subst hb; exact h3 a ha
theorem zPN (n : Nat) (last : Option (Pm n)) : Goes n last [] := ⟨[], rfl, Lat.Proper.nil, fun _ _ b hb => by simp at hb⟩
theorem zPM {n : Nat} (last : Option (Pm n)) (a : List Int) (L : List (List Int)) (h : ¬ ∃ s : Pm n, a = sA s) : ¬ Goes n last (a :: L) := by
 rintro ⟨A, h1, _⟩
 cases A with
 | nil => simp [sL] at h1
 | cons s A =>
  simp only [sL, List.map_cons, List.cons.injEq] at h1; exact h ⟨s, h1.1⟩
open Classical in
noncomputable def goesB (n : Nat) (last : Option (Pm n)) (L : List (List Int)) : Bool := decide (Goes n last L)
theorem jQ {n : Nat} {last : Option (Pm n)} {L : List (List Int)} (h : ¬ Goes n last L) : goesB n last L = false := by
 unfold goesB; exact zS1 h
theorem zKF {n : Nat} {last : Option (Pm n)} {L : List (List Int)} (h : Goes n last L) : goesB n last L = true := by
 unfold goesB; exact zUe h
theorem zDr {n : Nat} {l l' : Option (Pm n)} {L L' : List (List Int)} (h : Goes n l L ↔ Goes n l' L') : goesB n l L = goesB n l' L' := by
 unfold goesB; exact decide_eq_decide.2 h
theorem zPI {n : Nat} (h1 : 1 ≤ n) (hn : n ≤ 8) (a : List Int) : isSm (n : Int) a = true ↔ ∃ s : Pm n, a = sA s := by
 unfold isSm; rw [Int.toNat_natCast, decide_eq_true (show (1 : Int) ≤ n by omega), decide_eq_true (show (n : Int) ≤ 8 by omega)]; simp
theorem zR7 {n : Nat} (s t : Pm n) (hn : n ≤ 8) : (sA s == sA t) = decide (s = t) := zG1 hn s t
theorem zRx (n : Nat) (h1 : 1 ≤ n) (hn : n ≤ 8) (x0 x1 : Int) (L : List (List Int)) (hL : Rows8 L) (hl : L.length ≤ 200) : ∀ (i : Nat), i ≤ L.length → ∀ last : Option (Pm n), (i = 0 → last = none) → (0 < i → ∃ a, last = some a ∧ List.getD L (i - 1) (List.replicate 8 0) = sA a) →
  R zB9 [tI x0, tI x1, tLA8 L, tI (n : Int), tI (i : Int)] = some (if goesB n last (L.drop i) then [tI 0] else [tI 1, tB false]) := by
 refine zm _ (fun last _ _ => ?_) (fun i hi ih last hl0 hl1 => ?_)
 · apply zJz; rw [List.drop_length, zKF (zPN n last), if_pos rfl]; simp [zE3]
 · have hB := hL.at hi; have hsm := zPI h1 hn L[i]; apply zJz; rw [List.drop_eq_getElem_cons hi]; simp (disch := omega) only [zE3, decide_eq_true, cond_true, Bool.and_true, Int.toNat_natCast, zMh hi, zUg _ _ hB, Option.bind_some, getTV_here, jR n hn, zEc n hn]
   cases hs : isSm (n : Int) L[i] with
   | false =>
    have : ¬ ∃ s : Pm n, L[i] = sA s := fun h => by rw [hsm.2 h] at hs; simp at hs
    rw [jQ (zPM last _ _ this)]; simp
   | true =>
    obtain ⟨s, he⟩ := hsm.1 hs; have ih' := ih (some s) (by omega) (fun _ => ⟨s, rfl, by rw [Nat.add_sub_cancel, zMh hi, he]⟩); have hg := zMf hn last s (L.drop (i + 1)); rw [he]; simp only [Bool.not_true, cond_false, zR7 _ _ hn]
    by_cases e1 : s = 1
    · have : ¬ Goes n last (sA s :: L.drop (i + 1)) := fun h => (hg.1 h).1 e1; rw [jQ this, decide_eq_true e1, cond_true]; simp
    · by_cases e2 : s = Pm.half n
      · have : ¬ Goes n last (sA s :: L.drop (i + 1)) := fun h => (hg.1 h).2.1 e2; rw [decide_eq_false e1, decide_eq_true e2, cond_false, cond_true, jQ this]; simp
      · rw [decide_eq_false e1, decide_eq_false e2, cond_false, cond_false]; have e3 : wi64 ((i : Int) + 1) = ((i + 1 : Nat) : Int) := by rw [zF] <;> omega
        by_cases h0 : 0 < i
        · obtain ⟨a, q1, q2⟩ := hl1 h0; subst q1; have d1 : ((0 : Int) < (i : Int)) := by omega
          have e4 : wi64 ((i : Int) - 1) = ((i - 1 : Nat) : Int) := by rw [zF] <;> omega
          have e5 : (decide ((0 : Int) ≤ ((i - 1 : Nat) : Int)) && decide (((i - 1 : Nat) : Int) < ((L.length : Nat) : Int))) = true := by
           rw [decide_eq_true (by omega), decide_eq_true (by omega)]; rfl
          simp only [decide_eq_true d1, cond_true, e4, e5, Int.toNat_natCast, q2, zLU n hn, Option.bind_some, getTV_here, e3]
          by_cases e6 : Pm.meet (a⁻¹ * Pm.half n) s = 1
          · have : Goes n (some a) (sA s :: L.drop (i + 1)) ↔ Goes n (some s) (L.drop (i + 1)) := by
             rw [hg]
             constructor
             · exact fun h => h.2.2.2
             · exact fun h => ⟨e1, e2, fun a' ha => by simp only [Option.some.injEq] at ha; subst ha; exact e6, h⟩
            rw [decide_eq_true e6, Bool.not_true, cond_false, ih', zDr this]
          · have : ¬ Goes n (some a) (sA s :: L.drop (i + 1)) := fun h => e6 ((hg.1 h).2.2.1 a rfl); rw [decide_eq_false e6, Bool.not_false, cond_true, jQ this]; simp
        · have q1 := hl0 (by omega); subst q1; have d1 : ¬ ((0 : Int) < (i : Int)) := by omega
          have : Goes n none (sA s :: L.drop (i + 1)) ↔ Goes n (some s) (L.drop (i + 1)) := by
           rw [hg]
           constructor
           · exact fun h => h.2.2.2
           · exact fun h => ⟨e1, e2, fun a' ha => by simp at ha, h⟩
          simp only [decide_eq_false d1, cond_false, e3, ih']; rw [zDr this]
theorem zNB (n : Nat) (h1 : 1 ≤ n) (hn : n ≤ 8) (x0 x1 : Int) (L : List (List Int)) (hL : Rows8 L) (hl : L.length ≤ 200) : ∀ (i : Nat), i ≤ L.length → ∀ last : Option (Pm n), (i = 0 → last = none) → (0 < i → ∃ a, last = some a ∧ List.getD L (i - 1) (List.replicate 8 0) = sA a) →
  R jb [tI x0, tI x1, tLA8 L, tI (n : Int), tI (L.length : Int), tI (i : Int)] = some (if goesB n last (L.drop i) then [tI 0] else [tI 1, tB false]) := by
 refine zm _ (fun last _ _ => ?_) (fun i hi ih last hl0 hl1 => ?_)
 · apply zGI; rw [List.drop_length, zKF (zPN n last), if_pos rfl]; simp [zB2]
 · have hB := hL.at hi; have hsm := zPI h1 hn L[i]; apply zGI; rw [List.drop_eq_getElem_cons hi]; simp (disch := omega) only [zB2, decide_eq_true, cond_true, Bool.and_true, Int.toNat_natCast, zMh hi, zQi _ _ hB, Option.bind_some, getTV_here, jp n hn, zDY n hn]
   cases hs : isSm (n : Int) L[i] with
   | false =>
    have : ¬ ∃ s : Pm n, L[i] = sA s := fun h => by rw [hsm.2 h] at hs; simp at hs
    rw [jQ (zPM last _ _ this)]; simp
   | true =>
    obtain ⟨s, he⟩ := hsm.1 hs; have ih' := ih (some s) (by omega) (fun _ => ⟨s, rfl, by rw [Nat.add_sub_cancel, zMh hi, he]⟩); have hg := zMf hn last s (L.drop (i + 1)); rw [he]; simp only [Bool.not_true, cond_false, zR7 _ _ hn]
    by_cases e1 : s = 1
    · have : ¬ Goes n last (sA s :: L.drop (i + 1)) := fun h => (hg.1 h).1 e1; rw [jQ this, decide_eq_true e1, cond_true]; simp
    · by_cases e2 : s = Pm.half n
      · have : ¬ Goes n last (sA s :: L.drop (i + 1)) := fun h => (hg.1 h).2.1 e2; rw [decide_eq_false e1, decide_eq_true e2, cond_false, cond_true, jQ this]; simp
      · rw [decide_eq_false e1, decide_eq_false e2, cond_false, cond_false]; have e3 : wi64 ((i : Int) + 1) = ((i + 1 : Nat) : Int) := by rw [zF] <;> omega
        by_cases h0 : 0 < i
        · obtain ⟨a, q1, q2⟩ := hl1 h0; subst q1; have d1 : ((0 : Int) < (i : Int)) := by omega
          have e4 : wi64 ((i : Int) - 1) = ((i - 1 : Nat) : Int) := by rw [zF] <;> omega
          have e5 : (decide ((0 : Int) ≤ ((i - 1 : Nat) : Int)) && decide (((i - 1 : Nat) : Int) < ((L.length : Nat) : Int))) = true := by
           rw [decide_eq_true (by omega), decide_eq_true (by omega)]; rfl
          simp only [decide_eq_true d1, cond_true, e4, e5, Int.toNat_natCast, q2, zR1 n hn, Option.bind_some, getTV_here, e3]
          by_cases e6 : Pm.meet (a⁻¹ * Pm.half n) s = 1
          · have : Goes n (some a) (sA s :: L.drop (i + 1)) ↔ Goes n (some s) (L.drop (i + 1)) := by
             rw [hg]
             constructor
             · exact fun h => h.2.2.2
             · exact fun h => ⟨e1, e2, fun a' ha => by simp only [Option.some.injEq] at ha; subst ha; exact e6, h⟩
            rw [decide_eq_true e6, Bool.not_true, cond_false, ih', zDr this]
          · have : ¬ Goes n (some a) (sA s :: L.drop (i + 1)) := fun h => e6 ((hg.1 h).2.2.1 a rfl); rw [decide_eq_false e6, Bool.not_false, cond_true, jQ this]; simp
        · have q1 := hl0 (by omega); subst q1; have d1 : ¬ ((0 : Int) < (i : Int)) := by omega
          have : Goes n none (sA s :: L.drop (i + 1)) ↔ Goes n (some s) (L.drop (i + 1)) := by
           rw [hg]
           constructor
           · exact fun h => h.2.2.2
           · exact fun h => ⟨e1, e2, fun a' ha => by simp at ha, h⟩
          simp only [decide_eq_false d1, cond_false, e3, ih']; rw [zDr this]
def IsNm (v : Int × Int × List (List Int)) : Prop := ∃ (n : Nat) (w : Nm n), 1 ≤ n ∧ n ≤ 8 ∧ OkN w 200 ∧ v = enc w
open Classical in
noncomputable def isNm (v : Int × Int × List (List Int)) : Bool := decide (IsNm v)
theorem zIL (n : Nat) (h1 : 1 ≤ n) (hn : n ≤ 8) (p : Int) (L : List (List Int)) (hp : -200 ≤ p ∧ p ≤ 200) (hL : L.length ≤ 200) (h2 : n = 1 → p = 0) : IsNm ((n : Int), p, L) ↔ Goes n none L := by
 constructor
 · rintro ⟨m, w, _, _, hw, he⟩; simp only [enc, Prod.mk.injEq] at he; obtain ⟨he1, he2, he3⟩ := he; have : m = n := by omega
   subst this; exact ⟨w.2, he3, hw.P, fun a ha => by simp at ha⟩
 · rintro ⟨A, h3, h4, _⟩; subst h3; have hl : A.length ≤ 200 := by rw [zT] at hL; exact hL
   refine ⟨n, (p, A), h1, hn, ⟨h4, hl, by simp only; omega, by simp only; omega, fun hn1 => ?_⟩, rfl⟩; have hA : A = [] := by
    cases A with
    | nil => rfl
    | cons a A =>
     exfalso; refine (h4.no a List.mem_cons_self).2 (Pm.ext fun x => ?_); subst hn1
     by_cases hx : x < 1
     · have := a.lt hx; simp only [Pm.one_f]; omega
     · exact a.out x (by omega)
   rw [h2 hn1, hA]
theorem zPJ {v : Int × Int × List (List Int)} (h : IsNm v) : 1 ≤ v.1 ∧ v.1 ≤ 8 ∧ -200 ≤ v.2.1 ∧ v.2.1 ≤ 200 ∧ v.2.2.length ≤ 200 ∧ (v.1 < 2 → v.2.1 = 0) := by
 obtain ⟨n, w, h1, h2, hw, rfl⟩ := h; have a1 := hw.len; have a2 := hw.lo; have a3 := hw.hi; simp only [enc, zT]; refine ⟨by omega, by omega, by omega, by omega, a1, fun h => ?_⟩; rw [hw.one (by omega)]
theorem zLV (v : Int × Int × List (List Int)) (hL : Rows8 v.2.2) : R zLA [zA v] = some [tB (isNm v)] := by
 obtain ⟨n, p, L⟩ := v; simp only at hL; apply zSM; simp only [zLj, zOX, Option.bind_some, getTV_here]; have hr := fun h => zPJ (v := (n, p, L)) h; simp only at hr; have no : ∀ {q : Prop}, q → (IsNm (n, p, L) → ¬ q) → isNm (n, p, L) = false := fun hq h => by
  unfold isNm; exact zS1 fun h' => h h' hq
 by_cases h1 : 1 ≤ n ∧ n ≤ 8
 · by_cases h2 : -200 ≤ p ∧ p ≤ 200
   · by_cases h3 : L.length ≤ 200
     · have h4 : ¬ ((200 : Int) < (L.length : Int)) := by omega
       obtain ⟨m, rfl⟩ : ∃ m : Nat, n = m := ⟨n.toNat, by omega⟩; have h5 := zRx m (by omega) (by omega) (m : Int) p L hL h3 0 (Nat.zero_le _) none (fun _ => rfl) (fun h => by omega); simp only [Int.natCast_zero, List.drop_zero] at h5; simp only [h1, h2, decide_true, Bool.and_self, Bool.not_true, cond_false, decide_eq_false h4, h5, Option.bind_some]
       by_cases h6 : (m : Int) < 2
       · by_cases h7 : p = 0
         · have hi : isNm ((m : Int), p, L) = goesB m none L := by
            unfold isNm goesB; rw [decide_eq_decide]; exact zIL m (by omega) (by omega) p L h2 h3 (fun _ => h7)
           rw [decide_eq_true h6, cond_true, kQ, decide_eq_true h7, Bool.not_true, cond_false, hi]
           cases goesB m none L <;> simp
         · rw [no h7 (fun h => fun h' => h' ((hr h).2.2.2.2.2 h6)), decide_eq_true h6, cond_true, kQ, decide_eq_false h7]
           rfl
       · have hi : isNm ((m : Int), p, L) = goesB m none L := by
          unfold isNm goesB; rw [decide_eq_decide]; exact zIL m (by omega) (by omega) p L h2 h3 (fun _ => by omega)
         rw [decide_eq_false h6, cond_false, hi]
         cases goesB m none L <;> simp
     · have h4 : ((200 : Int) < (L.length : Int)) := by omega
       rw [no h3 (fun h => fun h' => h' (hr h).2.2.2.2.1)]; simp [h1, h2, h4]
   · have e : (decide (-200 ≤ p) && decide (p ≤ 200)) = false := by simp; omega
     rw [no h2 (fun h => fun h' => h' ⟨(hr h).2.2.1, (hr h).2.2.2.1⟩)]; simp [h1, e]
 · have e : (decide (1 ≤ n) && decide (n ≤ 8)) = false := by simp; omega
   rw [no h1 (fun h => fun h' => h' ⟨(hr h).1, (hr h).2.1⟩)]; simp [e]
theorem zE1 (v : Int × Int × List (List Int)) (hL : Rows8 v.2.2) : R zFq [zA v] = some [tB (isNm v)] := by
 obtain ⟨n, p, L⟩ := v; simp only at hL; apply zNd; simp only [zGA, zM3, zLM, Option.bind_some, getTV_here]; have hr := fun h => zPJ (v := (n, p, L)) h; simp only at hr; have no : ∀ {q : Prop}, q → (IsNm (n, p, L) → ¬ q) → isNm (n, p, L) = false := fun hq h => by
  unfold isNm; exact zS1 fun h' => h h' hq
 by_cases h1 : 1 ≤ n ∧ n ≤ 8
 · by_cases h2 : -200 ≤ p ∧ p ≤ 200
   · by_cases h3 : L.length ≤ 200
     · have h4 : ¬ ((200 : Int) < (L.length : Int)) := by omega
       obtain ⟨m, rfl⟩ : ∃ m : Nat, n = m := ⟨n.toNat, by omega⟩; have h5 := zNB m (by omega) (by omega) (m : Int) p L hL h3 0 (Nat.zero_le _) none (fun _ => rfl) (fun h => by omega); simp only [Int.natCast_zero, List.drop_zero] at h5; simp only [h1, h2, decide_true, Bool.and_self, Bool.not_true, cond_false, decide_eq_false h4, h5, Option.bind_some]
       by_cases h6 : (m : Int) < 2
       · by_cases h7 : p = 0
         · have hi : isNm ((m : Int), p, L) = goesB m none L := by
            unfold isNm goesB; rw [decide_eq_decide]; exact zIL m (by omega) (by omega) p L h2 h3 (fun _ => h7)
           rw [decide_eq_true h6, cond_true, kQ, decide_eq_true h7, Bool.not_true, cond_false, hi]
           cases goesB m none L <;> simp
         · rw [no h7 (fun h => fun h' => h' ((hr h).2.2.2.2.2 h6)), decide_eq_true h6, cond_true, kQ, decide_eq_false h7]
           rfl
       · have hi : isNm ((m : Int), p, L) = goesB m none L := by
          unfold isNm goesB; rw [decide_eq_decide]; exact zIL m (by omega) (by omega) p L h2 h3 (fun _ => by omega)
         rw [decide_eq_false h6, cond_false, hi]
         cases goesB m none L <;> simp
     · have h4 : ((200 : Int) < (L.length : Int)) := by omega
       rw [no h3 (fun h => fun h' => h' (hr h).2.2.2.2.1)]; simp [h1, h2, h4]
   · have e : (decide (-200 ≤ p) && decide (p ≤ 200)) = false := by simp; omega
     rw [no h2 (fun h => fun h' => h' ⟨(hr h).2.2.1, (hr h).2.2.2.1⟩)]; simp [h1, e]
 · have e : (decide (1 ≤ n) && decide (n ≤ 8)) = false := by simp; omega
   rw [no h1 (fun h => fun h' => h' ⟨(hr h).1, (hr h).2.1⟩)]; simp [e]
theorem zSf (v : Int × Int × List (List Int)) : (isNm v = false) ∨ (isNm v = true ∧ ∃ (n : Nat) (w : Nm n), 1 ≤ n ∧ n ≤ 8 ∧ OkN w 200 ∧ v = enc w) := by
 unfold isNm
 by_cases h : IsNm v
 · exact .inr ⟨zUe h, h⟩
 · exact .inl (zS1 h)
theorem zSn {n : Nat} {w : Nm n} (h1 : 1 ≤ n) (hn : n ≤ 8) (hw : OkN w 200) : isNm (enc w) = true := by
 unfold isNm; exact zUe ⟨n, w, h1, hn, hw, rfl⟩
theorem zQN {v : Int × Int × List (List Int)} (h : Fit (.pair (.int .i64) (.pair (.int .i64) (.slice (.arr .u8 8)))) v) : v.2.2.length ≤ 9223372036854775807 ∧ Rows8 v.2.2 := by
 obtain ⟨h1, h2, h3⟩ := zSv h.2.2; exact ⟨h1, fun x hx => ⟨h2 x hx, h3 x hx⟩⟩
theorem OkN.mono {n : Nat} {w : Nm n} {a b : Nat} (h : OkN w a) (hab : a ≤ b) : OkN w b :=
 ⟨h.P, Nat.le_trans h.len hab, by have := h.lo; omega, by have := h.hi; omega, h.one⟩
end Go.Ev.YtmdkgikjnaijeaaGreat
namespace Go.Ev.YtmdkgikjnaijeaaGreat
open Go.Ev Go.Gar
noncomputable def stepI {n : Nat} (v : Nm n) (s : Pm n) : Nm n := mk (v.1 - 1) (v.2.map trn ++ [Pm.half n * s⁻¹])
noncomputable def invN {n : Nat} (v : Nm n) : Nm n := ((v.2.reverse.foldl stepI (0, [])).1 - v.1, tk v.1 (v.2.reverse.foldl stepI (0, [])).2)
theorem zQ3 {n : Nat} (k : Int) (l : List (Pm n)) : tk (-k) l = tk k l := by
 unfold tk; rw [Int.neg_tmod]
 by_cases h : k.tmod 2 = 0
 · simp [h]
 · have : ¬ -(k.tmod 2) = 0 := by omega
   simp [h, this]
noncomputable def both (a b : Int × Int × List (List Int)) : Int := if isNm a && isNm b then (if a.1 = b.1 then 0 else 2) else 1
end Go.Ev.YtmdkgikjnaijeaaGreat
