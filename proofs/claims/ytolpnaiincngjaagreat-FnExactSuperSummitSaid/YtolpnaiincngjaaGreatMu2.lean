/- All simple braids, as the reference lists them. -/
import Derived.Test.YtolpnaiincngjaaGreatMu1
set_option linter.unusedVariables false
set_option linter.unusedSimpArgs false
namespace Go.Ev.YtolpnaiincngjaaGreat
open Go.Ev Go.Gar
def swapC (c : List Nat) (k i : Nat) : List Nat := (c.set k (c.getD i 0)).set i (c.getD k 0)
def simC (n : Nat) : Nat → List Nat → Nat → List (List Nat) → List (List Nat)
  | 0, c, _, C => if c = List.range n then C else C ++ [c]
  | d + 1, c, k, C => ((List.range n).drop k).foldl (fun C i => simC n d (swapC c k i) (k + 1) C) C
theorem simC_len (n : Nat) : ∀ (d : Nat) (c : List Nat) (k : Nat) (C : List (List Nat)), (simC n d c k C).length ≤ C.length + n ^ d
  | 0, c, k, C => by
    simp only [simC, Nat.pow_zero]
    split <;> simp
  | d + 1, c, k, C => by
    have key : ∀ (l : List Nat) (C : List (List Nat)), (l.foldl (fun C i => simC n d (swapC c k i) (k + 1) C) C).length ≤ C.length + l.length * n ^ d := by
      intro l
      induction l with
      | nil => intro C; simp
      | cons i l ih =>
        intro C
        have h1 := ih (simC n d (swapC c k i) (k + 1) C)
        have h2 := simC_len n d (swapC c k i) (k + 1) C
        rw [List.foldl_cons, List.length_cons, Nat.add_mul, Nat.one_mul]
        omega
    have h := key ((List.range n).drop k) C
    have hl : ((List.range n).drop k).length * n ^ d ≤ n * n ^ d := Nat.mul_le_mul_right _ (by simp)
    simp only [simC, Nat.pow_succ]
    rw [Nat.mul_comm (n ^ d) n]
    omega
/-- Two entries changed. -/
theorem swap_at {n : Nat} (hn : n ≤ 8) (s : Pm n) {k i : Nat} (hk : k < n) (hi : i < n) : ∃ s' : Pm n,
    List.set (List.set (sA s) k (List.getD (sA s) i 0)) i (List.getD (sA s) k 0) = sA s' ∧ code s' = swapC (code s) k i := by
  obtain ⟨s', hs'⟩ := pm_of (n := n) (f := fun x => if x = i then s.f k else if x = k then s.f i else s.f x) (fun x hx => by
    split
    · exact s.lt hk
    · split
      · exact s.lt hi
      · exact s.lt hx) (fun x y hx hy h => by
    by_cases a1 : x = i <;> by_cases a2 : y = i
    · omega
    · rw [if_pos a1, if_neg a2] at h
      by_cases a3 : y = k
      · rw [if_pos a3] at h
        have := s.inj h
        omega
      · rw [if_neg a3] at h
        have := s.inj h
        omega
    · rw [if_neg a1, if_pos a2] at h
      by_cases a3 : x = k
      · rw [if_pos a3] at h
        have := s.inj h
        omega
      · rw [if_neg a3] at h
        have := s.inj h
        omega
    · rw [if_neg a1, if_neg a2] at h
      by_cases a3 : x = k <;> by_cases a4 : y = k
      · omega
      · rw [if_pos a3, if_neg a4] at h
        have := s.inj h
        omega
      · rw [if_neg a3, if_pos a4] at h
        have := s.inj h
        omega
      · rw [if_neg a3, if_neg a4] at h
        exact s.inj h)
  refine ⟨s', ?_, ?_⟩
  · rw [sA_get hi hn, sA_get hk hn]
    unfold sA
    rw [A8_set hk hn, A8_set hi hn]
    apply A8_congr
    intro x hx
    rw [hs' x hx]
  · unfold swapC
    rw [code_getD s hi, code_getD s hk]
    apply List.ext_getElem?
    intro x
    by_cases hx : x < n
    · rw [code_get s' hx, hs' x hx, List.getElem?_set, List.getElem?_set, code_get s hx]
      by_cases e1 : i = x
      · rw [if_pos e1, if_pos e1.symm, if_pos (by simp [code]; omega)]
      · rw [if_neg e1, if_neg (Ne.symm e1)]
        by_cases e2 : k = x
        · rw [if_pos e2, if_pos e2.symm, if_pos (by simp [code]; omega)]
        · rw [if_neg e2, if_neg (Ne.symm e2)]
    · rw [List.getElem?_eq_none (by simp [code]; omega), List.getElem?_eq_none (by simp [code]; omega)]
theorem code_one (n : Nat) : code (1 : Pm n) = List.range n := (List.map_congr_left fun x _ => Pm.one_f x).trans (List.map_id _)
theorem c_l04Simples (n : Nat) (hn : n ≤ 7) : ∀ (d k : Nat) (s : Pm n) (L : List (Pm n)), k + d = n → L.length + n ^ d < 10000000 →
    ∃ L' : List (Pm n), R is_l04Simples [tLA8 (sL L), tA8 (sA s), tI (k : Int), tI (n : Int)] = some [tLA8 (sL L')] ∧ L'.map code = simC n d (code s) k (L.map code) := by
  intro d
  induction d with
  | zero =>
    intro k s L hk hl
    have e : k = n := by omega
    subst e
    simp only [simC, ← code_one]
    by_cases e1 : s = 1
    · subst e1
      refine ⟨L, ?_, by rw [if_pos rfl]⟩
      apply vs_l04Simples
      simp only [bs_l04Simples, beq_self_eq_true, cond_true, c_l02Same k (by omega), Option.bind_some, getTV_here]
    · refine ⟨L ++ [s], ?_, by rw [if_neg (fun h => e1 (code_inj h))]; simp⟩
      apply vs_l04Simples
      have e2 : (sA s == sA (1 : Pm k)) = false := by rw [beq_sA (by omega), decide_eq_false e1]
      have ap : apOk (sL L) [sA s] = true := apOk1 (by rw [sL_len]; omega)
      simp only [bs_l04Simples, beq_self_eq_true, cond_true, c_l02Same k (by omega), Option.bind_some, getTV_here, e2, cond_false, ap, sL_snoc]
  | succ d ih =>
    intro k s L hk hl
    have loop : ∀ (m i : Nat), i + m = n → k ≤ i → ∀ L : List (Pm n), L.length + m * n ^ d < 10000000 →
        ∃ L' : List (Pm n), R is_l04Simples_6 [tLA8 (sL L), tA8 (sA s), tI (k : Int), tI (n : Int), tI (i : Int)] = some [tI 0, tLA8 (sL L')] ∧
          L'.map code = ((List.range n).drop i).foldl (fun C i => simC n d (swapC (code s) k i) (k + 1) C) (L.map code) := by
      intro m
      induction m with
      | zero =>
        intro i hi hki L hl
        refine ⟨L, ?_, by rw [List.drop_of_length_le (by simp; omega)]; rfl⟩
        apply vs_l04Simples_6
        have : ¬ ((i : Int) < (n : Int)) := by omega
        simp only [bs_l04Simples_6, decide_eq_false this, cond_false]
      | succ m ihm =>
        intro i hi hki L hl
        rw [Nat.add_mul, Nat.one_mul] at hl
        obtain ⟨s', a1, a2⟩ := swap_at (n := n) (by omega) s (k := k) (i := i) (by omega) (by omega)
        obtain ⟨L1, b1, b2⟩ := ih (k + 1) s' L (by omega) (by omega)
        have hl1 : L1.length ≤ L.length + n ^ d := by
          have := simC_len n d (code s') (k + 1) (L.map code)
          rw [← b2] at this
          simpa using this
        obtain ⟨L2, c1, c2⟩ := ihm (i + 1) (by omega) (by omega) L1 (by omega)
        refine ⟨L2, ?_, ?_⟩
        · apply vs_l04Simples_6
          have w : wi64 ((i : Int) + 1) = ((i + 1 : Nat) : Int) := by rw [wrap_i64] <;> omega
          have w2 : wi64 ((k : Int) + 1) = ((k + 1 : Nat) : Int) := by rw [wrap_i64] <;> omega
          have hlt : ((i : Int) < (n : Int)) := by omega
          simp (disch := omega) only [bs_l04Simples_6, decide_eq_true hlt, decide_eq_true, Bool.and_true, cond_true, Int.toNat_natCast, a1, w, w2, b1, Option.bind_some, getTV_here, c1]
        · rw [c2, b2, List.drop_eq_getElem_cons (l := List.range n) (i := i) (by simp; omega), List.foldl_cons, List.getElem_range, a2]
    obtain ⟨L', r1, r2⟩ := loop (n - k) k (by omega) (Nat.le_refl _) L (by
      have : (n - k) * n ^ d ≤ n * n ^ d := Nat.mul_le_mul_right _ (by omega)
      rw [Nat.pow_succ, Nat.mul_comm (n ^ d) n] at hl
      omega)
    refine ⟨L', ?_, r2⟩
    apply vs_l04Simples
    have hne : ((k : Int) == (n : Int)) = false := by rw [beq_dec, decide_eq_false (by omega)]
    simp only [bs_l04Simples, hne, cond_false, r1, Option.bind_some, getTV_next, getTV_here]
theorem schk4 : ((List.range 4).all fun a => (List.range 4).all fun b => (List.range 4).all fun c => (List.range 4).all fun d => !decide ([a, b, c, d].Nodup) || decide ([a, b, c, d] = [0, 1, 2, 3]) || decide ([a, b, c, d] ∈ simC 4 4 [0, 1, 2, 3] 0 [])) = true := by decide +kernel
theorem schk3 : ((List.range 3).all fun a => (List.range 3).all fun b => (List.range 3).all fun c => !decide ([a, b, c].Nodup) || decide ([a, b, c] = [0, 1, 2]) || decide ([a, b, c] ∈ simC 3 3 [0, 1, 2] 0 [])) = true := by decide +kernel
theorem schk2 : ((List.range 2).all fun a => (List.range 2).all fun b => !decide ([a, b].Nodup) || decide ([a, b] = [0, 1]) || decide ([a, b] ∈ simC 2 2 [0, 1] 0 [])) = true := by decide +kernel
theorem slen4 : (simC 4 4 [0, 1, 2, 3] 0 []).length ≤ 24 := by decide +kernel
theorem slen3 : (simC 3 3 [0, 1, 2] 0 []).length ≤ 24 := by decide +kernel
theorem slen2 : (simC 2 2 [0, 1] 0 []).length ≤ 24 := by decide +kernel
theorem slen1 : (simC 1 1 [0] 0 []).length ≤ 24 := by decide +kernel
theorem simC_all (n : Nat) (h1 : 1 ≤ n) (h4 : n ≤ 4) : (simC n n (List.range n) 0 []).length ≤ 24 ∧ ∀ l : List Nat, l.length = n → (∀ x ∈ l, x < n) → l.Nodup → l ≠ List.range n → l ∈ simC n n (List.range n) 0 [] := by
  rcases (by omega : n = 1 ∨ n = 2 ∨ n = 3 ∨ n = 4) with rfl | rfl | rfl | rfl
  · refine ⟨slen1, fun l hl hx hN hne => ?_⟩
    match l, hl with
    | [a], _ =>
      have := hx a (by simp)
      have e : a = 0 := by omega
      subst e
      exact absurd rfl hne
  · refine ⟨slen2, fun l hl hx hN hne => ?_⟩
    match l, hl with
    | [a, b], _ =>
      have h := schk2
      simp only [List.all_eq_true, List.mem_range, Bool.or_eq_true, Bool.not_eq_true', decide_eq_true_eq, decide_eq_false_iff_not] at h
      exact ((h a (hx a (by simp)) b (hx b (by simp))).resolve_left (fun g => g.elim (fun g => g hN) (fun g => hne g)))
  · refine ⟨slen3, fun l hl hx hN hne => ?_⟩
    match l, hl with
    | [a, b, c], _ =>
      have h := schk3
      simp only [List.all_eq_true, List.mem_range, Bool.or_eq_true, Bool.not_eq_true', decide_eq_true_eq, decide_eq_false_iff_not] at h
      exact ((h a (hx a (by simp)) b (hx b (by simp)) c (hx c (by simp))).resolve_left (fun g => g.elim (fun g => g hN) (fun g => hne g)))
  · refine ⟨slen4, fun l hl hx hN hne => ?_⟩
    match l, hl with
    | [a, b, c, d], _ =>
      have h := schk4
      simp only [List.all_eq_true, List.mem_range, Bool.or_eq_true, Bool.not_eq_true', decide_eq_true_eq, decide_eq_false_iff_not] at h
      exact ((h a (hx a (by simp)) b (hx b (by simp)) c (hx c (by simp)) d (hx d (by simp))).resolve_left (fun g => g.elim (fun g => g hN) (fun g => hne g)))
theorem c_l04Simples_all (n : Nat) (h1 : 1 ≤ n) (h4 : n ≤ 4) : ∃ S : List (Pm n), R is_l04Simples [tLA8 [], tA8 (sA (1 : Pm n)), tI 0, tI (n : Int)] = some [tLA8 (sL S)] ∧ (∀ s : Pm n, s ≠ 1 → s ∈ S) ∧ S.length ≤ 24 ∧ (n = 1 → S = []) := by
  have hp : n ^ n ≤ 256 := by rcases (by omega : n = 1 ∨ n = 2 ∨ n = 3 ∨ n = 4) with rfl | rfl | rfl | rfl <;> decide
  obtain ⟨S, r1, r2⟩ := c_l04Simples n (by omega) n 0 (1 : Pm n) [] (by omega) (by simp only [List.length_nil]; omega)
  rw [code_one, List.map_nil] at r2
  obtain ⟨g1, g2⟩ := simC_all n h1 h4
  refine ⟨S, r1, fun s hs => ?_, ?_⟩
  · obtain ⟨q1, q2, q3⟩ := code_lt s
    have := g2 (code s) q1 q2 q3 (fun h => hs (code_inj (by rw [h, code_one])))
    rw [← r2] at this
    exact code_mem.1 this
  · rw [← r2] at g1
    refine ⟨by simpa using g1, fun h => ?_⟩
    subst h
    have e : simC 1 1 (List.range 1) 0 [] = [] := by decide +kernel
    rw [e] at r2
    simpa using r2
end Go.Ev.YtolpnaiincngjaaGreat
