/- What a sort by contract answers. -/
import Derived.Test.YtolpnaiincngjaaGreatV1
import Derived.Sort.AssemblyPlain
set_option linter.unusedVariables false
set_option linter.unusedSimpArgs false
namespace Go.Ev.YtolpnaiincngjaaGreat
open Go.Ev
theorem flat_get' {α β : Type} {f : α → List β} {n : Nat} (hf : ∀ a, (f a).length = n) : ∀ (xs : List α) (i j : Nat), j < n → (xs.flatMap f)[i * n + j]? = (xs[i]?).bind fun a => (f a)[j]?
  | [], i, j, _ => by simp
  | a :: xs, 0, j, hj => by
    rw [List.flatMap_cons, List.getElem?_append_left (by rw [hf]; omega)]
    simp
  | a :: xs, i + 1, j, hj => by
    rw [List.flatMap_cons, List.getElem?_append_right (by rw [hf]; rw [Nat.add_mul]; omega), hf]
    rw [show (i + 1) * n + j - n = i * n + j by rw [Nat.add_mul]; omega, flat_get' hf xs i j hj]
    simp
theorem pairsOf_get' {α : Type} (xs : List α) {i j : Nat} (hi : i < xs.length) (hj : j < xs.length) : (pairsOf xs)[i * xs.length + j]? = some (xs[i], xs[j]) := by
  unfold pairsOf
  rw [flat_get' (n := xs.length) (fun a => by simp) xs i j hj, List.getElem?_eq_getElem hi]
  simp [List.getElem?_eq_getElem hj]
theorem cmpsK_all {α : Type} {call : Oracle} {cmp : Nat} {t : Ty} (k : List Int → Option α) (cf : t.den → t.den → Int) : ∀ (r : List (t.den × t.den)) (acc : List Int),
    (∀ p ∈ r, call cmp [⟨t, p.1⟩, ⟨t, p.2⟩] = some [⟨.int .i64, cf p.1 p.2⟩]) → cmpsK call cmp t k r acc = k (acc ++ r.map fun p => cf p.1 p.2)
  | [], acc, _ => by simp [cmpsK]
  | p :: r, acc, h => by
    simp only [cmpsK, h p (by simp), Option.bind_some, cmpOut]
    rw [cmpsK_all k cf r _ (fun q hq => h q (by simp [hq]))]
    simp
theorem mem_pairsOf {α : Type} {xs : List α} {p : α × α} (h : p ∈ pairsOf xs) : p.1 ∈ xs ∧ p.2 ∈ xs := by
  simp only [pairsOf, List.mem_flatMap, List.mem_map] at h
  obtain ⟨a, ha, b, hb, rfl⟩ := h
  exact ⟨ha, hb⟩

theorem ext_all {α : Type} (a : Array α) {n : Nat} (h : a.size = n) : a.extract 0 n = a := by
  subst h
  simp
/-- A sort's answer, where the comparisons are a weak order on the row's elements. -/
theorem sortE_ok {call : Oracle} {cmp : Nat} {t : Ty} (cf : t.den → t.den → Int) (xs : List t.den) (hl : xs.length ≤ 549755813888)
    (hc : ∀ a ∈ xs, ∀ b ∈ xs, call cmp [⟨t, a⟩, ⟨t, b⟩] = some [⟨.int .i64, cf a b⟩]) (h1 : ∀ a ∈ xs, ¬ cf a a < 0)
    (h2 : ∀ a ∈ xs, ∀ b ∈ xs, ∀ c ∈ xs, cf a b < 0 → cf b c < 0 → cf a c < 0) (h3 : ∀ a ∈ xs, ∀ b ∈ xs, ∀ c ∈ xs, ¬ cf a b < 0 → ¬ cf b c < 0 → ¬ cf a c < 0) :
    ∃ ys, sortE call cmp t xs = some [⟨.slice t, ys⟩] ∧ ys.Perm xs ∧ ys.Pairwise (fun a b => ¬ cf b a < 0) := by
  cases xs with
  | nil => exact ⟨[], rfl, .nil, .nil⟩
  | cons x r =>
    have hlim : r.length < lim := by simp only [List.length_cons] at hl; simp only [lim]; omega
    simp only [sortE, if_pos hlim]
    rw [cmpsK_all _ cf _ _ (fun p hp => hc _ (mem_pairsOf hp).1 _ (mem_pairsOf hp).2)]
    simp only [List.nil_append]
    generalize hcs : ((pairsOf (x :: r)).map fun p => cf p.1 p.2) = cs
    have hcf : ∀ i j : Fin (r.length + 1), cfC (r.length + 1) cs i j = cf (x :: r)[i.val] (x :: r)[j.val] := by
      intro i j
      have := pairsOf_get' (x :: r) (i := i.val) (j := j.val) i.isLt j.isLt
      simp only [List.length_cons] at this
      rw [cfC, ← hcs, List.getD_eq_getElem?_getD, List.getElem?_map, this]
      rfl
    have hm : ∀ i : Fin (r.length + 1), (x :: r)[i.val] ∈ x :: r := fun i => List.getElem_mem _
    have hO : Sort.SWO (ltC (r.length + 1) cs) := by
      refine ⟨fun i => ?_, fun i j k a b => ?_, fun i j k a b => ?_⟩
      · simp only [ltC, hcf, decide_eq_false_iff_not]; exact h1 _ (hm i)
      · simp only [ltC, hcf, decide_eq_true_eq] at a b ⊢; exact h2 _ (hm i) _ (hm j) _ (hm k) a b
      · simp only [ltC, hcf, decide_eq_false_iff_not] at a b ⊢; exact h3 _ (hm i) _ (hm j) _ (hm k) a b
    have hsw : swoB (ltC (r.length + 1) cs) = true := by
      simp only [swoB, Bool.and_eq_true, decide_eq_true_eq]
      exact ⟨⟨hO.irrefl, hO.trans⟩, hO.ntrans⟩
    rw [if_pos hsw]
    refine ⟨_, rfl, ?_⟩
    have hds : (Array.ofFn fun i : Fin (r.length + 1) => i).size = r.length + 1 := by simp
    obtain ⟨⟨p1, p2, p3⟩, hs⟩ := Go.Sort.pdq_sorts (ltC (r.length + 1) cs) hO (Array.ofFn fun i : Fin (r.length + 1) => i) 0 (r.length + 1) (Lib.bitLen (r.length + 1)) true true (Nat.zero_le _) (by rw [hds]; exact Nat.le_refl _) (Or.inl rfl)
    change (sortBy (ltC (r.length + 1) cs)).size = _ at p1
    change ((sortBy (ltC (r.length + 1) cs)).extract 0 (r.length + 1)).toList.Perm _ at p3
    change Sort.SortedIn _ 0 _ (sortBy (ltC (r.length + 1) cs)) at hs
    generalize sortBy (ltC (r.length + 1) cs) = out at p1 p3 hs
    rw [hds] at p1
    rw [ext_all out p1, ext_all _ hds] at p3
    have e3 : ((Array.ofFn fun i : Fin (r.length + 1) => i).toList.map fun i => (x :: r).getD i.val x) = x :: r := by
      apply List.ext_getElem
      · simp
      · intro i a b
        simp only [List.length_map, Array.length_toList, hds] at a
        have a' : i < (x :: r).length := a
        simp only [List.getElem_map, Array.getElem_toList, Array.getElem_ofFn, List.getD_eq_getElem?_getD, List.getElem?_eq_getElem a', Option.getD_some]
    refine ⟨?_, ?_⟩
    · have := p3.map fun i => (x :: r).getD i.val x
      rwa [e3] at this
    · rw [List.pairwise_iff_getElem]
      intro i j hi hj hij
      simp only [List.length_map, Array.length_toList] at hi hj
      have := hs i j (Nat.zero_le _) hij (by omega)
      rw [getElem!_pos out i hi, getElem!_pos out j hj] at this
      simp only [ltC, hcf, decide_eq_false_iff_not] at this
      have g : ∀ q : Fin (r.length + 1), (x :: r).getD q.val x = (x :: r)[q.val] := by
        intro q
        have hq : q.val < (x :: r).length := q.isLt
        simp only [List.getD_eq_getElem?_getD, List.getElem?_eq_getElem hq, Option.getD_some]
      simp only [List.getElem_map, Array.getElem_toList, g]
      exact this
end Go.Ev.YtolpnaiincngjaaGreat
