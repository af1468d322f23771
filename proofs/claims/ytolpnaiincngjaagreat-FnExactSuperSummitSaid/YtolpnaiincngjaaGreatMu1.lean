/- All simple braids of up to four strands, as both packages list them. -/
import Derived.Test.YtolpnaiincngjaaGreatMn3
import Derived.Test.YtolpnaiincngjaaGreatMa2
import Derived.Test.YtolpnaiincngjaaGreatMn1
set_option linter.unusedVariables false
set_option linter.unusedSimpArgs false
namespace Go.Ev.YtolpnaiincngjaaGreat
open Go.Ev Go.Gar
def code {n : Nat} (s : Pm n) : List Nat := (List.range n).map s.f
theorem code_get {n : Nat} (s : Pm n) {x : Nat} (h : x < n) : (code s)[x]? = some (s.f x) := by simp [code, h]
theorem code_getD {n : Nat} (s : Pm n) {x : Nat} (h : x < n) : (code s).getD x 0 = s.f x := by rw [List.getD_eq_getElem?_getD, code_get s h]; rfl
theorem code_inj {n : Nat} {s t : Pm n} (h : code s = code t) : s = t := by
  apply Pm.ext
  intro x
  by_cases hx : x < n
  · have h1 := code_get s hx
    rw [h, code_get t hx] at h1
    exact (Option.some.inj h1).symm
  · rw [s.out x (by omega), t.out x (by omega)]
theorem code_mem {n : Nat} {S : List (Pm n)} {s : Pm n} : code s ∈ S.map code ↔ s ∈ S := by
  constructor
  · intro h
    obtain ⟨t, ht, e⟩ := List.mem_map.1 h
    rw [← code_inj e]; exact ht
  · exact fun h => List.mem_map_of_mem h
theorem sL_mem {n : Nat} (hn : n ≤ 8) {S : List (Pm n)} {s : Pm n} : sA s ∈ sL S ↔ s ∈ S := by
  constructor
  · intro h
    obtain ⟨t, ht, e⟩ := List.mem_map.1 h
    rw [← sA_inj hn e]; exact ht
  · exact fun h => List.mem_map_of_mem h
def mulC (p q : List Nat) : List Nat := p.map fun x => q.getD x 0
theorem code_mul {n : Nat} (s t : Pm n) : code (s * t) = mulC (code s) (code t) := by
  show (List.range n).map (s * t).f = ((List.range n).map s.f).map fun x => (code t).getD x 0
  rw [List.map_map]
  apply List.map_congr_left
  intro x hx
  simp only [Function.comp_def, Pm.mul_f]
  rw [code_getD t (s.lt (List.mem_range.1 hx))]
def exC (n p : Nat) : List Nat := (List.range n).map fun x => if x = p then p + 1 else if x = p + 1 then p else x
theorem code_swap {n p : Nat} (h : p + 1 < n) : code (Pm.swap n p h) = exC n p := by
  unfold code exC
  apply List.map_congr_left
  intro x _
  rfl
theorem c_Index_2 (L : List (List Int)) (y : List Int) (hl : L.length < 10000000) : ∀ i : Nat, i ≤ L.length →
    (y ∈ L.drop i → ∃ j : Nat, R ig_Index___i_Simple_i_Simple__2 [tLA8 L, tA8 y, tI (L.length : Int), tI (i : Int)] = some [tI 1, tI (j : Int)]) ∧
    (y ∉ L.drop i → R ig_Index___i_Simple_i_Simple__2 [tLA8 L, tA8 y, tI (L.length : Int), tI (i : Int)] = some [tI 0]) := by
  refine up_loop _ ?_ (fun i hi ih => ?_)
  · rw [List.drop_length]
    refine ⟨fun h => by simp at h, fun _ => ?_⟩
    apply vg_Index___i_Simple_i_Simple__2
    simp [bg_Index___i_Simple_i_Simple__2]
  · rw [List.drop_eq_getElem_cons hi]
    have hg : List.getD L i (List.replicate 8 0) = L[i] := by rw [List.getD_eq_getElem?_getD, List.getElem?_eq_getElem hi]; rfl
    have w : wi64 ((i : Int) + 1) = ((i + 1 : Nat) : Int) := by rw [wrap_i64] <;> omega
    by_cases e : y = L[i]
    · refine ⟨fun _ => ⟨i, ?_⟩, fun h => (h (by rw [e]; exact List.mem_cons_self)).elim⟩
      apply vg_Index___i_Simple_i_Simple__2
      have e2 : (y == L[i]) = true := by simpa using e
      simp (disch := omega) only [bg_Index___i_Simple_i_Simple__2, decide_eq_true, cond_true, Bool.and_true, Int.toNat_natCast, hg, e2]
    · have e2 : (y == L[i]) = false := by simpa using e
      have st : ∀ o, R ig_Index___i_Simple_i_Simple__2 [tLA8 L, tA8 y, tI (L.length : Int), tI ((i + 1 : Nat) : Int)] = some o → R ig_Index___i_Simple_i_Simple__2 [tLA8 L, tA8 y, tI (L.length : Int), tI (i : Int)] = some o := by
        intro o ho
        apply vg_Index___i_Simple_i_Simple__2
        simp (disch := omega) only [bg_Index___i_Simple_i_Simple__2, decide_eq_true, cond_true, cond_false, Bool.and_true, Int.toNat_natCast, hg, e2, w, ho]
      refine ⟨fun h => ?_, fun h => ?_⟩
      · obtain ⟨j, hj⟩ := ih.1 ((List.mem_cons.1 h).resolve_left e)
        exact ⟨j, st _ hj⟩
      · exact st _ (ih.2 fun h' => h (List.mem_cons_of_mem _ h'))
theorem c_Contains (L : List (List Int)) (y : List Int) (hl : L.length < 10000000) : R ig_Contains___i_Simple_i_Simple_ [tLA8 L, tA8 y] = some [tB (decide (y ∈ L))] := by
  apply vg_Contains___i_Simple_i_Simple_
  have h := c_Index_2 L y hl 0 (Nat.zero_le _)
  rw [List.drop_zero] at h
  simp only [Int.natCast_zero] at h
  by_cases e : y ∈ L
  · obtain ⟨j, hj⟩ := h.1 e
    have hI : R ig_Index___i_Simple_i_Simple_ [tLA8 L, tA8 y] = some [tI (j : Int)] := by
      apply vg_Index___i_Simple_i_Simple_
      simp [bg_Index___i_Simple_i_Simple_, hj]
    simp [bg_Contains___i_Simple_i_Simple_, hI, e]
  · have hI : R ig_Index___i_Simple_i_Simple_ [tLA8 L, tA8 y] = some [tI (-1)] := by
      apply vg_Index___i_Simple_i_Simple_
      simp [bg_Index___i_Simple_i_Simple_, h.2 e]
    simp [bg_Contains___i_Simple_i_Simple_, hI, e]
def stC (n : Nat) (x : List Nat) (C : List (List Nat)) (p : Nat) : List (List Nat) := if (mulC x (exC n p)) ∈ C then C else C ++ [mulC x (exC n p)]
def outC (n : Nat) : Nat → List (List Nat) → Nat → Option (List (List Nat))
  | 0, _, _ => none
  | f + 1, C, a => match C[a]? with
    | none => some C
    | some x => outC n f ((List.range (n - 1)).foldl (stC n x) C) (a + 1)
theorem stC_len {n : Nat} {x : List Nat} : ∀ (l : List Nat) (C : List (List Nat)), (l.foldl (stC n x) C).length ≤ C.length + l.length
  | [], C => by simp
  | p :: l, C => by
    have := stC_len l (stC n x C p) (n := n) (x := x)
    have : (stC n x C p).length ≤ C.length + 1 := by unfold stC; split <;> simp
    simp only [List.foldl_cons, List.length_cons]
    omega
theorem c_allSimple_6 (n : Nat) (h1 : 1 ≤ n) (hn : n ≤ 8) (at_ : Nat) (x : Pm n) : ∀ (m p : Nat), p + m = n - 1 → ∀ S : List (Pm n), S[at_]? = some x → S.length + m < 10000000 →
    ∃ S' : List (Pm n), R ii_allSimple_6 [tLA8 (sL S), tI (n : Int), tI (at_ : Int), tI ((p + 1 : Nat) : Int)] = some [tI 0, tLA8 (sL S'), tI (n : Int), tI (at_ : Int)] ∧ S'.map code = ((List.range (n - 1)).drop p).foldl (stC n (code x)) (S.map code) := by
  intro m
  induction m with
  | zero =>
    intro p hp S hx hl
    refine ⟨S, ?_, ?_⟩
    · apply vi_allSimple_6
      have : ¬ (((p + 1 : Nat) : Int) < (n : Int)) := by omega
      simp only [bi_allSimple_6, decide_eq_false this, cond_false]
    · rw [List.drop_of_length_le (by simp; omega)]
      rfl
  | succ m ih =>
    intro p hp S hx hl
    have hat : at_ < S.length := (List.getElem?_eq_some_iff.1 hx).1
    have hp1 : p + 1 < n := by omega
    rw [List.drop_eq_getElem_cons (by simp; omega)]
    simp only [List.getElem_range, List.foldl_cons]
    have hg : List.getD (sL S) at_ (List.replicate 8 0) = sA x := by
      rw [sL_get hat]
      rw [List.getElem?_eq_getElem hat] at hx
      rw [Option.some.inj hx]
    have w : wi64 (((p + 1 : Nat) : Int) + 1) = ((p + 1 + 1 : Nat) : Int) := by rw [wrap_i64] <;> omega
    have hlt : (((p + 1 : Nat) : Int) < (n : Int)) := by omega
    have hc := c_Contains (sL S) (sA (x * Pm.swap n p hp1)) (by rw [sL_len]; omega)
    have hst : stC n (code x) (S.map code) p = (if x * Pm.swap n p hp1 ∈ S then S else S ++ [x * Pm.swap n p hp1]).map code := by
      unfold stC
      rw [← code_swap hp1, ← code_mul]
      by_cases e : x * Pm.swap n p hp1 ∈ S
      · rw [if_pos (code_mem.2 e), if_pos e]
      · rw [if_neg (fun h => e (code_mem.1 h)), if_neg e]
        simp only [List.map_append, List.map_cons, List.map_nil]
    rw [hst]
    by_cases e : x * Pm.swap n p hp1 ∈ S
    · rw [if_pos e]
      obtain ⟨S', h1, h2⟩ := ih (p + 1) (by omega) S hx (by omega)
      refine ⟨S', ?_, h2⟩
      apply vi_allSimple_6
      simp (disch := omega) only [bi_allSimple_6, decide_eq_true hlt, decide_eq_true, sL_len, cond_true, Bool.and_true, Int.toNat_natCast, hg, c_exchange n p hp1 hn, c_then n hn, Option.bind_some, getTV_here, hc, decide_eq_true ((sL_mem hn).2 e), Bool.not_true, cond_false, w, h1]
    · rw [if_neg e]
      obtain ⟨S', h1, h2⟩ := ih (p + 1) (by omega) (S ++ [x * Pm.swap n p hp1]) (by rw [List.getElem?_append_left hat]; exact hx) (by simp only [List.length_append, List.length_cons, List.length_nil]; omega)
      refine ⟨S', ?_, h2⟩
      apply vi_allSimple_6
      have e' : ¬ sA (x * Pm.swap n p hp1) ∈ sL S := fun h => e ((sL_mem hn).1 h)
      have ap : apOk (sL S) [sA (x * Pm.swap n p hp1)] = true := apOk1 (by rw [sL_len]; omega)
      simp (disch := omega) only [bi_allSimple_6, decide_eq_true hlt, decide_eq_true, sL_len, cond_true, Bool.and_true, Int.toNat_natCast, hg, c_exchange n p hp1 hn, c_then n hn, Option.bind_some, getTV_here, hc, decide_eq_false e', Bool.not_false, ap, sL_snoc, w, h1]
theorem c_allSimple_3 (n : Nat) (h1 : 1 ≤ n) (hn : n ≤ 8) : ∀ (f a : Nat) (S : List (Pm n)) (C' : List (List Nat)), a + f < 1000000 → S.length + 8 * f < 1000000 → outC n f (S.map code) a = some C' →
    ∃ S' : List (Pm n), R ii_allSimple_3 [tLA8 (sL S), tI (n : Int), tI (a : Int)] = some [tI 0, tLA8 (sL S')] ∧ S'.map code = C' := by
  intro f
  induction f with
  | zero => intro a S C' _ _ h; simp [outC] at h
  | succ f ih =>
    intro a S C' ha hl h
    rw [outC] at h
    by_cases hat : a < S.length
    · have hx : S[a]? = some S[a] := List.getElem?_eq_getElem hat
      rw [List.getElem?_map, hx] at h
      simp only [Option.map_some] at h
      obtain ⟨S1, g1, g2⟩ := c_allSimple_6 n h1 hn a S[a] (n - 1) 0 (by omega) S hx (by omega)
      rw [List.drop_zero] at g2
      have hl1 : S1.length ≤ S.length + 7 := by
        have := stC_len (n := n) (x := code S[a]) (List.range (n - 1)) (S.map code)
        rw [← g2] at this
        simp only [List.length_map, List.length_range] at this
        omega
      rw [← g2] at h
      obtain ⟨S', r1, r2⟩ := ih (a + 1) S1 C' (by omega) (by omega) h
      refine ⟨S', ?_, r2⟩
      apply vi_allSimple_3
      have w : wi64 ((a : Int) + 1) = ((a + 1 : Nat) : Int) := by rw [wrap_i64] <;> omega
      have hlt : ((a : Int) < (S.length : Int)) := by omega
      simp only [Nat.zero_add, Int.natCast_one] at g1
      simp only [bi_allSimple_3, sL_len, decide_eq_true hlt, cond_true, g1, Option.bind_some, getTV_here, getTV_next, w, r1]
    · rw [List.getElem?_eq_none (by simpa using hat)] at h
      simp only [Option.some.injEq] at h
      refine ⟨S, ?_, h⟩
      apply vi_allSimple_3
      have hlt : ¬ ((a : Int) < (S.length : Int)) := by omega
      simp only [bi_allSimple_3, sL_len, decide_eq_false hlt, cond_false]
theorem code_lt {n : Nat} (s : Pm n) : (code s).length = n ∧ (∀ x ∈ code s, x < n) ∧ (code s).Nodup := by
  refine ⟨by simp [code], fun x hx => ?_, ?_⟩
  · obtain ⟨y, hy, rfl⟩ := List.mem_map.1 hx
    exact s.lt (List.mem_range.1 hy)
  · unfold code
    rw [List.Nodup, List.pairwise_map]
    exact (List.nodup_range (n := n)).imp fun h e => h (s.inj e)
theorem chk4 : ((List.range 4).all fun a => (List.range 4).all fun b => (List.range 4).all fun c => (List.range 4).all fun d => !decide ([a, b, c, d].Nodup) || decide ([a, b, c, d] ∈ (outC 4 30 [[0, 1, 2, 3]] 0).getD [])) = true := by decide +kernel
theorem all4 : ∀ a, a < 4 → ∀ b, b < 4 → ∀ c, c < 4 → ∀ d, d < 4 → [a, b, c, d].Nodup → [a, b, c, d] ∈ (outC 4 30 [[0, 1, 2, 3]] 0).getD [] := by
  intro a ha b hb c hc d hd hN
  have h := chk4
  simp only [List.all_eq_true, List.mem_range, Bool.or_eq_true, Bool.not_eq_true', decide_eq_true_eq, decide_eq_false_iff_not] at h
  exact (h a ha b hb c hc d hd).resolve_left (fun g => g hN)
theorem chk3 : ((List.range 3).all fun a => (List.range 3).all fun b => (List.range 3).all fun c => !decide ([a, b, c].Nodup) || decide ([a, b, c] ∈ (outC 3 30 [[0, 1, 2]] 0).getD [])) = true := by decide +kernel
theorem all3 : ∀ a, a < 3 → ∀ b, b < 3 → ∀ c, c < 3 → [a, b, c].Nodup → [a, b, c] ∈ (outC 3 30 [[0, 1, 2]] 0).getD [] := by
  intro a ha b hb c hc hN
  have h := chk3
  simp only [List.all_eq_true, List.mem_range, Bool.or_eq_true, Bool.not_eq_true', decide_eq_true_eq, decide_eq_false_iff_not] at h
  exact (h a ha b hb c hc).resolve_left (fun g => g hN)
theorem chk2 : ((List.range 2).all fun a => (List.range 2).all fun b => !decide ([a, b].Nodup) || decide ([a, b] ∈ (outC 2 30 [[0, 1]] 0).getD [])) = true := by decide +kernel
theorem all2 : ∀ a, a < 2 → ∀ b, b < 2 → [a, b].Nodup → [a, b] ∈ (outC 2 30 [[0, 1]] 0).getD [] := by
  intro a ha b hb hN
  have h := chk2
  simp only [List.all_eq_true, List.mem_range, Bool.or_eq_true, Bool.not_eq_true', decide_eq_true_eq, decide_eq_false_iff_not] at h
  exact (h a ha b hb).resolve_left (fun g => g hN)
theorem chk1 : ((List.range 1).all fun a => !decide ([a].Nodup) || decide ([a] ∈ (outC 1 30 [[0]] 0).getD [])) = true := by decide +kernel
theorem all1 : ∀ a, a < 1 → [a].Nodup → [a] ∈ (outC 1 30 [[0]] 0).getD [] := by
  intro a ha hN
  have h := chk1
  simp only [List.all_eq_true, List.mem_range, Bool.or_eq_true, Bool.not_eq_true', decide_eq_true_eq, decide_eq_false_iff_not] at h
  exact (h a ha).resolve_left (fun g => g hN)
theorem some4 : (outC 4 30 [[0, 1, 2, 3]] 0).isSome = true ∧ ((outC 4 30 [[0, 1, 2, 3]] 0).getD []).length ≤ 24 := by decide +kernel
theorem some3 : (outC 3 30 [[0, 1, 2]] 0).isSome = true ∧ ((outC 3 30 [[0, 1, 2]] 0).getD []).length ≤ 24 := by decide +kernel
theorem some2 : (outC 2 30 [[0, 1]] 0).isSome = true ∧ ((outC 2 30 [[0, 1]] 0).getD []).length ≤ 24 := by decide +kernel
theorem some1 : (outC 1 30 [[0]] 0).isSome = true ∧ ((outC 1 30 [[0]] 0).getD []).length ≤ 24 := by decide +kernel
theorem outC_all (n : Nat) (h1 : 1 ≤ n) (h4 : n ≤ 4) : ∃ C, outC n 30 [List.range n] 0 = some C ∧ C.length ≤ 24 ∧ ∀ l : List Nat, l.length = n → (∀ x ∈ l, x < n) → l.Nodup → l ∈ C := by
  obtain ⟨hs, hl⟩ : (outC n 30 [List.range n] 0).isSome = true ∧ ((outC n 30 [List.range n] 0).getD []).length ≤ 24 := by
    rcases (by omega : n = 1 ∨ n = 2 ∨ n = 3 ∨ n = 4) with rfl | rfl | rfl | rfl
    · exact some1
    · exact some2
    · exact some3
    · exact some4
  obtain ⟨C, hC⟩ := Option.isSome_iff_exists.1 hs
  refine ⟨C, hC, by rw [hC] at hl; exact hl, fun l hl hx hd => ?_⟩
  have key : l ∈ (outC n 30 [List.range n] 0).getD [] := by
    rcases (by omega : n = 1 ∨ n = 2 ∨ n = 3 ∨ n = 4) with rfl | rfl | rfl | rfl
    · match l, hl with
      | [a], _ => exact all1 a (hx a (by simp)) hd
    · match l, hl with
      | [a, b], _ => exact all2 a (hx a (by simp)) b (hx b (by simp)) hd
    · match l, hl with
      | [a, b, c], _ => exact all3 a (hx a (by simp)) b (hx b (by simp)) c (hx c (by simp)) hd
    · match l, hl with
      | [a, b, c, d], _ => exact all4 a (hx a (by simp)) b (hx b (by simp)) c (hx c (by simp)) d (hx d (by simp)) hd
  rw [hC] at key
  exact key
theorem c_allSimple (n : Nat) (h1 : 1 ≤ n) (h4 : n ≤ 4) : ∃ S : List (Pm n), R ii_allSimple [tI (n : Int)] = some [tLA8 (sL S)] ∧ (∀ s : Pm n, s ∈ S) ∧ S.length ≤ 24 := by
  obtain ⟨C, g1, g2, g3⟩ := outC_all n h1 h4
  have e : ([(1 : Pm n)]).map code = [List.range n] := by
    simp only [List.map_cons, List.map_nil, code]
    congr 1
    exact (List.map_congr_left fun x _ => Pm.one_f x).trans (List.map_id _)
  obtain ⟨S, r1, r2⟩ := c_allSimple_3 n h1 (by omega) 30 0 [(1 : Pm n)] C (by omega) (by simp) (by rw [e]; exact g1)
  refine ⟨S, ?_, fun s => ?_, ?_⟩
  · apply vi_allSimple
    simp only [Int.natCast_zero] at r1
    have e2 : ([sA (1 : Pm n)]) = sL [(1 : Pm n)] := rfl
    simp only [bi_allSimple, c_nothing n (by omega), Option.bind_some, getTV_here, e2, r1, getTV_next]
  · obtain ⟨q1, q2, q3⟩ := code_lt s
    have := g3 (code s) q1 q2 q3
    rw [← r2] at this
    exact code_mem.1 this
  · rw [← r2] at g2
    simpa using g2
end Go.Ev.YtolpnaiincngjaaGreat
