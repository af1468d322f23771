/- Texts merged: Mu1 Mu2 Mt1 Mt0 Mu3 Mu4 Mu5 Mu6 Mu7. -/
import Derived.Test.YtfkpbhbghbhmgaaGreatWb
import Derived.Test.YtfkpbhbghbhmgaaGreatWa
import Derived.Test.YtfkpbhbghbhmgaaGreatV1
import Derived.Sort.AssemblyPlain
import Derived.Test.YtfkpbhbghbhmgaaGreatWd
import Derived.Test.YtfkpbhbghbhmgaaGreatWc
set_option linter.unusedVariables false
set_option linter.unusedSimpArgs false
namespace Go.Ev.YtfkpbhbghbhmgaaGreat
open Go.Ev Go.Gar
def code {n : Nat} (s : Pm n) : List Nat := (List.range n).map s.f
theorem code_get {n : Nat} (s : Pm n) {x : Nat} (h : x < n) : (code s)[x]? = some (s.f x) := by simp [code, h]
theorem code_getD {n : Nat} (s : Pm n) {x : Nat} (h : x < n) : (code s).getD x 0 = s.f x := by rw [List.getD_eq_getElem?_getD, code_get s h]; rfl
theorem code_inj {n : Nat} {s t : Pm n} (h : code s = code t) : s = t := by
 apply Pm.ext; intro x
 by_cases hx : x < n
 · have h1 := code_get s hx; rw [h, code_get t hx] at h1; exact (Option.some.inj h1).symm
 · rw [s.out x (by omega), t.out x (by omega)]
theorem code_mem {n : Nat} {S : List (Pm n)} {s : Pm n} : code s ∈ S.map code ↔ s ∈ S := by
 constructor
 · intro h; obtain ⟨t, ht, e⟩ := List.mem_map.1 h; rw [← code_inj e]; exact ht
 · exact fun h => List.mem_map_of_mem h
theorem sL_mem {n : Nat} (hn : n ≤ 8) {S : List (Pm n)} {s : Pm n} : sA s ∈ sL S ↔ s ∈ S := by
 constructor
 · intro h; obtain ⟨t, ht, e⟩ := List.mem_map.1 h; rw [← sA_inj hn e]; exact ht
 · exact fun h => List.mem_map_of_mem h
def mulC (p q : List Nat) : List Nat := p.map fun x => q.getD x 0
theorem code_mul {n : Nat} (s t : Pm n) : code (s * t) = mulC (code s) (code t) := by
 show (List.range n).map (s * t).f = ((List.range n).map s.f).map fun x => (code t).getD x 0; rw [List.map_map]; apply List.map_congr_left; intro x hx; simp only [Function.comp_def, Pm.mul_f]; rw [code_getD t (s.lt (List.mem_range.1 hx))]
def exC (n p : Nat) : List Nat := (List.range n).map fun x => if x = p then p + 1 else if x = p + 1 then p else x
theorem code_swap {n p : Nat} (h : p + 1 < n) : code (Pm.swap n p h) = exC n p := by
 unfold code exC; apply List.map_congr_left; intro x _
 rfl
theorem c_Index_2 (L : List (List Int)) (y : List Int) (hl : L.length < 10000000) : ∀ i : Nat, i ≤ L.length →
  (y ∈ L.drop i → ∃ j : Nat, R ig_Index___i_Simple_i_Simple__2 [tLA8 L, tA8 y, tI (L.length : Int), tI (i : Int)] = some [tI 1, tI (j : Int)]) ∧
  (y ∉ L.drop i → R ig_Index___i_Simple_i_Simple__2 [tLA8 L, tA8 y, tI (L.length : Int), tI (i : Int)] = some [tI 0]) := by
 refine up_loop _ ?_ (fun i hi ih => ?_)
 · rw [List.drop_length]; refine ⟨fun h => by simp at h, fun _ => ?_⟩; apply vg_Index___i_Simple_i_Simple__2; simp [bg_Index___i_Simple_i_Simple__2]
 · rw [List.drop_eq_getElem_cons hi]; have hg : List.getD L i (List.replicate 8 0) = L[i] := by rw [List.getD_eq_getElem?_getD, List.getElem?_eq_getElem hi]; rfl
   have w : wi64 ((i : Int) + 1) = ((i + 1 : Nat) : Int) := by rw [wrap_i64] <;> omega
   by_cases e : y = L[i]
   · refine ⟨fun _ => ⟨i, ?_⟩, fun h => (h (by rw [e]; exact List.mem_cons_self)).elim⟩; apply vg_Index___i_Simple_i_Simple__2; have e2 : (y == L[i]) = true := by simpa using e
     simp (disch := omega) only [bg_Index___i_Simple_i_Simple__2, decide_eq_true, cond_true, Bool.and_true, Int.toNat_natCast, hg, e2]
   · have e2 : (y == L[i]) = false := by simpa using e
     have st : ∀ o, R ig_Index___i_Simple_i_Simple__2 [tLA8 L, tA8 y, tI (L.length : Int), tI ((i + 1 : Nat) : Int)] = some o → R ig_Index___i_Simple_i_Simple__2 [tLA8 L, tA8 y, tI (L.length : Int), tI (i : Int)] = some o := by
      intro o ho; apply vg_Index___i_Simple_i_Simple__2; simp (disch := omega) only [bg_Index___i_Simple_i_Simple__2, decide_eq_true, cond_true, cond_false, Bool.and_true, Int.toNat_natCast, hg, e2, w, ho]
     refine ⟨fun h => ?_, fun h => ?_⟩
     · obtain ⟨j, hj⟩ := ih.1 ((List.mem_cons.1 h).resolve_left e); exact ⟨j, st _ hj⟩
     · exact st _ (ih.2 fun h' => h (List.mem_cons_of_mem _ h'))
theorem c_Contains (L : List (List Int)) (y : List Int) (hl : L.length < 10000000) : R ig_Contains___i_Simple_i_Simple_ [tLA8 L, tA8 y] = some [tB (decide (y ∈ L))] := by
 apply vg_Contains___i_Simple_i_Simple_; have h := c_Index_2 L y hl 0 (Nat.zero_le _); rw [List.drop_zero] at h; simp only [Int.natCast_zero] at h
 by_cases e : y ∈ L
 · obtain ⟨j, hj⟩ := h.1 e; have hI : R ig_Index___i_Simple_i_Simple_ [tLA8 L, tA8 y] = some [tI (j : Int)] := by
    apply vg_Index___i_Simple_i_Simple_; simp [bg_Index___i_Simple_i_Simple_, hj]
   simp [bg_Contains___i_Simple_i_Simple_, hI, e]
 · have hI : R ig_Index___i_Simple_i_Simple_ [tLA8 L, tA8 y] = some [tI (-1)] := by
    apply vg_Index___i_Simple_i_Simple_; simp [bg_Index___i_Simple_i_Simple_, h.2 e]
   simp [bg_Contains___i_Simple_i_Simple_, hI, e]
def stC (n : Nat) (x : List Nat) (C : List (List Nat)) (p : Nat) : List (List Nat) := if (mulC x (exC n p)) ∈ C then C else C ++ [mulC x (exC n p)]
def outC (n : Nat) : Nat → List (List Nat) → Nat → Option (List (List Nat))
 | 0, _, _ => none
 | f + 1, C, a => match C[a]? with
  | none => some C
  | some x => outC n f ((List.range (n - 1)).foldl (stC n x) C) (a + 1)
theorem stC_len {n : Nat} {x : List Nat} : ∀ (l : List Nat) (C : List (List Nat)), (l.foldl (stC n x) C).length ≤ C.length + l.length
 | [], C => by simp
 | p :: l, C => by
  have := stC_len l (stC n x C p) (n := n) (x := x); have : (stC n x C p).length ≤ C.length + 1 := by unfold stC; split <;> simp
  simp only [List.foldl_cons, List.length_cons]; omega
theorem c_allSimple_6 (n : Nat) (h1 : 1 ≤ n) (hn : n ≤ 8) (at_ : Nat) (x : Pm n) : ∀ (m p : Nat), p + m = n - 1 → ∀ S : List (Pm n), S[at_]? = some x → S.length + m < 10000000 →
  ∃ S' : List (Pm n), R ii_allSimple_6 [tLA8 (sL S), tI (n : Int), tI (at_ : Int), tI ((p + 1 : Nat) : Int)] = some [tI 0, tLA8 (sL S'), tI (n : Int), tI (at_ : Int)] ∧ S'.map code = ((List.range (n - 1)).drop p).foldl (stC n (code x)) (S.map code) := by
 intro m
 induction m with
 | zero =>
  intro p hp S hx hl
  refine ⟨S, ?_, ?_⟩
  · apply vi_allSimple_6; have : ¬ (((p + 1 : Nat) : Int) < (n : Int)) := by omega
    simp only [bi_allSimple_6, decide_eq_false this, cond_false]
  · rw [List.drop_of_length_le (by simp; omega)]
    rfl
 | succ m ih =>
  intro p hp S hx hl; have hat : at_ < S.length := (List.getElem?_eq_some_iff.1 hx).1
  have hp1 : p + 1 < n := by omega
  rw [List.drop_eq_getElem_cons (by simp; omega)]; simp only [List.getElem_range, List.foldl_cons]; have hg : List.getD (sL S) at_ (List.replicate 8 0) = sA x := by
   rw [sL_get hat]; rw [List.getElem?_eq_getElem hat] at hx; rw [Option.some.inj hx]
  have w : wi64 (((p + 1 : Nat) : Int) + 1) = ((p + 1 + 1 : Nat) : Int) := by rw [wrap_i64] <;> omega
  have hlt : (((p + 1 : Nat) : Int) < (n : Int)) := by omega
  have hc := c_Contains (sL S) (sA (x * Pm.swap n p hp1)) (by rw [sL_len]; omega); have hst : stC n (code x) (S.map code) p = (if x * Pm.swap n p hp1 ∈ S then S else S ++ [x * Pm.swap n p hp1]).map code := by
   unfold stC; rw [← code_swap hp1, ← code_mul]
   by_cases e : x * Pm.swap n p hp1 ∈ S
   · rw [if_pos (code_mem.2 e), if_pos e]
   · rw [if_neg (fun h => e (code_mem.1 h)), if_neg e]; simp only [List.map_append, List.map_cons, List.map_nil]
  rw [hst]
  by_cases e : x * Pm.swap n p hp1 ∈ S
  · rw [if_pos e]; obtain ⟨S', h1, h2⟩ := ih (p + 1) (by omega) S hx (by omega); refine ⟨S', ?_, h2⟩; apply vi_allSimple_6; simp (disch := omega) only [bi_allSimple_6, decide_eq_true hlt, decide_eq_true, sL_len, cond_true, Bool.and_true, Int.toNat_natCast, hg, c_exchange n p hp1 hn, c_then n hn, Option.bind_some, getTV_here, hc, decide_eq_true ((sL_mem hn).2 e), Bool.not_true, cond_false, w, h1]
  · rw [if_neg e]; obtain ⟨S', h1, h2⟩ := ih (p + 1) (by omega) (S ++ [x * Pm.swap n p hp1]) (by rw [List.getElem?_append_left hat]; exact hx) (by simp only [List.length_append, List.length_cons, List.length_nil]; omega); refine ⟨S', ?_, h2⟩; apply vi_allSimple_6; have e' : ¬ sA (x * Pm.swap n p hp1) ∈ sL S := fun h => e ((sL_mem hn).1 h); have ap : apOk (sL S) [sA (x * Pm.swap n p hp1)] = true := apOk1 (by rw [sL_len]; omega); simp (disch := omega) only [bi_allSimple_6, decide_eq_true hlt, decide_eq_true, sL_len, cond_true, Bool.and_true, Int.toNat_natCast, hg, c_exchange n p hp1 hn, c_then n hn, Option.bind_some, getTV_here, hc, decide_eq_false e', Bool.not_false, ap, sL_snoc, w, h1]
theorem c_allSimple_3 (n : Nat) (h1 : 1 ≤ n) (hn : n ≤ 8) : ∀ (f a : Nat) (S : List (Pm n)) (C' : List (List Nat)), a + f < 1000000 → S.length + 8 * f < 1000000 → outC n f (S.map code) a = some C' →
  ∃ S' : List (Pm n), R ii_allSimple_3 [tLA8 (sL S), tI (n : Int), tI (a : Int)] = some [tI 0, tLA8 (sL S')] ∧ S'.map code = C' := by
 intro f
 induction f with
 | zero => intro a S C' _ _ h; simp [outC] at h
 | succ f ih =>
  intro a S C' ha hl h; rw [outC] at h
  by_cases hat : a < S.length
  · have hx : S[a]? = some S[a] := List.getElem?_eq_getElem hat; rw [List.getElem?_map, hx] at h; simp only [Option.map_some] at h; obtain ⟨S1, g1, g2⟩ := c_allSimple_6 n h1 hn a S[a] (n - 1) 0 (by omega) S hx (by omega); rw [List.drop_zero] at g2; have hl1 : S1.length ≤ S.length + 7 := by
     have := stC_len (n := n) (x := code S[a]) (List.range (n - 1)) (S.map code); rw [← g2] at this; simp only [List.length_map, List.length_range] at this; omega
    rw [← g2] at h; obtain ⟨S', r1, r2⟩ := ih (a + 1) S1 C' (by omega) (by omega) h; refine ⟨S', ?_, r2⟩; apply vi_allSimple_3; have w : wi64 ((a : Int) + 1) = ((a + 1 : Nat) : Int) := by rw [wrap_i64] <;> omega
    have hlt : ((a : Int) < (S.length : Int)) := by omega
    simp only [Nat.zero_add, Int.natCast_one] at g1; simp only [bi_allSimple_3, sL_len, decide_eq_true hlt, cond_true, g1, Option.bind_some, getTV_here, getTV_next, w, r1]
  · rw [List.getElem?_eq_none (by simpa using hat)] at h; simp only [Option.some.injEq] at h; refine ⟨S, ?_, h⟩; apply vi_allSimple_3; have hlt : ¬ ((a : Int) < (S.length : Int)) := by omega
    simp only [bi_allSimple_3, sL_len, decide_eq_false hlt, cond_false]
theorem code_lt {n : Nat} (s : Pm n) : (code s).length = n ∧ (∀ x ∈ code s, x < n) ∧ (code s).Nodup := by
 refine ⟨by simp [code], fun x hx => ?_, ?_⟩
 · obtain ⟨y, hy, rfl⟩ := List.mem_map.1 hx; exact s.lt (List.mem_range.1 hy)
 · unfold code; rw [List.Nodup, List.pairwise_map]; exact (List.nodup_range (n := n)).imp fun h e => h (s.inj e)
theorem chk4 : ((List.range 4).all fun a => (List.range 4).all fun b => (List.range 4).all fun c => (List.range 4).all fun d => !decide ([a, b, c, d].Nodup) || decide ([a, b, c, d] ∈ (outC 4 30 [[0, 1, 2, 3]] 0).getD [])) = true := by decide +kernel
theorem all4 : ∀ a, a < 4 → ∀ b, b < 4 → ∀ c, c < 4 → ∀ d, d < 4 → [a, b, c, d].Nodup → [a, b, c, d] ∈ (outC 4 30 [[0, 1, 2, 3]] 0).getD [] := by
 intro a ha b hb c hc d hd hN; have h := chk4; simp only [List.all_eq_true, List.mem_range, Bool.or_eq_true, Bool.not_eq_true', decide_eq_true_eq, decide_eq_false_iff_not] at h; exact (h a ha b hb c hc d hd).resolve_left (fun g => g hN)
theorem chk3 : ((List.range 3).all fun a => (List.range 3).all fun b => (List.range 3).all fun c => !decide ([a, b, c].Nodup) || decide ([a, b, c] ∈ (outC 3 30 [[0, 1, 2]] 0).getD [])) = true := by decide +kernel
theorem all3 : ∀ a, a < 3 → ∀ b, b < 3 → ∀ c, c < 3 → [a, b, c].Nodup → [a, b, c] ∈ (outC 3 30 [[0, 1, 2]] 0).getD [] := by
 intro a ha b hb c hc hN; have h := chk3; simp only [List.all_eq_true, List.mem_range, Bool.or_eq_true, Bool.not_eq_true', decide_eq_true_eq, decide_eq_false_iff_not] at h; exact (h a ha b hb c hc).resolve_left (fun g => g hN)
theorem chk2 : ((List.range 2).all fun a => (List.range 2).all fun b => !decide ([a, b].Nodup) || decide ([a, b] ∈ (outC 2 30 [[0, 1]] 0).getD [])) = true := by decide +kernel
theorem all2 : ∀ a, a < 2 → ∀ b, b < 2 → [a, b].Nodup → [a, b] ∈ (outC 2 30 [[0, 1]] 0).getD [] := by
 intro a ha b hb hN; have h := chk2; simp only [List.all_eq_true, List.mem_range, Bool.or_eq_true, Bool.not_eq_true', decide_eq_true_eq, decide_eq_false_iff_not] at h; exact (h a ha b hb).resolve_left (fun g => g hN)
theorem chk1 : ((List.range 1).all fun a => !decide ([a].Nodup) || decide ([a] ∈ (outC 1 30 [[0]] 0).getD [])) = true := by decide +kernel
theorem all1 : ∀ a, a < 1 → [a].Nodup → [a] ∈ (outC 1 30 [[0]] 0).getD [] := by
 intro a ha hN; have h := chk1; simp only [List.all_eq_true, List.mem_range, Bool.or_eq_true, Bool.not_eq_true', decide_eq_true_eq, decide_eq_false_iff_not] at h; exact (h a ha).resolve_left (fun g => g hN)
theorem some4 : (outC 4 30 [[0, 1, 2, 3]] 0).isSome = true ∧ ((outC 4 30 [[0, 1, 2, 3]] 0).getD []).length ≤ 24 := by decide +kernel
theorem some3 : (outC 3 30 [[0, 1, 2]] 0).isSome = true ∧ ((outC 3 30 [[0, 1, 2]] 0).getD []).length ≤ 24 := by decide +kernel
theorem some2 : (outC 2 30 [[0, 1]] 0).isSome = true ∧ ((outC 2 30 [[0, 1]] 0).getD []).length ≤ 24 := by decide +kernel
theorem some1 : (outC 1 30 [[0]] 0).isSome = true ∧ ((outC 1 30 [[0]] 0).getD []).length ≤ 24 := by decide +kernel
theorem outC_all (n : Nat) (h1 : 1 ≤ n) (h4 : n ≤ 4) : ∃ C, outC n 30 [List.range n] 0 = some C ∧ C.length ≤ 24 ∧ ∀ l : List Nat, l.length = n → (∀ x ∈ l, x < n) → l.Nodup → l ∈ C := by
 obtain ⟨hs, hl⟩ : (outC n 30 [List.range n] 0).isSome = true ∧ ((outC n 30 [List.range n] 0).getD []).length ≤ 24 := by
  rcases (by omega : n = 1 ∨ n = 2 ∨ n = 3 ∨ n = 4) with rfl | rfl | rfl | rfl
  · exact some1
  · exact some2
  · exact some3
  · exact some4
 obtain ⟨C, hC⟩ := Option.isSome_iff_exists.1 hs; refine ⟨C, hC, by rw [hC] at hl; exact hl, fun l hl hx hd => ?_⟩; have key : l ∈ (outC n 30 [List.range n] 0).getD [] := by
  rcases (by omega : n = 1 ∨ n = 2 ∨ n = 3 ∨ n = 4) with rfl | rfl | rfl | rfl
  · match l, hl with
    | [a], _ => exact all1 a (hx a (by simp)) hd
  · match l, hl with
    | [a, b], _ => exact all2 a (hx a (by simp)) b (hx b (by simp)) hd
  · match l, hl with
    | [a, b, c], _ => exact all3 a (hx a (by simp)) b (hx b (by simp)) c (hx c (by simp)) hd
  · match l, hl with
    | [a, b, c, d], _ => exact all4 a (hx a (by simp)) b (hx b (by simp)) c (hx c (by simp)) d (hx d (by simp)) hd
 rw [hC] at key; exact key
theorem c_allSimple (n : Nat) (h1 : 1 ≤ n) (h4 : n ≤ 4) : ∃ S : List (Pm n), R ii_allSimple [tI (n : Int)] = some [tLA8 (sL S)] ∧ (∀ s : Pm n, s ∈ S) ∧ S.length ≤ 24 := by
 obtain ⟨C, g1, g2, g3⟩ := outC_all n h1 h4; have e : ([(1 : Pm n)]).map code = [List.range n] := by
  simp only [List.map_cons, List.map_nil, code]; congr 1; exact (List.map_congr_left fun x _ => Pm.one_f x).trans (List.map_id _)
 obtain ⟨S, r1, r2⟩ := c_allSimple_3 n h1 (by omega) 30 0 [(1 : Pm n)] C (by omega) (by simp) (by rw [e]; exact g1)
 refine ⟨S, ?_, fun s => ?_, ?_⟩
 · apply vi_allSimple; simp only [Int.natCast_zero] at r1; have e2 : ([sA (1 : Pm n)]) = sL [(1 : Pm n)] := rfl; simp only [bi_allSimple, c_nothing n (by omega), Option.bind_some, getTV_here, e2, r1, getTV_next]
 · obtain ⟨q1, q2, q3⟩ := code_lt s; have := g3 (code s) q1 q2 q3; rw [← r2] at this; exact code_mem.1 this
 · rw [← r2] at g2; simpa using g2
end Go.Ev.YtfkpbhbghbhmgaaGreat
namespace Go.Ev.YtfkpbhbghbhmgaaGreat
open Go.Ev Go.Gar
def swapC (c : List Nat) (k i : Nat) : List Nat := (c.set k (c.getD i 0)).set i (c.getD k 0)
def simC (n : Nat) : Nat → List Nat → Nat → List (List Nat) → List (List Nat)
 | 0, c, _, C => if c = List.range n then C else C ++ [c]
 | d + 1, c, k, C => ((List.range n).drop k).foldl (fun C i => simC n d (swapC c k i) (k + 1) C) C
theorem simC_len (n : Nat) : ∀ (d : Nat) (c : List Nat) (k : Nat) (C : List (List Nat)), (simC n d c k C).length ≤ C.length + n ^ d
 | 0, c, k, C => by
  simp only [simC, Nat.pow_zero]; split <;> simp
 | d + 1, c, k, C => by
  have key : ∀ (l : List Nat) (C : List (List Nat)), (l.foldl (fun C i => simC n d (swapC c k i) (k + 1) C) C).length ≤ C.length + l.length * n ^ d := by
   intro l
   induction l with
   | nil => intro C; simp
   | cons i l ih =>
    intro C; have h1 := ih (simC n d (swapC c k i) (k + 1) C); have h2 := simC_len n d (swapC c k i) (k + 1) C; rw [List.foldl_cons, List.length_cons, Nat.add_mul, Nat.one_mul]; omega
  have h := key ((List.range n).drop k) C; have hl : ((List.range n).drop k).length * n ^ d ≤ n * n ^ d := Nat.mul_le_mul_right _ (by simp); simp only [simC, Nat.pow_succ]; rw [Nat.mul_comm (n ^ d) n]; omega
theorem swap_at {n : Nat} (hn : n ≤ 8) (s : Pm n) {k i : Nat} (hk : k < n) (hi : i < n) : ∃ s' : Pm n,
  List.set (List.set (sA s) k (List.getD (sA s) i 0)) i (List.getD (sA s) k 0) = sA s' ∧ code s' = swapC (code s) k i := by
 obtain ⟨s', hs'⟩ := pm_of (n := n) (f := fun x => if x = i then s.f k else if x = k then s.f i else s.f x) (fun x hx => by
  split
  · exact s.lt hk
  · split
    · exact s.lt hi
    · exact s.lt hx) (fun x y hx hy h => by
  by_cases a1 : x = i <;> by_cases a2 : y = i
  · omega
  · rw [if_pos a1, if_neg a2] at h
    by_cases a3 : y = k
    · rw [if_pos a3] at h; have := s.inj h; omega
    · rw [if_neg a3] at h; have := s.inj h; omega
  · rw [if_neg a1, if_pos a2] at h
    by_cases a3 : x = k
    · rw [if_pos a3] at h; have := s.inj h; omega
    · rw [if_neg a3] at h; have := s.inj h; omega
  · rw [if_neg a1, if_neg a2] at h
    by_cases a3 : x = k <;> by_cases a4 : y = k
    · omega
    · rw [if_pos a3, if_neg a4] at h; have := s.inj h; omega
    · rw [if_neg a3, if_pos a4] at h; have := s.inj h; omega
    · rw [if_neg a3, if_neg a4] at h; exact s.inj h)
 refine ⟨s', ?_, ?_⟩
 · rw [sA_get hi hn, sA_get hk hn]; unfold sA; rw [A8_set hk hn, A8_set hi hn]; apply A8_congr; intro x hx; rw [hs' x hx]
 · unfold swapC; rw [code_getD s hi, code_getD s hk]; apply List.ext_getElem?; intro x
   by_cases hx : x < n
   · rw [code_get s' hx, hs' x hx, List.getElem?_set, List.getElem?_set, code_get s hx]
     by_cases e1 : i = x
     · rw [if_pos e1, if_pos e1.symm, if_pos (by simp [code]; omega)]
     · rw [if_neg e1, if_neg (Ne.symm e1)]
       by_cases e2 : k = x
       · rw [if_pos e2, if_pos e2.symm, if_pos (by simp [code]; omega)]
       · rw [if_neg e2, if_neg (Ne.symm e2)]
   · rw [List.getElem?_eq_none (by simp [code]; omega), List.getElem?_eq_none (by simp [code]; omega)]
theorem code_one (n : Nat) : code (1 : Pm n) = List.range n := (List.map_congr_left fun x _ => Pm.one_f x).trans (List.map_id _)
theorem c_l04Simples (n : Nat) (hn : n ≤ 7) : ∀ (d k : Nat) (s : Pm n) (L : List (Pm n)), k + d = n → L.length + n ^ d < 10000000 →
  ∃ L' : List (Pm n), R is_l04Simples [tLA8 (sL L), tA8 (sA s), tI (k : Int), tI (n : Int)] = some [tLA8 (sL L')] ∧ L'.map code = simC n d (code s) k (L.map code) := by
 intro d
 induction d with
 | zero =>
  intro k s L hk hl; have e : k = n := by omega
  subst e; simp only [simC, ← code_one]
  by_cases e1 : s = 1
  · subst e1; refine ⟨L, ?_, by rw [if_pos rfl]⟩; apply vs_l04Simples; simp only [bs_l04Simples, beq_self_eq_true, cond_true, c_l02Same k (by omega), Option.bind_some, getTV_here]
  · refine ⟨L ++ [s], ?_, by rw [if_neg (fun h => e1 (code_inj h))]; simp⟩; apply vs_l04Simples; have e2 : (sA s == sA (1 : Pm k)) = false := by rw [beq_sA (by omega), decide_eq_false e1]
    have ap : apOk (sL L) [sA s] = true := apOk1 (by rw [sL_len]; omega); simp only [bs_l04Simples, beq_self_eq_true, cond_true, c_l02Same k (by omega), Option.bind_some, getTV_here, e2, cond_false, ap, sL_snoc]
 | succ d ih =>
  intro k s L hk hl
  have loop : ∀ (m i : Nat), i + m = n → k ≤ i → ∀ L : List (Pm n), L.length + m * n ^ d < 10000000 →
    ∃ L' : List (Pm n), R is_l04Simples_6 [tLA8 (sL L), tA8 (sA s), tI (k : Int), tI (n : Int), tI (i : Int)] = some [tI 0, tLA8 (sL L')] ∧
     L'.map code = ((List.range n).drop i).foldl (fun C i => simC n d (swapC (code s) k i) (k + 1) C) (L.map code) := by
   intro m
   induction m with
   | zero =>
    intro i hi hki L hl; refine ⟨L, ?_, by rw [List.drop_of_length_le (by simp; omega)]; rfl⟩; apply vs_l04Simples_6; have : ¬ ((i : Int) < (n : Int)) := by omega
    simp only [bs_l04Simples_6, decide_eq_false this, cond_false]
   | succ m ihm =>
    intro i hi hki L hl; rw [Nat.add_mul, Nat.one_mul] at hl; obtain ⟨s', a1, a2⟩ := swap_at (n := n) (by omega) s (k := k) (i := i) (by omega) (by omega); obtain ⟨L1, b1, b2⟩ := ih (k + 1) s' L (by omega) (by omega); have hl1 : L1.length ≤ L.length + n ^ d := by
     have := simC_len n d (code s') (k + 1) (L.map code); rw [← b2] at this; simpa using this
    obtain ⟨L2, c1, c2⟩ := ihm (i + 1) (by omega) (by omega) L1 (by omega)
    refine ⟨L2, ?_, ?_⟩
    · apply vs_l04Simples_6; have w : wi64 ((i : Int) + 1) = ((i + 1 : Nat) : Int) := by rw [wrap_i64] <;> omega
      have w2 : wi64 ((k : Int) + 1) = ((k + 1 : Nat) : Int) := by rw [wrap_i64] <;> omega
      have hlt : ((i : Int) < (n : Int)) := by omega
      simp (disch := omega) only [bs_l04Simples_6, decide_eq_true hlt, decide_eq_true, Bool.and_true, cond_true, Int.toNat_natCast, a1, w, w2, b1, Option.bind_some, getTV_here, c1]
    · rw [c2, b2, List.drop_eq_getElem_cons (l := List.range n) (i := i) (by simp; omega), List.foldl_cons, List.getElem_range, a2]
  obtain ⟨L', r1, r2⟩ := loop (n - k) k (by omega) (Nat.le_refl _) L (by
   have : (n - k) * n ^ d ≤ n * n ^ d := Nat.mul_le_mul_right _ (by omega); rw [Nat.pow_succ, Nat.mul_comm (n ^ d) n] at hl; omega)
  refine ⟨L', ?_, r2⟩; apply vs_l04Simples; have hne : ((k : Int) == (n : Int)) = false := by rw [beq_dec, decide_eq_false (by omega)]
  simp only [bs_l04Simples, hne, cond_false, r1, Option.bind_some, getTV_next, getTV_here]
theorem schk4 : ((List.range 4).all fun a => (List.range 4).all fun b => (List.range 4).all fun c => (List.range 4).all fun d => !decide ([a, b, c, d].Nodup) || decide ([a, b, c, d] = [0, 1, 2, 3]) || decide ([a, b, c, d] ∈ simC 4 4 [0, 1, 2, 3] 0 [])) = true := by decide +kernel
theorem schk3 : ((List.range 3).all fun a => (List.range 3).all fun b => (List.range 3).all fun c => !decide ([a, b, c].Nodup) || decide ([a, b, c] = [0, 1, 2]) || decide ([a, b, c] ∈ simC 3 3 [0, 1, 2] 0 [])) = true := by decide +kernel
theorem schk2 : ((List.range 2).all fun a => (List.range 2).all fun b => !decide ([a, b].Nodup) || decide ([a, b] = [0, 1]) || decide ([a, b] ∈ simC 2 2 [0, 1] 0 [])) = true := by decide +kernel
theorem slen4 : (simC 4 4 [0, 1, 2, 3] 0 []).length ≤ 24 := by decide +kernel
theorem slen3 : (simC 3 3 [0, 1, 2] 0 []).length ≤ 24 := by decide +kernel
theorem slen2 : (simC 2 2 [0, 1] 0 []).length ≤ 24 := by decide +kernel
theorem slen1 : (simC 1 1 [0] 0 []).length ≤ 24 := by decide +kernel
theorem simC_all (n : Nat) (h1 : 1 ≤ n) (h4 : n ≤ 4) : (simC n n (List.range n) 0 []).length ≤ 24 ∧ ∀ l : List Nat, l.length = n → (∀ x ∈ l, x < n) → l.Nodup → l ≠ List.range n → l ∈ simC n n (List.range n) 0 [] := by
 rcases (by omega : n = 1 ∨ n = 2 ∨ n = 3 ∨ n = 4) with rfl | rfl | rfl | rfl
 · refine ⟨slen1, fun l hl hx hN hne => ?_⟩
   match l, hl with
   | [a], _ =>
    have := hx a (by simp); have e : a = 0 := by omega
    subst e; exact absurd rfl hne
 · refine ⟨slen2, fun l hl hx hN hne => ?_⟩
   match l, hl with
   | [a, b], _ =>
    have h := schk2; simp only [List.all_eq_true, List.mem_range, Bool.or_eq_true, Bool.not_eq_true', decide_eq_true_eq, decide_eq_false_iff_not] at h; exact ((h a (hx a (by simp)) b (hx b (by simp))).resolve_left (fun g => g.elim (fun g => g hN) (fun g => hne g)))
 · refine ⟨slen3, fun l hl hx hN hne => ?_⟩
   match l, hl with
   | [a, b, c], _ =>
    have h := schk3; simp only [List.all_eq_true, List.mem_range, Bool.or_eq_true, Bool.not_eq_true', decide_eq_true_eq, decide_eq_false_iff_not] at h; exact ((h a (hx a (by simp)) b (hx b (by simp)) c (hx c (by simp))).resolve_left (fun g => g.elim (fun g => g hN) (fun g => hne g)))
 · refine ⟨slen4, fun l hl hx hN hne => ?_⟩
   match l, hl with
   | [a, b, c, d], _ =>
    have h := schk4; simp only [List.all_eq_true, List.mem_range, Bool.or_eq_true, Bool.not_eq_true', decide_eq_true_eq, decide_eq_false_iff_not] at h; exact ((h a (hx a (by simp)) b (hx b (by simp)) c (hx c (by simp)) d (hx d (by simp))).resolve_left (fun g => g.elim (fun g => g hN) (fun g => hne g)))
theorem c_l04Simples_all (n : Nat) (h1 : 1 ≤ n) (h4 : n ≤ 4) : ∃ S : List (Pm n), R is_l04Simples [tLA8 [], tA8 (sA (1 : Pm n)), tI 0, tI (n : Int)] = some [tLA8 (sL S)] ∧ (∀ s : Pm n, s ≠ 1 → s ∈ S) ∧ S.length ≤ 24 ∧ (n = 1 → S = []) := by
 have hp : n ^ n ≤ 256 := by rcases (by omega : n = 1 ∨ n = 2 ∨ n = 3 ∨ n = 4) with rfl | rfl | rfl | rfl <;> decide
 obtain ⟨S, r1, r2⟩ := c_l04Simples n (by omega) n 0 (1 : Pm n) [] (by omega) (by simp only [List.length_nil]; omega); rw [code_one, List.map_nil] at r2; obtain ⟨g1, g2⟩ := simC_all n h1 h4
 refine ⟨S, r1, fun s hs => ?_, ?_⟩
 · obtain ⟨q1, q2, q3⟩ := code_lt s; have := g2 (code s) q1 q2 q3 (fun h => hs (code_inj (by rw [h, code_one]))); rw [← r2] at this; exact code_mem.1 this
 · rw [← r2] at g1; refine ⟨by simpa using g1, fun h => ?_⟩; subst h; have e : simC 1 1 (List.range 1) 0 [] = [] := by decide +kernel
   rw [e] at r2; simpa using r2
end Go.Ev.YtfkpbhbghbhmgaaGreat
namespace Go.Ev.YtfkpbhbghbhmgaaGreat
open Go.Ev
theorem flat_get' {α β : Type} {f : α → List β} {n : Nat} (hf : ∀ a, (f a).length = n) : ∀ (xs : List α) (i j : Nat), j < n → (xs.flatMap f)[i * n + j]? = (xs[i]?).bind fun a => (f a)[j]?
 | [], i, j, _ => by simp
 | a :: xs, 0, j, hj => by
  rw [List.flatMap_cons, List.getElem?_append_left (by rw [hf]; omega)]; simp
 | a :: xs, i + 1, j, hj => by
  rw [List.flatMap_cons, List.getElem?_append_right (by rw [hf]; rw [Nat.add_mul]; omega), hf]; rw [show (i + 1) * n + j - n = i * n + j by rw [Nat.add_mul]; omega, flat_get' hf xs i j hj]; simp
theorem pairsOf_get' {α : Type} (xs : List α) {i j : Nat} (hi : i < xs.length) (hj : j < xs.length) : (pairsOf xs)[i * xs.length + j]? = some (xs[i], xs[j]) := by
 unfold pairsOf; rw [flat_get' (n := xs.length) (fun a => by simp) xs i j hj, List.getElem?_eq_getElem hi]; simp [List.getElem?_eq_getElem hj]
theorem cmpsK_all {α : Type} {call : Oracle} {cmp : Nat} {t : Ty} (k : List Int → Option α) (cf : t.den → t.den → Int) : ∀ (r : List (t.den × t.den)) (acc : List Int),
  (∀ p ∈ r, call cmp [⟨t, p.1⟩, ⟨t, p.2⟩] = some [⟨.int .i64, cf p.1 p.2⟩]) → cmpsK call cmp t k r acc = k (acc ++ r.map fun p => cf p.1 p.2)
 | [], acc, _ => by simp [cmpsK]
 | p :: r, acc, h => by
  simp only [cmpsK, h p (by simp), Option.bind_some, cmpOut]; rw [cmpsK_all k cf r _ (fun q hq => h q (by simp [hq]))]; simp
theorem mem_pairsOf {α : Type} {xs : List α} {p : α × α} (h : p ∈ pairsOf xs) : p.1 ∈ xs ∧ p.2 ∈ xs := by
 simp only [pairsOf, List.mem_flatMap, List.mem_map] at h; obtain ⟨a, ha, b, hb, rfl⟩ := h; exact ⟨ha, hb⟩
theorem ext_all {α : Type} (a : Array α) {n : Nat} (h : a.size = n) : a.extract 0 n = a := by
 subst h; simp
theorem sortE_ok {call : Oracle} {cmp : Nat} {t : Ty} (cf : t.den → t.den → Int) (xs : List t.den) (hl : xs.length ≤ 549755813888)
  (hc : ∀ a ∈ xs, ∀ b ∈ xs, call cmp [⟨t, a⟩, ⟨t, b⟩] = some [⟨.int .i64, cf a b⟩]) (h1 : ∀ a ∈ xs, ¬ cf a a < 0)
  (h2 : ∀ a ∈ xs, ∀ b ∈ xs, ∀ c ∈ xs, cf a b < 0 → cf b c < 0 → cf a c < 0) (h3 : ∀ a ∈ xs, ∀ b ∈ xs, ∀ c ∈ xs, ¬ cf a b < 0 → ¬ cf b c < 0 → ¬ cf a c < 0) :
  ∃ ys, sortE call cmp t xs = some [⟨.slice t, ys⟩] ∧ ys.Perm xs ∧ ys.Pairwise (fun a b => ¬ cf b a < 0) := by
 cases xs with
 | nil => exact ⟨[], rfl, .nil, .nil⟩
 | cons x r =>
  have hlim : r.length < lim := by simp only [List.length_cons] at hl; simp only [lim]; omega
  simp only [sortE, if_pos hlim]; rw [cmpsK_all _ cf _ _ (fun p hp => hc _ (mem_pairsOf hp).1 _ (mem_pairsOf hp).2)]; simp only [List.nil_append]; generalize hcs : ((pairsOf (x :: r)).map fun p => cf p.1 p.2) = cs; have hcf : ∀ i j : Fin (r.length + 1), cfC (r.length + 1) cs i j = cf (x :: r)[i.val] (x :: r)[j.val] := by
   intro i j; have := pairsOf_get' (x :: r) (i := i.val) (j := j.val) i.isLt j.isLt; simp only [List.length_cons] at this; rw [cfC, ← hcs, List.getD_eq_getElem?_getD, List.getElem?_map, this]
   rfl
  have hm : ∀ i : Fin (r.length + 1), (x :: r)[i.val] ∈ x :: r := fun i => List.getElem_mem _; have hO : Sort.SWO (ltC (r.length + 1) cs) := by
   refine ⟨fun i => ?_, fun i j k a b => ?_, fun i j k a b => ?_⟩
   · simp only [ltC, hcf, decide_eq_false_iff_not]; exact h1 _ (hm i)
   · simp only [ltC, hcf, decide_eq_true_eq] at a b ⊢; exact h2 _ (hm i) _ (hm j) _ (hm k) a b
   · simp only [ltC, hcf, decide_eq_false_iff_not] at a b ⊢; exact h3 _ (hm i) _ (hm j) _ (hm k) a b
  have hsw : swoB (ltC (r.length + 1) cs) = true := by
   simp only [swoB, Bool.and_eq_true, decide_eq_true_eq]; exact ⟨⟨hO.irrefl, hO.trans⟩, hO.ntrans⟩
  rw [if_pos hsw]; refine ⟨_, rfl, ?_⟩; have hds : (Array.ofFn fun i : Fin (r.length + 1) => i).size = r.length + 1 := by simp
  obtain ⟨⟨p1, p2, p3⟩, hs⟩ := Go.Sort.pdq_sorts (ltC (r.length + 1) cs) hO (Array.ofFn fun i : Fin (r.length + 1) => i) 0 (r.length + 1) (Lib.bitLen (r.length + 1)) true true (Nat.zero_le _) (by rw [hds]; exact Nat.le_refl _) (Or.inl rfl)
  change (sortBy (ltC (r.length + 1) cs)).size = _ at p1
  change ((sortBy (ltC (r.length + 1) cs)).extract 0 (r.length + 1)).toList.Perm _ at p3
  change Sort.SortedIn _ 0 _ (sortBy (ltC (r.length + 1) cs)) at hs
  generalize sortBy (ltC (r.length + 1) cs) = out at p1 p3 hs; rw [hds] at p1; rw [ext_all out p1, ext_all _ hds] at p3; have e3 : ((Array.ofFn fun i : Fin (r.length + 1) => i).toList.map fun i => (x :: r).getD i.val x) = x :: r := by
   apply List.ext_getElem
   · simp
   · intro i a b; simp only [List.length_map, Array.length_toList, hds] at a; have a' : i < (x :: r).length := a; simp only [List.getElem_map, Array.getElem_toList, Array.getElem_ofFn, List.getD_eq_getElem?_getD, List.getElem?_eq_getElem a', Option.getD_some]
  refine ⟨?_, ?_⟩
  · have := p3.map fun i => (x :: r).getD i.val x; rwa [e3] at this
  · rw [List.pairwise_iff_getElem]; intro i j hi hj hij; simp only [List.length_map, Array.length_toList] at hi hj; have := hs i j (Nat.zero_le _) hij (by omega); rw [getElem!_pos out i hi, getElem!_pos out j hj] at this; simp only [ltC, hcf, decide_eq_false_iff_not] at this; have g : ∀ q : Fin (r.length + 1), (x :: r).getD q.val x = (x :: r)[q.val] := by
     intro q; have hq : q.val < (x :: r).length := q.isLt; simp only [List.getD_eq_getElem?_getD, List.getElem?_eq_getElem hq, Option.getD_some]
    simp only [List.getElem_map, Array.getElem_toList, g]; exact this
end Go.Ev.YtfkpbhbghbhmgaaGreat
namespace Go.Ev.YtfkpbhbghbhmgaaGreat
open Go.Ev Go.Gar
def bef : List Int → List Int → Bool
 | a :: p, b :: q => if a = b then bef p q else decide (a < b)
 | _, _ => false
def cmpL : List Int → List Int → Int
 | a :: p, b :: q => if a < b then -1 else if b < a then 1 else cmpL p q
 | _, _ => 0
theorem cmpL_bef : ∀ p q : List Int, (cmpL p q < 0) = (bef p q = true)
 | [], [] => by simp [cmpL, bef]
 | [], _ :: _ => by simp [cmpL, bef]
 | _ :: _, [] => by simp [cmpL, bef]
 | a :: p, b :: q => by
  simp only [cmpL, bef]
  by_cases h1 : a < b
  · rw [if_pos h1, if_neg (by omega), decide_eq_true h1]; simp
  · rw [if_neg h1]
    by_cases h2 : b < a
    · rw [if_pos h2, if_neg (by omega), decide_eq_false h1]; simp
    · rw [if_neg h2, if_pos (by omega)]; exact cmpL_bef p q
theorem bef_irr : ∀ p : List Int, bef p p = false
 | [] => rfl
 | a :: p => by simp only [bef, if_true]; exact bef_irr p
theorem bef_trans : ∀ {p q r : List Int}, p.length = q.length → q.length = r.length → bef p q = true → bef q r = true → bef p r = true
 | [], _, _, _, _, h, _ => by simp [bef] at h
 | a :: p, [], _, _, _, h, _ => by simp [bef] at h
 | a :: p, b :: q, [], _, _, _, h => by simp [bef] at h
 | a :: p, b :: q, c :: r, l1, l2, h1, h2 => by
  simp only [bef] at h1 h2 ⊢; simp only [List.length_cons] at l1 l2
  by_cases e1 : a = b
  · subst e1; rw [if_pos rfl] at h1
    by_cases e2 : a = c
    · subst e2; rw [if_pos rfl] at h2; rw [if_pos rfl]; exact bef_trans (by omega) (by omega) h1 h2
    · rw [if_neg e2] at h2 ⊢; exact h2
  · rw [if_neg e1] at h1; simp only [decide_eq_true_eq] at h1
    by_cases e2 : b = c
    · subst e2; rw [if_neg e1]; simpa using h1
    · rw [if_neg e2] at h2; simp only [decide_eq_true_eq] at h2; rw [if_neg (by omega)]; simp only [decide_eq_true_eq]; omega
theorem bef_total : ∀ {p q : List Int}, p.length = q.length → bef p q = false → bef q p = false → p = q
 | [], [], _, _, _ => rfl
 | a :: p, b :: q, l, h1, h2 => by
  simp only [bef] at h1 h2; simp only [List.length_cons] at l
  by_cases e : a = b
  · subst e; rw [if_pos rfl] at h1 h2; rw [bef_total (by omega) h1 h2]
  · rw [if_neg e] at h1; rw [if_neg (Ne.symm e)] at h2; simp only [decide_eq_false_iff_not] at h1 h2; omega
 | [], _ :: _, l, _, _ => by simp at l
 | _ :: _, [], l, _, _ => by simp at l
theorem drop_cons8 {x : List Int} (h : x.length = 8) {i : Nat} (hi : i < 8) : x.drop i = List.getD x i 0 :: x.drop (i + 1) := by
 rw [List.drop_eq_getElem_cons (by omega), List.getD_eq_getElem?_getD, List.getElem?_eq_getElem (by omega)]
 rfl
theorem take_tw {α : Type} (f : α → Bool) : ∀ L : List α, L.take (L.takeWhile f).length = L.takeWhile f ∧ L.drop (L.takeWhile f).length = L.dropWhile f
 | [] => ⟨rfl, rfl⟩
 | a :: L => by
  simp only [List.takeWhile_cons, List.dropWhile_cons]
  cases f a with
  | true => exact ⟨by simp [(take_tw f L).1], by simp [(take_tw f L).2]⟩
  | false => exact ⟨rfl, rfl⟩
theorem tw_le {α : Type} (f : α → Bool) (L : List α) : (L.takeWhile f).length ≤ L.length := (List.takeWhile_sublist _).length_le
theorem c_isNaN_b (a : Int) : R icmp_isNaN_byte_ [tU8 a] = some [tB false] := by
 apply vcmp_isNaN_byte_; simp [bcmp_isNaN_byte_]
theorem c_cmp_b (a b : Int) : R icmp_Compare_byte_ [tU8 a, tU8 b] = some [tI (if a < b then -1 else if b < a then 1 else 0)] := by
 apply vcmp_Compare_byte_; simp only [bcmp_Compare_byte_, c_isNaN_b, Option.bind_some, getTV_here, cond_false]
 by_cases h1 : a < b
 · simp only [decide_eq_true h1, cond_true, if_pos h1]
 · by_cases h2 : b < a
   · simp only [decide_eq_false h1, decide_eq_true h2, cond_true, cond_false, if_neg h1, if_pos h2]
   · simp only [decide_eq_false h1, decide_eq_false h2, cond_false, if_neg h1, if_neg h2]
theorem c_Compare_b_2 (a b : List Int) (ha : a.length = 8) (hb : b.length = 8) : ∀ i : Nat, i ≤ 8 → R ig_Compare___byte_byte__2 [tLU8 a, tLU8 b, tI 8, tI (i : Int)] =
  some (if cmpL (a.drop i) (b.drop i) = 0 then [tI 0, tLU8 a, tLU8 b] else [tI 1, tI (cmpL (a.drop i) (b.drop i))]) := by
 refine up_loop _ ?_ (fun i hi ih => ?_)
 · apply vg_Compare___byte_byte__2; rw [List.drop_of_length_le (by omega), List.drop_of_length_le (by omega)]; simp [bg_Compare___byte_byte__2, cmpL]
 · apply vg_Compare___byte_byte__2; rw [drop_cons8 ha hi, drop_cons8 hb hi]; have h1 : ¬ ((8 : Int) ≤ (i : Int)) := by omega
   simp (disch := omega) only [bg_Compare___byte_byte__2, ha, hb, show ((8 : Nat) : Int) = 8 from rfl, decide_eq_true, decide_eq_false h1, cond_true, cond_false, Bool.and_true, Int.toNat_natCast, c_cmp_b, Option.bind_some, getTV_here, bne_dec, wrap_i64, cmpL]
   by_cases e1 : List.getD a i 0 < List.getD b i 0
   · simp only [if_pos e1]; rfl
   · by_cases e2 : List.getD b i 0 < List.getD a i 0
     · simp only [if_neg e1, if_pos e2]; rfl
     · simp only [if_neg e1, if_neg e2, decide_true, Bool.not_true, cond_false]; rw [show (i : Int) + 1 = ((i + 1 : Nat) : Int) by omega, ih]
theorem c_Compare_b (a b : List Int) (ha : a.length = 8) (hb : b.length = 8) : R ig_Compare___byte_byte_ [tLU8 a, tLU8 b] = some [tI (cmpL a b)] := by
 apply vg_Compare___byte_byte_; have h := c_Compare_b_2 a b ha hb 0 (by omega); simp only [Int.natCast_zero, List.drop_zero] at h; simp only [bg_Compare___byte_byte_, ha, show ((8 : Nat) : Int) = 8 from rfl, h, Option.bind_some]
 by_cases e : cmpL a b = 0
 · simp [e, ha, hb]
 · simp [e]
end Go.Ev.YtfkpbhbghbhmgaaGreat
namespace Go.Ev.YtfkpbhbghbhmgaaGreat
open Go.Ev Go.Gar
abbrev VN := Int × Int × List (List Int)
structure OrdOn {α : Type} (C : α → Prop) (lt : α → α → Bool) : Prop where
 irr : ∀ a, C a → lt a a = false
 trans : ∀ a b c, C a → C b → C c → lt a b = true → lt b c = true → lt a c = true
 total : ∀ a b, C a → C b → lt a b = false → lt b a = false → a = b
theorem OrdOn.ntrans {α : Type} {C : α → Prop} {lt : α → α → Bool} (h : OrdOn C lt) {a b c : α} (ha : C a) (hb : C b) (hc : C c) (h1 : ¬ lt a b = true) (h2 : ¬ lt b c = true) : ¬ lt a c = true := by
 intro g
 by_cases e : lt b a = true
 · exact h2 (h.trans b a c hb ha hc e g)
 · have := h.total a b ha hb (by simpa using h1) (by simpa using e); subst this; exact h2 g
def insO {α : Type} (lt : α → α → Bool) (L : List α) (p : α) : List α := L.takeWhile (fun x => lt x p) ++ p :: L.dropWhile (fun x => lt x p)
theorem insO_perm {α : Type} (lt : α → α → Bool) (L : List α) (p : α) : (insO lt L p).Perm (p :: L) := by
 unfold insO; refine List.perm_middle.trans ?_; rw [List.takeWhile_append_dropWhile]
theorem insO_len {α : Type} (lt : α → α → Bool) (L : List α) (p : α) : (insO lt L p).length = L.length + 1 := by
 have := (insO_perm lt L p).length_eq; simpa using this
theorem ins_key {α : Type} {C : α → Prop} {lt : α → α → Bool} (h : OrdOn C lt) {p : α} (hp : C p) : ∀ L : List α, (∀ x ∈ L, C x) → L.Pairwise (fun a b => ¬ lt b a = true) →
  (∀ x ∈ L.takeWhile (fun x => lt x p), lt x p = true) ∧ (∀ x ∈ L.dropWhile (fun x => lt x p), ¬ lt x p = true) := by
 intro L
 induction L with
 | nil => intro _ _; exact ⟨fun x hx => by simp at hx, fun x hx => by simp at hx⟩
 | cons a L ih =>
  intro hC hs; rw [List.pairwise_cons] at hs; obtain ⟨i1, i2⟩ := ih (fun x hx => hC x (by simp [hx])) hs.2; simp only [List.takeWhile_cons, List.dropWhile_cons]
  cases e : lt a p with
  | true =>
   simp only [if_true]; refine ⟨fun x hx => ?_, i2⟩
   rcases List.mem_cons.1 hx with rfl | hx
   · exact e
   · exact i1 x hx
  | false =>
   simp only [Bool.false_eq_true, if_false]; refine ⟨fun x hx => by simp at hx, fun x hx => ?_⟩
   rcases List.mem_cons.1 hx with rfl | hx
   · simp [e]
   · intro hxp; have hxC := hC x (by simp [hx]); have haC := hC a (by simp)
     by_cases exa : lt a x = true
     · have := h.trans a x p haC hxC hp exa hxp; rw [e] at this; simp at this
     · have := h.total a x haC hxC (by simpa using exa) (by simpa using hs.1 x hx); subst this; rw [e] at hxp; simp at hxp
theorem insO_sorted {α : Type} {C : α → Prop} {lt : α → α → Bool} (h : OrdOn C lt) {p : α} (hp : C p) {L : List α} (hC : ∀ x ∈ L, C x) (hs : L.Pairwise (fun a b => ¬ lt b a = true)) : (insO lt L p).Pairwise (fun a b => ¬ lt b a = true) := by
 obtain ⟨k1, k2⟩ := ins_key h hp L hC hs; unfold insO; have hL : (L.takeWhile (fun x => lt x p) ++ L.dropWhile (fun x => lt x p)).Pairwise (fun a b => ¬ lt b a = true) := by rw [List.takeWhile_append_dropWhile]; exact hs
 rw [List.pairwise_append] at hL; rw [List.pairwise_append, List.pairwise_cons]; refine ⟨hL.1, ⟨fun x hx => k2 x hx, hL.2.1⟩, fun a ha b hb => ?_⟩; have hap := k1 a ha; have haC := hC a ((List.takeWhile_sublist _).subset ha)
 rcases List.mem_cons.1 hb with rfl | hb
 · intro hba; have := h.trans a b a haC hp haC hap hba; rw [h.irr a haC] at this; simp at this
 · exact hL.2.2 a ha b hb
theorem ins_mem {α : Type} {C : α → Prop} {lt : α → α → Bool} (h : OrdOn C lt) {p : α} (hp : C p) {L : List α} (hC : ∀ x ∈ L, C x) (hs : L.Pairwise (fun a b => ¬ lt b a = true)) : p ∈ L ↔ (L.dropWhile (fun x => lt x p)).head? = some p := by
 obtain ⟨k1, k2⟩ := ins_key h hp L hC hs
 constructor
 · intro hm; rw [← List.takeWhile_append_dropWhile (p := fun x => lt x p) (l := L), List.mem_append] at hm
   rcases hm with hm | hm
   · have := k1 p hm; rw [h.irr p hp] at this; simp at this
   · cases hd : L.dropWhile (fun x => lt x p) with
     | nil => rw [hd] at hm; simp at hm
     | cons a r =>
      rw [hd] at hm k2
      rcases List.mem_cons.1 hm with rfl | hm
      · rfl
      · have hsd : (a :: r).Pairwise (fun a b => ¬ lt b a = true) := by
         rw [← hd]; exact hs.sublist (List.dropWhile_sublist _)
        rw [List.pairwise_cons] at hsd; have haC : C a := hC a ((List.dropWhile_sublist (fun x => lt x p)).subset (by rw [hd]; simp)); have := h.total a p haC hp (by simpa using k2 a (by simp)) (by simpa using hsd.1 p hm); rw [this]; rfl
 · intro hh
   cases hd : L.dropWhile (fun x => lt x p) with
   | nil => rw [hd] at hh; simp at hh
   | cons a r =>
    rw [hd] at hh; simp only [List.head?_cons, Option.some.injEq] at hh; subst hh; exact (List.dropWhile_sublist (fun x => lt x a)).subset (by rw [hd]; simp)
theorem sorted_unique {α : Type} {C : α → Prop} {lt : α → α → Bool} (h : OrdOn C lt) {L M : List α} (hC : ∀ x ∈ L, C x) (hp : L.Perm M) (h1 : L.Pairwise (fun a b => ¬ lt b a = true)) (h2 : M.Pairwise (fun a b => ¬ lt b a = true)) : L = M :=
 List.Perm.eq_of_pairwise (le := fun a b => ¬ lt b a = true) (fun a b ha hb x y => h.total a b (hC a ha) (hC b (hp.mem_iff.2 hb)) (by simpa using y) (by simpa using x)) h1 h2 hp
def befS : List (List Int) → List (List Int) → Bool
 | a :: p, b :: q => if a = b then befS p q else bef a b
 | _, _ => false
def cmpS : List (List Int) → List (List Int) → Int
 | a :: p, b :: q => if cmpL a b = 0 then cmpS p q else cmpL a b
 | _, _ => 0
theorem cmpL_zero : ∀ {p q : List Int}, p.length = q.length → (cmpL p q = 0 ↔ p = q)
 | [], [], _ => by simp [cmpL]
 | a :: p, b :: q, l => by
  simp only [List.length_cons] at l; simp only [cmpL]
  by_cases h1 : a < b
  · rw [if_pos h1]
    constructor
    · intro h; simp at h
    · intro h; simp only [List.cons.injEq] at h; omega
  · rw [if_neg h1]
    by_cases h2 : b < a
    · rw [if_pos h2]
      constructor
      · intro h; simp at h
      · intro h; simp only [List.cons.injEq] at h; omega
    · rw [if_neg h2, cmpL_zero (by omega)]; have : a = b := by omega
      simp [this]
 | [], _ :: _, l => by simp at l
 | _ :: _, [], l => by simp at l
theorem cmpS_befS : ∀ {p q : List (List Int)}, Len8 p → Len8 q → ((cmpS p q < 0) = (befS p q = true))
 | [], [], _, _ => by simp [cmpS, befS]
 | [], _ :: _, _, _ => by simp [cmpS, befS]
 | _ :: _, [], _, _ => by simp [cmpS, befS]
 | a :: p, b :: q, h1, h2 => by
  have ha := h1 a (by simp); have hb := h2 b (by simp); simp only [cmpS, befS]
  by_cases e : a = b
  · rw [if_pos e, if_pos ((cmpL_zero (by omega)).2 e)]; exact cmpS_befS (fun x hx => h1 x (by simp [hx])) (fun x hx => h2 x (by simp [hx]))
  · rw [if_neg e, if_neg (fun h => e ((cmpL_zero (by omega)).1 h))]; exact cmpL_bef a b
theorem befS_irr : ∀ p : List (List Int), befS p p = false
 | [] => rfl
 | a :: p => by simp only [befS, if_true]; exact befS_irr p
theorem befS_trans : ∀ {p q r : List (List Int)}, Len8 p → Len8 q → Len8 r → befS p q = true → befS q r = true → befS p r = true
 | [], _, _, _, _, _, h, _ => by simp [befS] at h
 | a :: p, [], _, _, _, _, h, _ => by simp [befS] at h
 | a :: p, b :: q, [], _, _, _, _, h => by simp [befS] at h
 | a :: p, b :: q, c :: r, l1, l2, l3, h1, h2 => by
  simp only [befS] at h1 h2 ⊢; have la := l1 a (by simp); have lb := l2 b (by simp); have lc := l3 c (by simp)
  by_cases e1 : a = b
  · subst e1; rw [if_pos rfl] at h1
    by_cases e2 : a = c
    · subst e2; rw [if_pos rfl] at h2; rw [if_pos rfl]; exact befS_trans (fun x hx => l1 x (by simp [hx])) (fun x hx => l2 x (by simp [hx])) (fun x hx => l3 x (by simp [hx])) h1 h2
    · rw [if_neg e2] at h2 ⊢; exact h2
  · rw [if_neg e1] at h1
    by_cases e2 : b = c
    · subst e2; rw [if_neg e1]; exact h1
    · rw [if_neg e2] at h2; have h3 := bef_trans (p := a) (q := b) (r := c) (by omega) (by omega) h1 h2; rw [if_neg (fun e => by subst e; rw [bef_irr] at h3; simp at h3)]; exact h3
theorem befS_total : ∀ {p q : List (List Int)}, p.length = q.length → Len8 p → Len8 q → befS p q = false → befS q p = false → p = q
 | [], [], _, _, _, _, _ => rfl
 | a :: p, b :: q, l, l1, l2, h1, h2 => by
  simp only [befS] at h1 h2; simp only [List.length_cons] at l; have la := l1 a (by simp); have lb := l2 b (by simp)
  by_cases e : a = b
  · subst e; rw [if_pos rfl] at h1 h2; rw [befS_total (by omega) (fun x hx => l1 x (by simp [hx])) (fun x hx => l2 x (by simp [hx])) h1 h2]
  · rw [if_neg e] at h1; rw [if_neg (Ne.symm e)] at h2; exact absurd (bef_total (p := a) (q := b) (by omega) h1 h2) e
 | [], _ :: _, l, _, _, _, _ => by simp at l
 | _ :: _, [], l, _, _, _, _ => by simp at l
def Cls (n p : Int) (k : Nat) (v : VN) : Prop := v.1 = n ∧ v.2.1 = p ∧ v.2.2.length = k ∧ Len8 v.2.2
def befV (v w : VN) : Bool := befS v.2.2 w.2.2
theorem ordV (n p : Int) (k : Nat) : OrdOn (Cls n p k) befV := by
 refine ⟨fun a _ => befS_irr _, fun a b c ha hb hc h1 h2 => befS_trans ha.2.2.2 hb.2.2.2 hc.2.2.2 h1 h2, fun a b ha hb h1 h2 => ?_⟩; have := befS_total (by rw [ha.2.2.1, hb.2.2.1]) ha.2.2.2 hb.2.2.2 h1 h2; obtain ⟨a1, a2, a3⟩ := a; obtain ⟨b1, b2, b3⟩ := b; obtain ⟨rfl, rfl, _⟩ := ha; obtain ⟨rfl, rfl, _⟩ := hb; simp only at this; rw [this]
theorem getD8' {L : List (List Int)} {i : Nat} {d : List Int} (hi : i < L.length) : List.getD L i d = L[i] := by
 simp [List.getD_eq_getElem?_getD, List.getElem?_eq_getElem hi]
theorem c_l04Before_5 (x0 x1 x3 x4 : Int) (A B : List (List Int)) (hA : Len8 A) (hB : Len8 B) (i : Nat) (hi : i < A.length) (hi' : i < B.length) (hl : A.length < 1000000000) : ∀ j : Nat, j ≤ 8 →
  R is_l04Before_5 [tI x0, tI x1, tLA8 A, tI x3, tI x4, tLA8 B, tI (i : Int), tI (j : Int)] = some (if A[i].drop j = B[i].drop j then [tI 0, tI x0, tI x1, tLA8 A, tI x3, tI x4, tLA8 B, tI (i : Int)] else [tI 1, tB (bef (A[i].drop j) (B[i].drop j))]) := by
 have a8 := hA _ (List.getElem_mem hi); have b8 := hB _ (List.getElem_mem hi')
 refine up_loop _ ?_ (fun j hj ih => ?_)
 · apply vs_l04Before_5; rw [if_pos (by rw [List.drop_of_length_le (by omega), List.drop_of_length_le (by omega)])]; simp [bs_l04Before_5]
 · apply vs_l04Before_5; rw [drop_cons8 a8 hj, drop_cons8 b8 hj]; simp (disch := omega) only [bs_l04Before_5, decide_eq_true, cond_true, Bool.and_true, Int.toNat_natCast, getD8' hi, getD8' hi', bne_dec, wrap_i64]
   by_cases e : List.getD A[i] j 0 = List.getD B[i] j 0
   · simp only [e, decide_true, Bool.not_true, cond_false]; rw [show (j : Int) + 1 = ((j + 1 : Nat) : Int) by omega, ih]; simp only [List.cons.injEq, true_and, bef, if_true]
   · simp only [e, decide_false, Bool.not_false, cond_true, List.cons.injEq, false_and, if_false, bef]
theorem c_l04Before_2 (x0 x1 x3 x4 : Int) (A B : List (List Int)) (hA : Len8 A) (hB : Len8 B) (he : B.length = A.length) (hl : A.length < 1000000000) : ∀ i : Nat, i ≤ A.length →
  R is_l04Before_2 [tI x0, tI x1, tLA8 A, tI x3, tI x4, tLA8 B, tI (i : Int)] = some (if A.drop i = B.drop i then [tI 0] else [tI 1, tB (befS (A.drop i) (B.drop i))]) := by
 refine up_loop _ ?_ (fun i hi ih => ?_)
 · apply vs_l04Before_2; rw [if_pos (by rw [List.drop_of_length_le (by omega), List.drop_of_length_le (by omega)])]; simp [bs_l04Before_2]
 · apply vs_l04Before_2; have hi' : i < B.length := by omega
   have h5 := c_l04Before_5 x0 x1 x3 x4 A B hA hB i hi hi' hl 0 (by omega); simp only [Int.natCast_zero, List.drop_zero] at h5; rw [List.drop_eq_getElem_cons hi, List.drop_eq_getElem_cons hi']; simp (disch := omega) only [bs_l04Before_2, decide_eq_true, cond_true, h5, Option.bind_some]
   by_cases e : A[i] = B[i]
   · simp only [e, if_true, getTV_here, getTV_next, beq_self_eq_true, cond_true, List.cons.injEq, true_and, befS]; rw [wrap_i64 (by omega) (by omega), show (i : Int) + 1 = ((i + 1 : Nat) : Int) by omega]; exact ih
   · simp only [e, if_false, getTV_here, getTV_next, List.cons.injEq, false_and, befS]
     rfl
theorem c_l04Before (v w : VN) {n p : Int} {k : Nat} (hv : Cls n p k v) (hw : Cls n p k w) (hk : k < 1000000000) : R is_l04Before [tPIPILA8 v, tPIPILA8 w] = some [tB (befV v w)] := by
 apply vs_l04Before; have h := c_l04Before_2 v.1 v.2.1 w.1 w.2.1 v.2.2 w.2.2 hv.2.2.2 hw.2.2.2 (by rw [hv.2.2.1, hw.2.2.1]) (by rw [hv.2.2.1]; exact hk) 0 (Nat.zero_le _); simp only [Int.natCast_zero, List.drop_zero] at h; simp only [bs_l04Before, h, Option.bind_some, befV]
 by_cases e : v.2.2 = w.2.2
 · simp [e, befS_irr]
 · simp [e]
theorem getDV {L : List VN} {i : Nat} (hi : i < L.length) : List.getD L i ((0, (0, [])) : VN) = L[i] := by
 simp [List.getD_eq_getElem?_getD, List.getElem?_eq_getElem hi]
theorem c_l04Insert_2 (v : VN) {n p : Int} {k : Nat} (hv : Cls n p k v) (hk : k < 1000000000) (L : List VN) (hL : ∀ x ∈ L, Cls n p k x) (hl : L.length < 10000000) : ∀ i : Nat, i ≤ L.length →
  R is_l04Insert_2 [tLPIPILA8 L, tI v.1, tI v.2.1, tLA8 v.2.2, tI (i : Int)] = some [tI 0, tLPIPILA8 L, tI v.1, tI v.2.1, tLA8 v.2.2, tI ((i + ((L.drop i).takeWhile fun x => befV x v).length : Nat) : Int)] := by
 refine up_loop _ ?_ (fun i hi ih => ?_)
 · apply vs_l04Insert_2; simp [bs_l04Insert_2]
 · apply vs_l04Insert_2; rw [List.drop_eq_getElem_cons hi, List.takeWhile_cons]; have hb := c_l04Before L[i] v (hL _ (List.getElem_mem hi)) hv hk; simp (disch := omega) only [bs_l04Insert_2, decide_eq_true, cond_true, Bool.and_true, Int.toNat_natCast, getDV hi]; have e : (L[i].1, L[i].2.1, L[i].2.2) = L[i] := rfl; have e' : (v.1, v.2.1, v.2.2) = v := rfl; simp only [e, e', hb, Option.bind_some, getTV_here]
   cases ec : befV L[i] v with
   | true =>
    simp only [cond_true, if_true]; rw [wrap_i64 (by omega) (by omega), show (i : Int) + 1 = ((i + 1 : Nat) : Int) by omega, ih]; simp only [List.length_cons]; rw [show i + 1 + ((L.drop (i + 1)).takeWhile fun x => befV x v).length = i + (((L.drop (i + 1)).takeWhile fun x => befV x v).length + 1) by omega]
   | false => simp
open Classical in
theorem c_l04Insert (v : VN) {n p : Int} {k : Nat} (hv : Cls n p k v) (hk : k < 1000000000) (L : List VN) (hL : ∀ x ∈ L, Cls n p k x) (hl : L.length < 10000000) (hs : L.Pairwise (fun a b => ¬ befV b a = true)) :
  R is_l04Insert [tLPIPILA8 L, tPIPILA8 v] = some (if v ∈ L then [tLPIPILA8 L, tB false] else [tLPIPILA8 (insO befV L v), tB true]) := by
 apply vs_l04Insert; have h2 := c_l04Insert_2 v hv hk L hL hl 0 (Nat.zero_le _); simp only [Int.natCast_zero, List.drop_zero, Nat.zero_add] at h2; have tl := tw_le (fun x => befV x v) L; obtain ⟨t1, t2⟩ := take_tw (fun x => befV x v) L; have hm := ins_mem (ordV n p k) hv hL hs; have hlen := insO_len befV L v; unfold insO at hlen; simp only [List.length_append, List.length_cons] at hlen; have e' : (v.1, v.2.1, v.2.2) = v := rfl; have a1 : apOk [v] (L.dropWhile fun x => befV x v) = true := apOk2 (by simp only [List.length_cons, List.length_nil]; omega); have a2 : apOk [] (L.takeWhile fun x => befV x v) = true := apOk0 (by omega); have a3 : apOk (L.takeWhile fun x => befV x v) ([v] ++ L.dropWhile fun x => befV x v) = true := apOk2 (by simp only [List.length_cons, List.length_nil, List.length_append]; omega); simp only [bs_l04Insert, h2, Option.bind_some, getTV_here, getTV_next, e']
 by_cases hlt : (L.takeWhile fun x => befV x v).length < L.length
 · have hg : L[(L.takeWhile fun x => befV x v).length]? = (L.dropWhile fun x => befV x v).head? := by
    rw [← t2, List.head?_drop]
   have hlk := c_l03Like L[(L.takeWhile fun x => befV x v).length] v (by rw [(hL _ (List.getElem_mem hlt)).2.2.1]; exact hk); rw [List.getElem?_eq_getElem hlt] at hg; have eL : ∀ x : VN, (x.1, x.2.1, x.2.2) = x := fun x => rfl; simp (disch := omega) only [decide_eq_true, cond_true, Bool.and_true, Int.toNat_natCast, getDV hlt, eL, hlk, Option.bind_some, getTV_here, t1, t2, a1, a2, a3]
   by_cases e : L[(L.takeWhile fun x => befV x v).length] = v
   · rw [if_pos (hm.2 (by rw [← hg, e]))]; simp only [e, decide_true, cond_true]
   · rw [if_neg (fun h => e (by rw [hm.1 h] at hg; exact Option.some.inj hg))]; simp only [e, decide_false, cond_false, insO]
     rfl
 · have hd : (L.dropWhile fun x => befV x v) = [] := by rw [← t2]; exact List.drop_of_length_le (by omega)
   rw [hd] at hm; rw [if_neg (fun h => by have := hm.1 h; simp at this)]; have hn : ¬ (((L.takeWhile fun x => befV x v).length : Int) < (L.length : Int)) := by omega
   simp (disch := omega) only [decide_eq_false hn, decide_eq_true, cond_false, cond_true, Bool.and_true, Int.toNat_natCast, t1, t2, a1, a2, a3]; simp only [insO]
   rfl
theorem c_IndexFunc_2 (v : VN) (L : List VN) (hL : ∀ x ∈ L, x.2.2.length < 1000000000) (hl : L.length < 10000000) : ∀ i : Nat, i ≤ L.length →
  (v ∈ L.drop i → ∃ j : Nat, R ig_IndexFunc___i_Normal_i_Normal__2 [tLPIPILA8 L, tI v.1, tI v.2.1, tLA8 v.2.2, tI (L.length : Int), tI (i : Int)] = some [tI 1, tI (j : Int)]) ∧
  (v ∉ L.drop i → R ig_IndexFunc___i_Normal_i_Normal__2 [tLPIPILA8 L, tI v.1, tI v.2.1, tLA8 v.2.2, tI (L.length : Int), tI (i : Int)] = some [tI 0]) := by
 have e' : (v.1, v.2.1, v.2.2) = v := rfl; have eL : ∀ x : VN, (x.1, x.2.1, x.2.2) = x := fun x => rfl
 refine up_loop _ ?_ (fun i hi ih => ?_)
 · rw [List.drop_length]; refine ⟨fun h => by simp at h, fun _ => ?_⟩; apply vg_IndexFunc___i_Normal_i_Normal__2; simp [bg_IndexFunc___i_Normal_i_Normal__2]
 · rw [List.drop_eq_getElem_cons hi]; have w : wi64 ((i : Int) + 1) = ((i + 1 : Nat) : Int) := by rw [wrap_i64] <;> omega
   have hk : R ii_superSummitK1 [tPIPILA8 L[i], tPIPILA8 v] = some [tB (decide (L[i] = v))] := by
    apply vi_superSummitK1; simp only [bi_superSummitK1, eL, c_sameNormal L[i] v (hL _ (List.getElem_mem hi)), Option.bind_some, getTV_here]
   by_cases e : L[i] = v
   · refine ⟨fun _ => ⟨i, ?_⟩, fun h => (h (by rw [e]; exact List.mem_cons_self)).elim⟩; apply vg_IndexFunc___i_Normal_i_Normal__2; simp (disch := omega) only [bg_IndexFunc___i_Normal_i_Normal__2, decide_eq_true, cond_true, Bool.and_true, Int.toNat_natCast, getDV hi, eL, e', hk, Option.bind_some, getTV_here, decide_eq_true e]
   · have st : ∀ o, R ig_IndexFunc___i_Normal_i_Normal__2 [tLPIPILA8 L, tI v.1, tI v.2.1, tLA8 v.2.2, tI (L.length : Int), tI ((i + 1 : Nat) : Int)] = some o → R ig_IndexFunc___i_Normal_i_Normal__2 [tLPIPILA8 L, tI v.1, tI v.2.1, tLA8 v.2.2, tI (L.length : Int), tI (i : Int)] = some o := by
      intro o ho; apply vg_IndexFunc___i_Normal_i_Normal__2; simp (disch := omega) only [bg_IndexFunc___i_Normal_i_Normal__2, decide_eq_true, cond_true, cond_false, Bool.and_true, Int.toNat_natCast, getDV hi, eL, e', hk, Option.bind_some, getTV_here, decide_eq_false e, w, ho]
     refine ⟨fun h => ?_, fun h => ?_⟩
     · obtain ⟨j, hj⟩ := ih.1 ((List.mem_cons.1 h).resolve_left (fun g => e g.symm)); exact ⟨j, st _ hj⟩
     · exact st _ (ih.2 fun h' => h (List.mem_cons_of_mem _ h'))
open Classical in
theorem c_ContainsFunc (v : VN) (L : List VN) (hL : ∀ x ∈ L, x.2.2.length < 1000000000) (hl : L.length < 10000000) : R ig_ContainsFunc___i_Normal_i_Normal_ [tLPIPILA8 L, tPIPILA8 v] = some [tB (decide (v ∈ L))] := by
 have e' : (v.1, v.2.1, v.2.2) = v := rfl; apply vg_ContainsFunc___i_Normal_i_Normal_; have h := c_IndexFunc_2 v L hL hl 0 (Nat.zero_le _); rw [List.drop_zero] at h; simp only [Int.natCast_zero] at h
 by_cases e : v ∈ L
 · obtain ⟨j, hj⟩ := h.1 e; have hI : R ig_IndexFunc___i_Normal_i_Normal_ [tLPIPILA8 L, tPIPILA8 v] = some [tI (j : Int)] := by
    apply vg_IndexFunc___i_Normal_i_Normal_; simp [bg_IndexFunc___i_Normal_i_Normal_, hj]
   simp [bg_ContainsFunc___i_Normal_i_Normal_, e', hI, e]
 · have hI : R ig_IndexFunc___i_Normal_i_Normal_ [tLPIPILA8 L, tPIPILA8 v] = some [tI (-1)] := by
    apply vg_IndexFunc___i_Normal_i_Normal_; simp [bg_IndexFunc___i_Normal_i_Normal_, h.2 e]
   simp [bg_ContainsFunc___i_Normal_i_Normal_, e', hI, e]
theorem c_IndexFunc_v2_2 (v : VN) (L : List VN) (hL : ∀ x ∈ L, x.2.2.length < 1000000000) (hl : L.length < 10000000) : ∀ i : Nat, i ≤ L.length →
  (v ∈ L.drop i → ∃ j : Nat, R ig_IndexFunc___i_Normal_i_Normal__v4_2 [tLPIPILA8 L, tI v.1, tI v.2.1, tLA8 v.2.2, tI (L.length : Int), tI (i : Int)] = some [tI 1, tI (j : Int)]) ∧
  (v ∉ L.drop i → R ig_IndexFunc___i_Normal_i_Normal__v4_2 [tLPIPILA8 L, tI v.1, tI v.2.1, tLA8 v.2.2, tI (L.length : Int), tI (i : Int)] = some [tI 0]) := by
 have e' : (v.1, v.2.1, v.2.2) = v := rfl; have eL : ∀ x : VN, (x.1, x.2.1, x.2.2) = x := fun x => rfl
 refine up_loop _ ?_ (fun i hi ih => ?_)
 · rw [List.drop_length]; refine ⟨fun h => by simp at h, fun _ => ?_⟩; apply vg_IndexFunc___i_Normal_i_Normal__v4_2; simp [bg_IndexFunc___i_Normal_i_Normal__v4_2]
 · rw [List.drop_eq_getElem_cons hi]; have w : wi64 ((i : Int) + 1) = ((i + 1 : Nat) : Int) := by rw [wrap_i64] <;> omega
   have hk : R ii_AreConjugateK1 [tPIPILA8 L[i], tPIPILA8 v] = some [tB (decide (L[i] = v))] := by
    apply vi_AreConjugateK1; simp only [bi_AreConjugateK1, eL, c_sameNormal L[i] v (hL _ (List.getElem_mem hi)), Option.bind_some, getTV_here]
   by_cases e : L[i] = v
   · refine ⟨fun _ => ⟨i, ?_⟩, fun h => (h (by rw [e]; exact List.mem_cons_self)).elim⟩; apply vg_IndexFunc___i_Normal_i_Normal__v4_2; simp (disch := omega) only [bg_IndexFunc___i_Normal_i_Normal__v4_2, decide_eq_true, cond_true, Bool.and_true, Int.toNat_natCast, getDV hi, eL, e', hk, Option.bind_some, getTV_here, decide_eq_true e]
   · have st : ∀ o, R ig_IndexFunc___i_Normal_i_Normal__v4_2 [tLPIPILA8 L, tI v.1, tI v.2.1, tLA8 v.2.2, tI (L.length : Int), tI ((i + 1 : Nat) : Int)] = some o → R ig_IndexFunc___i_Normal_i_Normal__v4_2 [tLPIPILA8 L, tI v.1, tI v.2.1, tLA8 v.2.2, tI (L.length : Int), tI (i : Int)] = some o := by
      intro o ho; apply vg_IndexFunc___i_Normal_i_Normal__v4_2; simp (disch := omega) only [bg_IndexFunc___i_Normal_i_Normal__v4_2, decide_eq_true, cond_true, cond_false, Bool.and_true, Int.toNat_natCast, getDV hi, eL, e', hk, Option.bind_some, getTV_here, decide_eq_false e, w, ho]
     refine ⟨fun h => ?_, fun h => ?_⟩
     · obtain ⟨j, hj⟩ := ih.1 ((List.mem_cons.1 h).resolve_left (fun g => e g.symm)); exact ⟨j, st _ hj⟩
     · exact st _ (ih.2 fun h' => h (List.mem_cons_of_mem _ h'))
open Classical in
theorem c_ContainsFunc_v2 (v : VN) (L : List VN) (hL : ∀ x ∈ L, x.2.2.length < 1000000000) (hl : L.length < 10000000) : R ig_ContainsFunc___i_Normal_i_Normal__v3 [tLPIPILA8 L, tPIPILA8 v] = some [tB (decide (v ∈ L))] := by
 have e' : (v.1, v.2.1, v.2.2) = v := rfl; apply vg_ContainsFunc___i_Normal_i_Normal__v3; have h := c_IndexFunc_v2_2 v L hL hl 0 (Nat.zero_le _); rw [List.drop_zero] at h; simp only [Int.natCast_zero] at h
 by_cases e : v ∈ L
 · obtain ⟨j, hj⟩ := h.1 e; have hI : R ig_IndexFunc___i_Normal_i_Normal__v4 [tLPIPILA8 L, tPIPILA8 v] = some [tI (j : Int)] := by
    apply vg_IndexFunc___i_Normal_i_Normal__v4; simp [bg_IndexFunc___i_Normal_i_Normal__v4, hj]
   simp [bg_ContainsFunc___i_Normal_i_Normal__v3, e', hI, e]
 · have hI : R ig_IndexFunc___i_Normal_i_Normal__v4 [tLPIPILA8 L, tPIPILA8 v] = some [tI (-1)] := by
    apply vg_IndexFunc___i_Normal_i_Normal__v4; simp [bg_IndexFunc___i_Normal_i_Normal__v4, h.2 e]
   simp [bg_ContainsFunc___i_Normal_i_Normal__v3, e', hI, e]
theorem c_compareSimple (a b : List Int) (ha : a.length = 8) (hb : b.length = 8) : R ii_compareSimple [tA8 a, tA8 b] = some [tI (cmpL a b)] := by
 apply vi_compareSimple; simp only [bi_compareSimple, c_Compare_b a b ha hb, Option.bind_some, getTV_here]
theorem c_CompareFunc_2 (A B : List (List Int)) (hA : Len8 A) (hB : Len8 B) (he : B.length = A.length) (hl : A.length < 1000000000) : ∀ i : Nat, i ≤ A.length → R ig_CompareFunc___i_Simple___i_Simple_i_Simple_i_Simple__2 [tLA8 A, tLA8 B, tI (A.length : Int), tI (i : Int)] =
  some (if cmpS (A.drop i) (B.drop i) = 0 then [tI 0, tLA8 A, tLA8 B] else [tI 1, tI (cmpS (A.drop i) (B.drop i))]) := by
 refine up_loop _ ?_ (fun i hi ih => ?_)
 · apply vg_CompareFunc___i_Simple___i_Simple_i_Simple_i_Simple__2; rw [List.drop_of_length_le (by omega), List.drop_of_length_le (by omega)]; simp [bg_CompareFunc___i_Simple___i_Simple_i_Simple_i_Simple__2, cmpS]
 · apply vg_CompareFunc___i_Simple___i_Simple_i_Simple_i_Simple__2; have hi' : i < B.length := by omega
   rw [List.drop_eq_getElem_cons hi, List.drop_eq_getElem_cons hi']; have h1 : ¬ ((B.length : Int) ≤ (i : Int)) := by omega
   simp (disch := omega) only [bg_CompareFunc___i_Simple___i_Simple_i_Simple_i_Simple__2, decide_eq_true, decide_eq_false h1, cond_true, cond_false, Bool.and_true, Int.toNat_natCast, getD8' hi, getD8' hi', c_compareSimple _ _ (hA _ (List.getElem_mem hi)) (hB _ (List.getElem_mem hi')), Option.bind_some, getTV_here, bne_dec, wrap_i64, cmpS]
   by_cases e1 : cmpL A[i] B[i] = 0
   · simp only [e1, decide_true, Bool.not_true, cond_false, if_true]; rw [show (i : Int) + 1 = ((i + 1 : Nat) : Int) by omega, ih]
   · simp only [e1, decide_false, Bool.not_false, cond_true, if_false]
theorem c_compareFactors (v w : VN) {n p : Int} {k : Nat} (hv : Cls n p k v) (hw : Cls n p k w) (hk : k < 1000000000) : R ii_compareFactors [tPIPILA8 v, tPIPILA8 w] = some [tI (cmpS v.2.2 w.2.2)] := by
 apply vi_compareFactors; have h := c_CompareFunc_2 v.2.2 w.2.2 hv.2.2.2 hw.2.2.2 (by rw [hv.2.2.1, hw.2.2.1]) (by rw [hv.2.2.1]; exact hk) 0 (Nat.zero_le _); simp only [Int.natCast_zero, List.drop_zero] at h; have h2 : R ig_CompareFunc___i_Simple___i_Simple_i_Simple_i_Simple_ [tLA8 v.2.2, tLA8 w.2.2] = some [tI (cmpS v.2.2 w.2.2)] := by
  apply vg_CompareFunc___i_Simple___i_Simple_i_Simple_i_Simple_; simp only [bg_CompareFunc___i_Simple___i_Simple_i_Simple_i_Simple_, h, Option.bind_some]; have hl : w.2.2.length = v.2.2.length := by rw [hv.2.2.1, hw.2.2.1]
  by_cases e : cmpS v.2.2 w.2.2 = 0
  · simp [e, hl]
  · simp [e]
 simp only [bi_compareFactors, h2, Option.bind_some, getTV_here]
theorem c_sortNormals {n p : Int} {k : Nat} (hk : k < 1000000000) (xs : List VN) (hC : ∀ x ∈ xs, Cls n p k x) (hl : xs.length < 10000000) : ∃ ys, R ig_SortFunc___i_Normal_i_Normal_ [tLPIPILA8 xs] = some [tLPIPILA8 ys] ∧ ys.Perm xs ∧ ys.Pairwise (fun a b => ¬ befV b a = true) := by
 have cb : ∀ a ∈ xs, ∀ b ∈ xs, (cmpS a.2.2 b.2.2 < 0) = (befV a b = true) := fun a ha b hb => cmpS_befS (hC a ha).2.2.2 (hC b hb).2.2.2
 obtain ⟨ys, h1, h2, h3⟩ := sortE_ok (call := R) (cmp := ii_compareFactors) (t := .pair (.int .i64) (.pair (.int .i64) (.slice (.arr .u8 8)))) (fun a b : VN => cmpS a.2.2 b.2.2) xs (by omega) (fun a ha b hb => c_compareFactors a b (hC a ha) (hC b hb) hk)
  (fun a ha => by rw [cb a ha a ha, (ordV n p k).irr a (hC a ha)]; simp) (fun a ha b hb c hc x y => by
   rw [cb a ha b hb] at x; rw [cb b hb c hc] at y; rw [cb a ha c hc]; exact (ordV n p k).trans a b c (hC a ha) (hC b hb) (hC c hc) x y) (fun a ha b hb c hc x y => by
   rw [cb a ha b hb] at x; rw [cb b hb c hc] at y; rw [cb a ha c hc]; exact (ordV n p k).ntrans (hC a ha) (hC b hb) (hC c hc) x y)
 refine ⟨ys, ?_, h2, ?_⟩
 · apply vg_SortFunc___i_Normal_i_Normal_; exact h1
 · refine h3.imp_of_mem fun {a b} ha hb h => ?_; rw [cb b (h2.mem_iff.1 hb) a (h2.mem_iff.1 ha)] at h; exact h
end Go.Ev.YtfkpbhbghbhmgaaGreat
namespace Go.Ev.YtfkpbhbghbhmgaaGreat
open Go.Ev Go.Gar
theorem enc_inj {n : Nat} (hn : n ≤ 8) {v w : Nm n} (h : enc v = enc w) : v = w := by
 obtain ⟨v1, v2⟩ := v; obtain ⟨w1, w2⟩ := w; simp only [enc, Prod.mk.injEq, true_and] at h; obtain ⟨rfl, h2⟩ := h; rw [sL_inj hn h2]
theorem enc_mem {n : Nat} (hn : n ≤ 8) {L : List (Nm n)} {v : Nm n} : enc v ∈ L.map enc ↔ v ∈ L := by
 constructor
 · intro h; obtain ⟨w, hw, e⟩ := List.mem_map.1 h; rw [← enc_inj hn e]; exact hw
 · exact fun h => List.mem_map_of_mem h
theorem conj1_one {n : Nat} (h2 : 2 ≤ n) {v : Nm n} (hP : (Pm.lat n).Proper v.2) : conj1 v 1 = v := by
 have e1 : Pm.half n * (1 : Pm n)⁻¹ = Pm.half n := by
  apply Pm.ext; intro x
  rfl
 have e2 : t1 v.1 (Pm.half n) = Pm.half n := by
  unfold t1
  split
  · rfl
  · apply Pm.ext; intro x; show Pm.hf n (Pm.hf n (Pm.hf n x)) = Pm.hf n x; rw [Pm.hf_hf]
 have e3 : less1 v 1 = v := by
  unfold less1; rw [e1, e2]; have := mk_app h2 (v.1 - 1) [Pm.half n] v.2; rw [List.singleton_append] at this; rw [this, mk_D h2]; simp only [List.nil_append]; rw [mk_proper h2 _ hP]; show (v.1 - 1 + 1, v.2) = v; rw [Int.sub_add_cancel]
 unfold conj1; rw [e3, mk_one h2 v.1 hP]
structure SS {n : Nat} (first x : Nm n) : Prop where
 P : (Pm.lat n).Proper x.2
 pow : x.1 = first.1
 len : x.2.length = first.2.length
theorem SS.ok {n : Nat} (h2 : 2 ≤ n) {first x : Nm n} (h : SS first x) {b : Nat} (hf : OkN first b) : OkN x b := by
 have a1 := hf.len; have a2 := hf.lo; have a3 := hf.hi; have b1 := h.pow; have b2 := h.len; exact ⟨h.P, by omega, by omega, by omega, fun e => by omega⟩
theorem SS.cls {n : Nat} {first x : Nm n} (h : SS first x) : Cls (n : Int) first.1 first.2.length (enc x) :=
 ⟨rfl, h.pow, by simp only [enc, sL_len]; exact h.len, sL_8 _⟩
theorem SS.conj {n : Nat} (h2 : 2 ≤ n) {first x : Nm n} (h : SS first x) {b : Nat} (hf : OkN first b) {s : Pm n} (e1 : (conj1 x s).1 = first.1) (e2 : (conj1 x s).2.length = first.2.length) : SS first (conj1 x s) :=
 ⟨(conj1_ok h2 (h.ok h2 hf) s).P, e1, e2⟩
open Classical in
noncomputable def addG {n : Nat} (first x : Nm n) : List (Pm n) → List (Nm n) → Option (List (Nm n))
 | [], L => some L
 | s :: r, L => if (conj1 x s).1 = first.1 ∧ (conj1 x s).2.length = first.2.length ∧ conj1 x s ∉ L then (if L.length = 120 then none else addG first x r (L ++ [conj1 x s])) else addG first x r L
noncomputable def bfsG {n : Nat} (first : Nm n) (S : List (Pm n)) : Nat → Nat → List (Nm n) → Option (List (Nm n))
 | 0, _, L => some L
 | f + 1, a, L => match L[a]? with
  | none => some L
  | some x => (addG first x S L).bind fun L' => bfsG first S f (a + 1) L'
inductive Reach {n : Nat} (first : Nm n) : Nm n → Prop
 | base : Reach first first
 | step {x : Nm n} {s : Pm n} : Reach first x → (conj1 x s).1 = first.1 → (conj1 x s).2.length = first.2.length → Reach first (conj1 x s)
structure Good {n : Nat} (first : Nm n) (L : List (Nm n)) : Prop where
 nod : L.Nodup
 reach : ∀ y ∈ L, Reach first y
 ss : ∀ y ∈ L, SS first y
 len : L.length ≤ 120
 head : L[0]? = some first
theorem Good.add {n : Nat} (h2 : 2 ≤ n) {first x : Nm n} {b : Nat} (hf : OkN first b) {L : List (Nm n)} (h : Good first L) (hx : x ∈ L) {s : Pm n} (e1 : (conj1 x s).1 = first.1) (e2 : (conj1 x s).2.length = first.2.length) (e3 : conj1 x s ∉ L) (hl : L.length ≠ 120) : Good first (L ++ [conj1 x s]) := by
 refine ⟨?_, fun y hy => ?_, fun y hy => ?_, ?_, ?_⟩
 · rw [List.nodup_append]; refine ⟨h.nod, by simp, fun a ha b hb => ?_⟩; simp only [List.mem_singleton] at hb; subst hb; exact fun e => e3 (e ▸ ha)
 · rcases List.mem_append.1 hy with hy | hy
   · exact h.reach y hy
   · simp only [List.mem_singleton] at hy; subst hy; exact .step (h.reach x hx) e1 e2
 · rcases List.mem_append.1 hy with hy | hy
   · exact h.ss y hy
   · simp only [List.mem_singleton] at hy; subst hy; exact (h.ss x hx).conj h2 hf e1 e2
 · have := h.len; simp only [List.length_append, List.length_cons, List.length_nil]; omega
 · rw [List.getElem?_append_left]
   · exact h.head
   · have := List.getElem?_eq_some_iff.1 h.head; exact this.1
theorem addG_some {n : Nat} (h2 : 2 ≤ n) {first x : Nm n} {b : Nat} (hf : OkN first b) : ∀ (r : List (Pm n)) (L L' : List (Nm n)), Good first L → x ∈ L → addG first x r L = some L' →
  Good first L' ∧ (∃ T, L' = L ++ T) ∧ ∀ s ∈ r, (conj1 x s).1 = first.1 → (conj1 x s).2.length = first.2.length → conj1 x s ∈ L'
 | [], L, L', hL, hx, h => by
  simp only [addG, Option.some.injEq] at h; subst h; exact ⟨hL, ⟨[], by simp⟩, fun s hs => by simp at hs⟩
 | s :: r, L, L', hL, hx, h => by
  rw [addG] at h
  split at h
  · rename_i hc; obtain ⟨c1, c2, c3⟩ := hc
    split at h
    · simp at h
    · rename_i hl; obtain ⟨g1, ⟨T, g2⟩, g3⟩ := addG_some h2 hf r _ L' (hL.add h2 hf hx c1 c2 c3 hl) (List.mem_append_left _ hx) h; refine ⟨g1, ⟨[conj1 x s] ++ T, by rw [g2, List.append_assoc]⟩, fun s' hs' e1 e2 => ?_⟩
      rcases List.mem_cons.1 hs' with rfl | hs'
      · rw [g2]; simp
      · exact g3 s' hs' e1 e2
  · rename_i hc; obtain ⟨g1, ⟨T, g2⟩, g3⟩ := addG_some h2 hf r L L' hL hx h; refine ⟨g1, ⟨T, g2⟩, fun s' hs' e1 e2 => ?_⟩
    rcases List.mem_cons.1 hs' with rfl | hs'
    · have : conj1 x s' ∈ L := Classical.byContradiction fun hn => hc ⟨e1, e2, hn⟩; rw [g2]; exact List.mem_append_left _ this
    · exact g3 s' hs' e1 e2
def Many {n : Nat} (first : Nm n) : Prop := ∃ M : List (Nm n), M.Nodup ∧ M.length = 121 ∧ ∀ y ∈ M, Reach first y
theorem addG_none {n : Nat} (h2 : 2 ≤ n) {first x : Nm n} {b : Nat} (hf : OkN first b) : ∀ (r : List (Pm n)) (L : List (Nm n)), Good first L → x ∈ L → addG first x r L = none → Many first
 | [], L, hL, hx, h => by simp [addG] at h
 | s :: r, L, hL, hx, h => by
  rw [addG] at h
  split at h
  · rename_i hc; obtain ⟨c1, c2, c3⟩ := hc
    split at h
    · rename_i hl
      refine ⟨L ++ [conj1 x s], ?_, by simp [hl], fun y hy => ?_⟩
      · rw [List.nodup_append]; refine ⟨hL.nod, by simp, fun a ha b hb => ?_⟩; simp only [List.mem_singleton] at hb; subst hb; exact fun e => c3 (e ▸ ha)
      · rcases List.mem_append.1 hy with hy | hy
        · exact hL.reach y hy
        · simp only [List.mem_singleton] at hy; subst hy; exact .step (hL.reach x hx) c1 c2
    · rename_i hl; exact addG_none h2 hf r _ (hL.add h2 hf hx c1 c2 c3 hl) (List.mem_append_left _ hx) h
  · exact addG_none h2 hf r L hL hx h
def Closed {n : Nat} (first : Nm n) (a : Nat) (L : List (Nm n)) : Prop := ∀ i x, i < a → L[i]? = some x → ∀ s : Pm n, (conj1 x s).1 = first.1 → (conj1 x s).2.length = first.2.length → conj1 x s ∈ L
theorem bfsG_some {n : Nat} (h2 : 2 ≤ n) {first : Nm n} {b : Nat} (hf : OkN first b) {S : List (Pm n)} (hS : ∀ s : Pm n, s ≠ 1 → s ∈ S) : ∀ (f a : Nat) (L L' : List (Nm n)), Good first L → Closed first a L → 121 ≤ f + a → a ≤ L.length → bfsG first S f a L = some L' →
  Good first L' ∧ ∀ y, Reach first y → y ∈ L'
 | 0, a, L, L', hL, hC, hfa, ha, h => by
  have := hL.len; omega
 | f + 1, a, L, L', hL, hC, hfa, ha, h => by
  rw [bfsG] at h
  cases hx : L[a]? with
  | none =>
   rw [hx] at h; simp only [Option.some.injEq] at h; subst h; refine ⟨hL, fun y hy => ?_⟩; have hal : L.length ≤ a := by simpa using hx
   induction hy with
   | base => exact List.mem_of_getElem? hL.head
   | step hr e1 e2 ih =>
    obtain ⟨i, hi⟩ := List.mem_iff_getElem?.1 ih; have := (List.getElem?_eq_some_iff.1 hi).1; exact hC i _ (by omega) hi _ e1 e2
  | some x =>
   rw [hx] at h; simp only at h
   cases hg : addG first x S L with
   | none => rw [hg] at h; simp at h
   | some L1 =>
    rw [hg] at h; simp only [Option.bind_some] at h; have hxm : x ∈ L := List.mem_of_getElem? hx; have hal := (List.getElem?_eq_some_iff.1 hx).1; obtain ⟨g1, ⟨T, g2⟩, g3⟩ := addG_some h2 hf S L L1 hL hxm hg; refine bfsG_some h2 hf hS f (a + 1) L1 L' g1 (fun i z hi hz s e1 e2 => ?_) (by omega) (by rw [g2]; simp; omega) h
    by_cases hia : i < a
    · rw [g2, List.getElem?_append_left (by omega)] at hz; rw [g2]; exact List.mem_append_left _ (hC i z hia hz s e1 e2)
    · have e : i = a := by omega
      subst e; rw [g2, List.getElem?_append_left (by omega), hx] at hz; simp only [Option.some.injEq] at hz; subst hz
      by_cases hs : s = 1
      · subst hs; rw [conj1_one h2 (hL.ss x hxm).P, g2]; exact List.mem_append_left _ hxm
      · exact g3 s (hS s hs) e1 e2
theorem bfsG_none {n : Nat} (h2 : 2 ≤ n) {first : Nm n} {b : Nat} (hf : OkN first b) {S : List (Pm n)} : ∀ (f a : Nat) (L : List (Nm n)), Good first L → bfsG first S f a L = none → Many first
 | 0, a, L, hL, h => by simp [bfsG] at h
 | f + 1, a, L, hL, h => by
  rw [bfsG] at h
  cases hx : L[a]? with
  | none => rw [hx] at h; simp at h
  | some x =>
   rw [hx] at h; simp only at h; have hxm : x ∈ L := List.mem_of_getElem? hx
   cases hg : addG first x S L with
   | none => exact addG_none h2 hf S L hL hxm hg
   | some L1 =>
    rw [hg] at h; simp only [Option.bind_some] at h; exact bfsG_none h2 hf f (a + 1) L1 (addG_some h2 hf S L L1 hL hxm hg).1 h
theorem good_first {n : Nat} {first : Nm n} {b : Nat} (hf : OkN first b) : Good first [first] :=
 ⟨by simp, fun y hy => by simp at hy; subst hy; exact .base, fun y hy => by simp at hy; subst hy; exact ⟨hf.P, rfl, rfl⟩, by simp, rfl⟩
theorem bfsG_same {n : Nat} (h2 : 2 ≤ n) {first : Nm n} {b : Nat} (hf : OkN first b) {S S' : List (Pm n)} (hS : ∀ s : Pm n, s ≠ 1 → s ∈ S) (hS' : ∀ s : Pm n, s ≠ 1 → s ∈ S') :
  (bfsG first S 121 0 [first] = none ∧ bfsG first S' 121 0 [first] = none) ∨ ∃ A B, bfsG first S 121 0 [first] = some A ∧ bfsG first S' 121 0 [first] = some B ∧ Good first A ∧ Good first B ∧ A.Perm B ∧ ∀ y, Reach first y ↔ y ∈ A := by
 have hC : Closed first 0 [first] := fun i x hi => by omega
 have notboth : ∀ {T : List (Pm n)} {A}, (∀ s : Pm n, s ≠ 1 → s ∈ T) → bfsG first T 121 0 [first] = some A → ¬ Many first := by
  rintro T A hT hA ⟨M, m1, m2, m3⟩; obtain ⟨g1, g2⟩ := bfsG_some h2 hf hT 121 0 _ A (good_first hf) hC (by omega) (by simp) hA; have := m1.length_le_of_subset (fun y hy => g2 y (m3 y hy)); have := g1.len; omega
 cases hA : bfsG first S 121 0 [first] with
 | none =>
  left; refine ⟨rfl, ?_⟩
  cases hB : bfsG first S' 121 0 [first] with
  | none => rfl
  | some B => exact absurd (bfsG_none h2 hf 121 0 _ (good_first hf) hA) (notboth hS' hB)
 | some A =>
  cases hB : bfsG first S' 121 0 [first] with
  | none => exact absurd (bfsG_none h2 hf 121 0 _ (good_first hf) hB) (notboth hS hA)
  | some B =>
   right; obtain ⟨g1, g2⟩ := bfsG_some h2 hf hS 121 0 _ A (good_first hf) hC (by omega) (by simp) hA; obtain ⟨g3, g4⟩ := bfsG_some h2 hf hS' 121 0 _ B (good_first hf) hC (by omega) (by simp) hB; exact ⟨A, B, rfl, rfl, g1, g3, (List.perm_ext_iff_of_nodup g1.nod g3.nod).2 fun y => ⟨fun h => g4 y (g1.reach y h), fun h => g2 y (g3.reach y h)⟩, fun y => ⟨g2 y, g1.reach y⟩⟩
theorem map_getV {n : Nat} {L : List (Nm n)} {i : Nat} {x : Nm n} (h : L[i]? = some x) : List.getD (L.map enc) i ((0, (0, [])) : VN) = enc x := by
 rw [List.getD_eq_getElem?_getD, List.getElem?_map, h]; rfl
theorem enc_2 {n : Nat} (y : Nm n) : (enc y).2.1 = y.1 ∧ (enc y).2.2.length = y.2.length := ⟨rfl, by simp [enc, sL_len]⟩
open Classical in
theorem c_superSummit_7 (n : Nat) (h2 : 2 ≤ n) (hn : n ≤ 8) (first x : Nm n) (hf : OkN first 1000) (S : List (Pm n)) (hS : S.length < 1000000) (a : Nat) : ∀ (m k : Nat), k + m = S.length → ∀ L : List (Nm n), Good first L → L[a]? = some x →
  R ii_superSummit_7 [tLPIPILA8 (L.map enc), tLA8 (sL S), tI (a : Int), tI (S.length : Int), tI (k : Int)] = some (match addG first x (S.drop k) L with
   | some L' => [tI 0, tLPIPILA8 (L'.map enc), tLA8 (sL S), tI (a : Int)]
   | none => [tI 1, tLPIPILA8 [], tB false]) := by
 intro m
 induction m with
 | zero =>
  intro k hk L hL hx; apply vi_superSummit_7; rw [List.drop_of_length_le (by omega)]; have : ¬ ((k : Int) < (S.length : Int)) := by omega
  simp only [bi_superSummit_7, decide_eq_false this, cond_false, addG]
 | succ m ih =>
  intro k hk L hL hx; have hkS : k < S.length := by omega
  have ha := (List.getElem?_eq_some_iff.1 hx).1; have hxm : x ∈ L := List.mem_of_getElem? hx; have hll := hL.len; have hL0 : 0 < L.length := (List.getElem?_eq_some_iff.1 hL.head).1; apply vi_superSummit_7; rw [List.drop_eq_getElem_cons hkS, addG]; have hok : OkN x 100000 := ((hL.ss x hxm).ok h2 hf).mono (by omega); have hcj := c_conjugate n h2 hn x hok S[k]; have hyk := conj1_ok h2 ((hL.ss x hxm).ok h2 hf) S[k]; have w : wi64 ((k : Int) + 1) = ((k + 1 : Nat) : Int) := by rw [wrap_i64] <;> omega
  have eV : ∀ x : VN, (x.1, x.2.1, x.2.2) = x := fun x => rfl; have hlt : ((k : Int) < (S.length : Int)) := by omega
  have hL0' : ((0 : Int) < (L.length : Int)) := by omega
  have hc := c_ContainsFunc (enc (conj1 x S[k])) (L.map enc) (fun z hz => by
   obtain ⟨u, hu, rfl⟩ := List.mem_map.1 hz; have := ((hL.ss u hu).ok h2 hf).len; rw [(enc_2 u).2]; omega) (by rw [List.length_map]; omega)
  simp (disch := omega) only [bi_superSummit_7, decide_eq_true hlt, decide_eq_true hL0', decide_eq_true, sL_len, List.length_map, cond_true, Bool.and_true, Int.toNat_natCast, map_getV hx, map_getV hL.head, eV, sL_get hkS, hcj, Option.bind_some, getTV_here, bne_dec, hc, w]; simp only [(enc_2 _).1, (enc_2 _).2]
  by_cases e1 : (conj1 x S[k]).1 = first.1
  · by_cases e2 : (conj1 x S[k]).2.length = first.2.length
    · have e2' : (((conj1 x S[k]).2.length : Nat) : Int) = ((first.2.length : Nat) : Int) := by omega
      by_cases e3 : conj1 x S[k] ∈ L
      · rw [if_neg (fun h => h.2.2 e3)]; simp only [e1, e2', decide_true, Bool.not_true, cond_false, decide_eq_true ((enc_mem hn).2 e3), cond_true]; exact ih (k + 1) (by omega) L hL hx
      · rw [if_pos ⟨e1, e2, e3⟩]; have e3' : ¬ enc (conj1 x S[k]) ∈ L.map enc := fun h => e3 ((enc_mem hn).1 h); simp only [e1, e2', decide_true, Bool.not_true, cond_false, decide_eq_false e3']
        by_cases e4 : L.length = 120
        · rw [if_pos e4]; simp [e4]
        · rw [if_neg e4]; have e4' : ((L.length : Int) == 120) = false := by rw [beq_dec, decide_eq_false (by omega)]
          have ap : apOk (L.map enc) [enc (conj1 x S[k])] = true := apOk1 (by rw [List.length_map]; omega); simp only [e4', cond_false, ap, cond_true]; have eapp : L.map enc ++ [enc (conj1 x S[k])] = (L ++ [conj1 x S[k]]).map enc := by simp
          rw [eapp]; exact ih (k + 1) (by omega) _ (hL.add h2 hf hxm e1 e2 e3 e4) (by rw [List.getElem?_append_left ha]; exact hx)
    · have e2' : ¬ (((conj1 x S[k]).2.length : Nat) : Int) = ((first.2.length : Nat) : Int) := by omega
      rw [if_neg (fun h => e2 h.2.1)]; simp only [e1, e2', decide_true, decide_false, Bool.not_true, Bool.not_false, cond_false, cond_true]; exact ih (k + 1) (by omega) L hL hx
  · rw [if_neg (fun h => e1 h.1)]; simp only [e1, decide_false, Bool.not_false, cond_true]; exact ih (k + 1) (by omega) L hL hx
theorem c_superSummit_4 (n : Nat) (h2 : 2 ≤ n) (hn : n ≤ 8) (first : Nm n) (hf : OkN first 1000) (S : List (Pm n)) (hS : S.length < 1000000) : ∀ (f a : Nat) (L : List (Nm n)), Good first L → 121 ≤ f + a → a ≤ L.length →
  R ii_superSummit_4 [tLPIPILA8 (L.map enc), tLA8 (sL S), tI (a : Int)] = some (match bfsG first S f a L with
   | some L' => [tI 0, tLPIPILA8 (L'.map enc)]
   | none => [tI 1, tLPIPILA8 [], tB false]) := by
 intro f
 induction f with
 | zero =>
  intro a L hL hfa ha; have := hL.len; omega
 | succ f ih =>
  intro a L hL hfa ha; apply vi_superSummit_4; rw [bfsG]; have hll := hL.len
  cases hx : L[a]? with
  | none =>
   have : L.length ≤ a := by simpa using hx
   have hn' : ¬ ((a : Int) < (L.length : Int)) := by omega
   simp only [bi_superSummit_4, List.length_map, decide_eq_false hn', cond_false]
  | some x =>
   have hal := (List.getElem?_eq_some_iff.1 hx).1; have hlt : ((a : Int) < (L.length : Int)) := by omega
   have h7 := c_superSummit_7 n h2 hn first x hf S hS a S.length 0 (by omega) L hL hx
   simp only [Int.natCast_zero, List.drop_zero] at h7; have w : wi64 ((a : Int) + 1) = ((a + 1 : Nat) : Int) := by rw [wrap_i64] <;> omega
   simp only [bi_superSummit_4, List.length_map, decide_eq_true hlt, cond_true, sL_len, h7, Option.bind_some]
   cases hg : addG first x S L with
   | none => simp
   | some L1 =>
    obtain ⟨g1, ⟨T, g2⟩, g3⟩ := addG_some h2 hf S L L1 hL (List.mem_of_getElem? hx) hg; simp only [getTV_here, getTV_next, beq_self_eq_true, cond_true, w, Option.bind_some]; exact ih (a + 1) L1 g1 (by omega) (by rw [g2]; simp; omega)
end Go.Ev.YtfkpbhbghbhmgaaGreat
namespace Go.Ev.YtfkpbhbghbhmgaaGreat
open Go.Ev Go.Gar
abbrev Asc (l : List VN) : Prop := l.Pairwise (fun a b => ¬ befV b a = true)
open Classical in
theorem c_l04Set_7 (n : Nat) (h2 : 2 ≤ n) (hn : n ≤ 8) (first x : Nm n) (hf : OkN first 1000) (S : List (Pm n)) (hS : S.length < 1000000) (a : Nat) (x0 : Int) : ∀ (m k : Nat), k + m = S.length → ∀ (q : List (Nm n)) (l : List VN), Good first q → q[a]? = some x → l.Perm (q.map enc) → Asc l →
  (∀ q', addG first x (S.drop k) q = some q' → ∃ l' : List VN, l'.Perm (q'.map enc) ∧ Asc l' ∧
   R is_l04Set_7 [tI x0, tI first.1, tLA8 (sL first.2), tLPIPILA8 l, tLPIPILA8 (q.map enc), tLA8 (sL S), tI (a : Int), tI (k : Int)] = some [tI 0, tI x0, tI first.1, tLA8 (sL first.2), tLPIPILA8 l', tLPIPILA8 (q'.map enc), tLA8 (sL S), tI (a : Int)]) ∧
  (addG first x (S.drop k) q = none → R is_l04Set_7 [tI x0, tI first.1, tLA8 (sL first.2), tLPIPILA8 l, tLPIPILA8 (q.map enc), tLA8 (sL S), tI (a : Int), tI (k : Int)] = some [tI 1, tLPIPILA8 [], tB false]) := by
 intro m
 induction m with
 | zero =>
  intro k hk q l hq hx hp hs; rw [List.drop_of_length_le (by omega)]; refine ⟨fun q' h => ?_, fun h => by simp [addG] at h⟩; simp only [addG, Option.some.injEq] at h; subst h; refine ⟨l, hp, hs, ?_⟩; apply vs_l04Set_7; have : ¬ ((k : Int) < (S.length : Int)) := by omega
  simp only [bs_l04Set_7, sL_len, decide_eq_false this, cond_false]
 | succ m ih =>
  intro k hk q l hq hx hp hs; have hkS : k < S.length := by omega
  have ha := (List.getElem?_eq_some_iff.1 hx).1; have hxm : x ∈ q := List.mem_of_getElem? hx; have hll := hq.len; rw [List.drop_eq_getElem_cons hkS, addG]; have hok : OkN x 100000 := ((hq.ss x hxm).ok h2 hf).mono (by omega); have hcj := c_l04Conjugate n h2 hn x hok S[k]; have w : wi64 ((k : Int) + 1) = ((k + 1 : Nat) : Int) := by rw [wrap_i64] <;> omega
  have eV : ∀ x : VN, (x.1, x.2.1, x.2.2) = x := fun x => rfl; have hlt : ((k : Int) < (S.length : Int)) := by omega
  have hlt2 : ((a : Int) < (q.length : Int)) := by omega
  have hfl := hf.len
  have st : ∀ o, (bif (!decide ((conj1 x S[k]).1 = first.1)) then R is_l04Set_7 [tI x0, tI first.1, tLA8 (sL first.2), tLPIPILA8 l, tLPIPILA8 (q.map enc), tLA8 (sL S), tI (a : Int), tI ((k + 1 : Nat) : Int)]
    else bif (!decide ((((conj1 x S[k]).2.length : Nat) : Int) = ((first.2.length : Nat) : Int))) then R is_l04Set_7 [tI x0, tI first.1, tLA8 (sL first.2), tLPIPILA8 l, tLPIPILA8 (q.map enc), tLA8 (sL S), tI (a : Int), tI ((k + 1 : Nat) : Int)]
    else (R is_l04Insert [tLPIPILA8 l, tPIPILA8 (enc (conj1 x S[k]))]).bind fun o7 =>
     bif (gB o7 1) then
      bif decide (120 < ((List.length (gLPIPILA8 o7 0) : Nat) : Int)) then some [tI 1, tLPIPILA8 [], tB false]
      else bif (apOk (q.map enc) [enc (conj1 x S[k])]) then R is_l04Set_7 [tI x0, tI first.1, tLA8 (sL first.2), tLPIPILA8 (gLPIPILA8 o7 0), tLPIPILA8 (q.map enc ++ [enc (conj1 x S[k])]), tLA8 (sL S), tI (a : Int), tI ((k + 1 : Nat) : Int)] else none
     else R is_l04Set_7 [tI x0, tI first.1, tLA8 (sL first.2), tLPIPILA8 l, tLPIPILA8 (q.map enc), tLA8 (sL S), tI (a : Int), tI ((k + 1 : Nat) : Int)]) = some o →
    R is_l04Set_7 [tI x0, tI first.1, tLA8 (sL first.2), tLPIPILA8 l, tLPIPILA8 (q.map enc), tLA8 (sL S), tI (a : Int), tI (k : Int)] = some o := by
   intro o ho; apply vs_l04Set_7; simp (disch := omega) only [bs_l04Set_7, decide_eq_true hlt, decide_eq_true hlt2, decide_eq_true, sL_len, List.length_map, cond_true, Bool.and_true, Int.toNat_natCast, map_getV hx, eV, sL_get hkS, hcj, Option.bind_some, getTV_here, bne_dec, w]; simp only [(enc_2 _).1, (enc_2 _).2]; exact ho
  by_cases e1 : (conj1 x S[k]).1 = first.1
  · by_cases e2 : (conj1 x S[k]).2.length = first.2.length
    · have e2' : (((conj1 x S[k]).2.length : Nat) : Int) = ((first.2.length : Nat) : Int) := by omega
      have hss : SS first (conj1 x S[k]) := (hq.ss x hxm).conj h2 hf e1 e2
      have hL : ∀ z ∈ l, Cls (n : Int) first.1 first.2.length z := fun z hz => by
       obtain ⟨u, hu, rfl⟩ := List.mem_map.1 (hp.mem_iff.1 hz); exact (hq.ss u hu).cls
      have hlen : l.length = q.length := by rw [hp.length_eq, List.length_map]
      have hins := c_l04Insert (enc (conj1 x S[k])) hss.cls (by omega) l hL (by omega) hs; have hmem : enc (conj1 x S[k]) ∈ l ↔ conj1 x S[k] ∈ q := hp.mem_iff.trans (enc_mem hn); simp only [e1, e2', decide_true, Bool.not_true, cond_false, hins, Option.bind_some] at st
      by_cases e3 : conj1 x S[k] ∈ q
      · rw [if_neg (fun h => h.2.2 e3)]; simp only [if_pos (hmem.2 e3), getTV_here, getTV_next, cond_false] at st; obtain ⟨i1, i2⟩ := ih (k + 1) (by omega) q l hq hx hp hs; refine ⟨fun q' h => ?_, fun h => st _ (i2 h)⟩; obtain ⟨l', j1, j2, j3⟩ := i1 q' h; exact ⟨l', j1, j2, st _ j3⟩
      · rw [if_pos ⟨e1, e2, e3⟩]; simp only [if_neg (fun h => e3 (hmem.1 h)), getTV_here, getTV_next, cond_true, insO_len, hlen] at st
        by_cases e4 : q.length = 120
        · rw [if_pos e4]; refine ⟨fun q' h => by simp at h, fun _ => st _ ?_⟩; have : ((120 : Int) < ((q.length + 1 : Nat) : Int)) := by omega
          simp only [decide_eq_true this, cond_true]
        · rw [if_neg e4]; have h120 : ¬ ((120 : Int) < ((q.length + 1 : Nat) : Int)) := by omega
          have ap : apOk (q.map enc) [enc (conj1 x S[k])] = true := apOk1 (by rw [List.length_map]; omega); have eapp : q.map enc ++ [enc (conj1 x S[k])] = (q ++ [conj1 x S[k]]).map enc := by simp
          simp only [decide_eq_false h120, cond_false, ap, cond_true, eapp] at st; have hp' : (insO befV l (enc (conj1 x S[k]))).Perm ((q ++ [conj1 x S[k]]).map enc) := by
           rw [← eapp]; refine (insO_perm befV l _).trans ?_; refine (List.Perm.cons _ hp).trans ?_; exact (List.perm_append_comm (l₁ := [enc (conj1 x S[k])]))
          obtain ⟨i1, i2⟩ := ih (k + 1) (by omega) _ _ (hq.add h2 hf hxm e1 e2 e3 e4) (by rw [List.getElem?_append_left ha]; exact hx) hp' (insO_sorted (ordV _ _ _) hss.cls hL hs); refine ⟨fun q' h => ?_, fun h => st _ (i2 h)⟩; obtain ⟨l', j1, j2, j3⟩ := i1 q' h; exact ⟨l', j1, j2, st _ j3⟩
    · have e2' : ¬ (((conj1 x S[k]).2.length : Nat) : Int) = ((first.2.length : Nat) : Int) := by omega
      rw [if_neg (fun h => e2 h.2.1)]; simp only [e1, e2', decide_true, decide_false, Bool.not_true, Bool.not_false, cond_false, cond_true] at st; obtain ⟨i1, i2⟩ := ih (k + 1) (by omega) q l hq hx hp hs; refine ⟨fun q' h => ?_, fun h => st _ (i2 h)⟩; obtain ⟨l', j1, j2, j3⟩ := i1 q' h; exact ⟨l', j1, j2, st _ j3⟩
  · rw [if_neg (fun h => e1 h.1)]; simp only [e1, decide_false, Bool.not_false, cond_true] at st; obtain ⟨i1, i2⟩ := ih (k + 1) (by omega) q l hq hx hp hs; refine ⟨fun q' h => ?_, fun h => st _ (i2 h)⟩; obtain ⟨l', j1, j2, j3⟩ := i1 q' h; exact ⟨l', j1, j2, st _ j3⟩
theorem c_l04Set_4 (n : Nat) (h2 : 2 ≤ n) (hn : n ≤ 8) (first : Nm n) (hf : OkN first 1000) (S : List (Pm n)) (hS : S.length < 1000000) (x0 : Int) : ∀ (f a : Nat) (q : List (Nm n)) (l : List VN), Good first q → 121 ≤ f + a → a ≤ q.length → l.Perm (q.map enc) → Asc l →
  (∀ q', bfsG first S f a q = some q' → ∃ l' : List VN, l'.Perm (q'.map enc) ∧ Asc l' ∧
   R is_l04Set_4 [tI x0, tI first.1, tLA8 (sL first.2), tLPIPILA8 l, tLPIPILA8 (q.map enc), tLA8 (sL S), tI (a : Int)] = some [tI 0, tLPIPILA8 l']) ∧
  (bfsG first S f a q = none → R is_l04Set_4 [tI x0, tI first.1, tLA8 (sL first.2), tLPIPILA8 l, tLPIPILA8 (q.map enc), tLA8 (sL S), tI (a : Int)] = some [tI 1, tLPIPILA8 [], tB false]) := by
 intro f
 induction f with
 | zero =>
  intro a q l hq hfa ha hp hs; have := hq.len; omega
 | succ f ih =>
  intro a q l hq hfa ha hp hs; rw [bfsG]; have hll := hq.len
  cases hx : q[a]? with
  | none =>
   have : q.length ≤ a := by simpa using hx
   have hn' : ¬ ((a : Int) < (q.length : Int)) := by omega
   refine ⟨fun q' h => ?_, fun h => by simp at h⟩; simp only [Option.some.injEq] at h; subst h; refine ⟨l, hp, hs, ?_⟩; apply vs_l04Set_4; simp only [bs_l04Set_4, List.length_map, decide_eq_false hn', cond_false]
  | some x =>
   have hal := (List.getElem?_eq_some_iff.1 hx).1; have hlt : ((a : Int) < (q.length : Int)) := by omega
   obtain ⟨h7a, h7b⟩ := c_l04Set_7 n h2 hn first x hf S hS a x0 S.length 0 (by omega) q l hq hx hp hs
   simp only [Int.natCast_zero, List.drop_zero] at h7a h7b; have w : wi64 ((a : Int) + 1) = ((a + 1 : Nat) : Int) := by rw [wrap_i64] <;> omega
   simp only
   cases hg : addG first x S q with
   | none =>
    refine ⟨fun q' h => by simp at h, fun _ => ?_⟩; apply vs_l04Set_4; simp only [bs_l04Set_4, List.length_map, decide_eq_true hlt, cond_true, h7b hg, Option.bind_some, getTV_here, getTV_next]
    rfl
   | some q1 =>
    obtain ⟨l1, p1, p2, p3⟩ := h7a q1 hg; obtain ⟨g1, ⟨T, g2⟩, g3⟩ := addG_some h2 hf S q q1 hq (List.mem_of_getElem? hx) hg; obtain ⟨i1, i2⟩ := ih (a + 1) q1 l1 g1 (by omega) (by rw [g2]; simp; omega) p1 p2; have st : ∀ o, R is_l04Set_4 [tI x0, tI first.1, tLA8 (sL first.2), tLPIPILA8 l1, tLPIPILA8 (q1.map enc), tLA8 (sL S), tI ((a + 1 : Nat) : Int)] = some o → R is_l04Set_4 [tI x0, tI first.1, tLA8 (sL first.2), tLPIPILA8 l, tLPIPILA8 (q.map enc), tLA8 (sL S), tI (a : Int)] = some o := by
     intro o ho; apply vs_l04Set_4; simp only [bs_l04Set_4, List.length_map, decide_eq_true hlt, cond_true, p3, Option.bind_some, getTV_here, getTV_next, beq_self_eq_true, w, ho]
    simp only [Option.bind_some]; refine ⟨fun q' h => ?_, fun h => st _ (i2 h)⟩; obtain ⟨l', j1, j2, j3⟩ := i1 q' h; exact ⟨l', j1, j2, st _ j3⟩
structure Sets {n : Nat} (v : Nm n) (ys : List VN) : Prop where
 impl : R ii_superSummit [tPIPILA8 (enc v)] = some [tLPIPILA8 ys, tB true]
 spec : R is_l04Set [tPIPILA8 (enc v)] = some [tLPIPILA8 ys, tB true]
 mem : ∀ y : Nm n, Reach (sumN v) y ↔ enc y ∈ ys
 all : ∀ z ∈ ys, ∃ y : Nm n, z = enc y ∧ SS (sumN v) y
 asc : Asc ys
 len : ys.length ≤ 120
 nod : ys.Nodup
theorem sets_two (n : Nat) (h2 : 2 ≤ n) (h4 : n ≤ 4) (v : Nm n) (hv : OkN v 200) :
  (R ii_superSummit [tPIPILA8 (enc v)] = some [tLPIPILA8 [], tB false] ∧ R is_l04Set [tPIPILA8 (enc v)] = some [tLPIPILA8 [], tB false]) ∨ ∃ ys : List VN, Sets v ys := by
 have hn : n ≤ 8 := by omega
 have hs1 := c_summit n (by omega) hn v (hv.mono (by omega)); have hs2 := c_l04Summit n (by omega) hn v (hv.mono (by omega)); have hf : OkN (sumN v) 1000 := (sumN_ok (by omega) hv).mono (by omega); generalize hfst : sumN v = first at *
 obtain ⟨S1, a1, a2, a3⟩ := c_allSimple n (by omega) h4; obtain ⟨S2, b1, b2, b3, _⟩ := c_l04Simples_all n (by omega) h4; have g4 := c_superSummit_4 n h2 hn first hf S1 (by omega) 121 0 [first] (good_first hf) (by omega) (by simp)
 obtain ⟨k1, k2⟩ := c_l04Set_4 n h2 hn first hf S2 (by omega) (n : Int) 121 0 [first] ([first].map enc) (good_first hf) (by omega) (by simp) (.refl _) (by simp)
 have eV : ∀ x : VN, (x.1, x.2.1, x.2.2) = x := fun x => rfl; have ee : ([first].map enc : List VN) = [enc first] := rfl; have eI : (enc v).1 = (n : Int) := rfl; have eF : (enc first).1 = (n : Int) ∧ (enc first).2.1 = first.1 ∧ (enc first).2.2 = sL first.2 := ⟨rfl, rfl, rfl⟩
 simp only [Int.natCast_zero, ee] at g4 k1 k2
 rcases bfsG_same h2 hf (fun s _ => a2 s) b2 with ⟨n1, n2⟩ | ⟨A, B, n1, n2, gA, gB, hAB, hR⟩
 · left
   refine ⟨?_, ?_⟩
   · apply vi_superSummit; rw [n1] at g4; simp only [bi_superSummit, eV, hs1, Option.bind_some, getTV_here]; simp only [eI, a1, Option.bind_some, getTV_here, g4, getTV_next]
     rfl
   · apply vs_l04Set; simp only [bs_l04Set, eV, hs2, Option.bind_some, getTV_here]; simp only [eI, eF.1, eF.2.1, eF.2.2, c_l02Same n hn, b1, Option.bind_some, getTV_here, k2 n2, getTV_next]
     rfl
 · right; rw [n1] at g4; simp only at g4; obtain ⟨l', p1, p2, p3⟩ := k1 B n2; have hcA : ∀ z ∈ A.map enc, Cls (n : Int) first.1 first.2.length z := fun z hz => by
    obtain ⟨u, hu, rfl⟩ := List.mem_map.1 hz; exact (gA.ss u hu).cls
   have hfl := hf.len; have hAl := gA.len; obtain ⟨ys, q1, q2, q3⟩ := c_sortNormals (by omega : first.2.length < 1000000000) (A.map enc) hcA (by rw [List.length_map]; omega); have hys : ∀ z ∈ ys, Cls (n : Int) first.1 first.2.length z := fun z hz => hcA z (q2.mem_iff.1 hz)
   have e : ys = l' := sorted_unique (ordV _ _ _) hys (q2.trans ((hAB.map enc).trans p1.symm)) q3 p2; subst e
   refine ⟨ys, ?_, ?_, fun y => ?_, fun z hz => ?_, q3, ?_, ?_⟩
   · apply vi_superSummit; simp only [bi_superSummit, eV, hs1, Option.bind_some, getTV_here]; simp only [eI, a1, Option.bind_some, getTV_here, g4, beq_self_eq_true, cond_true, getTV_next, q1]
   · apply vs_l04Set; simp only [bs_l04Set, eV, hs2, Option.bind_some, getTV_here]; simp only [eI, eF.1, eF.2.1, eF.2.2, c_l02Same n hn, b1, Option.bind_some, getTV_here, p3, beq_self_eq_true, cond_true, getTV_next]
   · rw [hfst, hR y, q2.mem_iff]; exact (enc_mem hn).symm
   · obtain ⟨u, hu, rfl⟩ := List.mem_map.1 (q2.mem_iff.1 hz); exact ⟨u, rfl, by rw [hfst]; exact gA.ss u hu⟩
   · rw [q2.length_eq, List.length_map]; exact hAl
   · rw [q2.nodup_iff]; exact List.Pairwise.map enc (fun a b h => fun e => h (enc_inj hn e)) gA.nod
end Go.Ev.YtfkpbhbghbhmgaaGreat
namespace Go.Ev.YtfkpbhbghbhmgaaGreat
open Go.Ev Go.Gar
theorem pm1 (s t : Pm 1) : s = t := by
 apply Pm.ext; intro x
 by_cases h : x < 1
 · have a := s.lt h; have b := t.lt h; omega
 · rw [s.out x (by omega), t.out x (by omega)]
abbrev V1 : VN := (1, 0, [])
theorem c_turnBy1 (k : Int) : R i__i_Normal__turnBy [tPIPILA8 V1, tI k] = some [tPIPILA8 V1] := by
 apply v__i_Normal__turnBy; simp [b__i_Normal__turnBy]
theorem c_put1 : R i__i_Normal__put [tPIPILA8 V1, tA8 (sA (1 : Pm 1))] = some [tPIPILA8 V1] := by
 apply v__i_Normal__put; have h := c_nothing 1 (by omega); simp only [Int.natCast_one] at h; simp [b__i_Normal__put, h]
theorem c_conjugate1 (s : Pm 1) : R ii_conjugate [tPIPILA8 V1, tA8 (sA s)] = some [tPIPILA8 V1] := by
 rw [pm1 s 1]; have hl := c_leftComplement 1 (by omega) (1 : Pm 1); rw [pm1 (Pm.half 1 * (1 : Pm 1)⁻¹) 1] at hl; simp only [Int.natCast_one] at hl; have hpi : R i__i_Normal__putInverse [tPIPILA8 V1, tA8 (sA (1 : Pm 1))] = some [tPIPILA8 V1] := by
  apply v__i_Normal__putInverse; simp only [b__i_Normal__putInverse, c_turnBy1, Option.bind_some, getTV_here, hl, c_put1]
 have hcp : R ii_copyNormal [tPIPILA8 V1] = some [tPIPILA8 V1] := by
  apply vi_copyNormal; simp [bi_copyNormal, apOk, lim]
 have h4 : R ii_product_4 [tI 0, tI 0, tLA8 [], tI 1, tI 0, tLA8 [], tLA8 [], tI 0, tI 0] = some [tI 0, tI 0, tI 0, tLA8 [], tI 1, tI 0, tLA8 []] := by
  apply vi_product_4; simp [bi_product_4]
 have hpr : R ii_product [tPIPILA8 V1, tPIPILA8 V1] = some [tPIPILA8 V1] := by
  apply vi_product; simp only [bi_product, hcp, Option.bind_some, getTV_here, c_turnBy1, List.length_nil, Int.natCast_zero, h4, getTV_next]
 have hw : R ii_withoutHead [tPIPILA8 V1, tA8 (sA (1 : Pm 1))] = some [tPIPILA8 V1] := by
  apply vi_withoutHead; simp only [bi_withoutHead, hpi, Option.bind_some, getTV_here, hpr]
 apply vi_conjugate; simp only [bi_conjugate, hw, Option.bind_some, getTV_here, c_put1]
theorem c_superSummit1_7 (S : List (Pm 1)) (hS : S.length < 1000000) : ∀ (m k : Nat), k + m = S.length → R ii_superSummit_7 [tLPIPILA8 [V1], tLA8 (sL S), tI 0, tI (S.length : Int), tI (k : Int)] = some [tI 0, tLPIPILA8 [V1], tLA8 (sL S), tI 0] := by
 intro m
 induction m with
 | zero =>
  intro k hk; apply vi_superSummit_7; have : ¬ ((k : Int) < (S.length : Int)) := by omega
  simp only [bi_superSummit_7, decide_eq_false this, cond_false]
 | succ m ih =>
  intro k hk; have hkS : k < S.length := by omega
  apply vi_superSummit_7; have w : wi64 ((k : Int) + 1) = ((k + 1 : Nat) : Int) := by rw [wrap_i64] <;> omega
  have hlt : ((k : Int) < (S.length : Int)) := by omega
  have hc := c_ContainsFunc V1 [V1] (fun z hz => by simp at hz; subst hz; simp) (by simp); have hg : List.getD ([V1] : List VN) 0 (0, (0, [])) = V1 := rfl; have h01 : ((0 : Int) < ((1 : Nat) : Int)) := by omega
  have ht : Int.toNat 0 = 0 := rfl; simp (disch := omega) only [bi_superSummit_7, decide_eq_true hlt, decide_eq_true h01, decide_eq_true, sL_len, List.length_cons, List.length_nil, Nat.zero_add, cond_true, Bool.and_true, Int.toNat_natCast, ht, hg, sL_get hkS, c_conjugate1, Option.bind_some, getTV_here, w]; have e1 : decide (V1 ∈ [V1]) = true := by simp
  simp only [hc, Option.bind_some, getTV_here, bne_self_eq_false, cond_false, e1, cond_true]; exact ih (k + 1) (by omega)
structure Sets0 {n : Nat} (v : Nm n) (ys : List VN) : Prop where
 impl : R ii_superSummit [tPIPILA8 (enc v)] = some [tLPIPILA8 ys, tB true]
 spec : R is_l04Set [tPIPILA8 (enc v)] = some [tLPIPILA8 ys, tB true]
 all : ∀ z ∈ ys, ∃ y : Nm n, z = enc y ∧ SS (sumN v) y
 asc : Asc ys
 len : ys.length ≤ 120
 nod : ys.Nodup
 ne : ys ≠ []
theorem sets_one (v : Nm 1) (hv : OkN v 200) : Sets0 v [V1] := by
 have hs1 := c_summit 1 (by omega) (by omega) v (hv.mono (by omega)); have hs2 := c_l04Summit 1 (by omega) (by omega) v (hv.mono (by omega)); have hsu := (sumN_ok (by omega) hv).one rfl; have hv0 := hv.one rfl; subst hv0; rw [hsu] at hs1 hs2; obtain ⟨S1, a1, a2, a3⟩ := c_allSimple 1 (by omega) (by omega); obtain ⟨S2, b1, b2, b3, b4⟩ := c_l04Simples_all 1 (by omega) (by omega); have hS2 := b4 rfl; subst hS2; have eE : enc ((0, []) : Nm 1) = V1 := rfl; have h7 := c_superSummit1_7 S1 (by omega) S1.length 0 (by omega); have hcl : Cls 1 0 0 V1 := ⟨rfl, rfl, rfl, fun x hx => by simp at hx⟩; obtain ⟨ys, q1, q2, q3⟩ := c_sortNormals (n := 1) (p := 0) (k := 0) (by omega) [V1] (fun x hx => by simp at hx; subst hx; exact hcl) (by simp); have ey : ys = [V1] := List.perm_singleton.1 q2; subst ey; have n1 := c_l02Same 1 (by omega); simp only [Int.natCast_one, Int.natCast_zero, eE] at h7 hs1 hs2 a1 b1 n1; have w : wi64 ((0 : Int) + 1) = 1 := by rw [wrap_i64] <;> omega
 have h4b : R ii_superSummit_4 [tLPIPILA8 [V1], tLA8 (sL S1), tI 1] = some [tI 0, tLPIPILA8 [V1]] := by
  apply vi_superSummit_4; simp [bi_superSummit_4]
 have h4 : R ii_superSummit_4 [tLPIPILA8 [V1], tLA8 (sL S1), tI 0] = some [tI 0, tLPIPILA8 [V1]] := by
  apply vi_superSummit_4; have h01 : ((0 : Int) < ((1 : Nat) : Int)) := by omega
  simp only [bi_superSummit_4, List.length_cons, List.length_nil, Nat.zero_add, decide_eq_true h01, cond_true, sL_len, h7, Option.bind_some, getTV_here, getTV_next, beq_self_eq_true, w, h4b]
 have s7 : R is_l04Set_7 [tI 1, tI 0, tLA8 [], tLPIPILA8 [V1], tLPIPILA8 [V1], tLA8 [], tI 0, tI 0] = some [tI 0, tI 1, tI 0, tLA8 [], tLPIPILA8 [V1], tLPIPILA8 [V1], tLA8 [], tI 0] := by
  apply vs_l04Set_7; simp [bs_l04Set_7]
 have s4b : R is_l04Set_4 [tI 1, tI 0, tLA8 [], tLPIPILA8 [V1], tLPIPILA8 [V1], tLA8 [], tI 1] = some [tI 0, tLPIPILA8 [V1]] := by
  apply vs_l04Set_4; simp [bs_l04Set_4]
 have s4 : R is_l04Set_4 [tI 1, tI 0, tLA8 [], tLPIPILA8 [V1], tLPIPILA8 [V1], tLA8 [], tI 0] = some [tI 0, tLPIPILA8 [V1]] := by
  apply vs_l04Set_4; have h01 : ((0 : Int) < ((1 : Nat) : Int)) := by omega
  simp only [bs_l04Set_4, List.length_cons, List.length_nil, Nat.zero_add, decide_eq_true h01, cond_true, s7, Option.bind_some, getTV_here, getTV_next, beq_self_eq_true, w, s4b]
 refine ⟨?_, ?_, fun z hz => ?_, by simp, by simp, by simp, by simp⟩
 · rw [eE]; apply vi_superSummit; simp only [bi_superSummit, hs1, Option.bind_some, getTV_here, a1, h4, beq_self_eq_true, cond_true, getTV_next, q1]
 · rw [eE]; apply vs_l04Set; simp only [sL_nil] at b1; simp only [bs_l04Set, hs2, Option.bind_some, getTV_here, n1, b1, s4, beq_self_eq_true, cond_true, getTV_next]
 · simp only [List.mem_singleton] at hz; exact ⟨(0, []), hz, by rw [hsu]; exact ⟨Lat.Proper.nil, rfl, rfl⟩⟩
theorem sets_all (n : Nat) (h1 : 1 ≤ n) (h4 : n ≤ 4) (v : Nm n) (hv : OkN v 200) :
  (R ii_superSummit [tPIPILA8 (enc v)] = some [tLPIPILA8 [], tB false] ∧ R is_l04Set [tPIPILA8 (enc v)] = some [tLPIPILA8 [], tB false]) ∨ ∃ ys : List VN, Sets0 v ys := by
 by_cases h : n = 1
 · subst h; exact .inr ⟨_, sets_one v hv⟩
 · rcases sets_two n (by omega) h4 v hv with h | ⟨ys, g⟩
   · exact .inl h
   · refine .inr ⟨ys, ⟨g.impl, g.spec, g.all, g.asc, g.len, g.nod, ?_⟩⟩; intro e; have := (g.mem (sumN v)).1 .base; rw [e] at this; simp at this
theorem Sets0.cls {n : Nat} {v : Nm n} {ys : List VN} (h : Sets0 v ys) : ∀ z ∈ ys, Cls (n : Int) (sumN v).1 (sumN v).2.length z := fun z hz => by
 obtain ⟨y, rfl, hy⟩ := h.all z hz; exact hy.cls
theorem c_AreConjugate_bad {a b : VN} (ha : Rows8 a.2.2) (hb : Rows8 b.2.2) (h : both a b ≠ 0) : R is_AreConjugate [tPIPILA8 a, tPIPILA8 b] = some [tB false, tI (both a b)] ∧ R ii_AreConjugate [tPIPILA8 a, tPIPILA8 b] = some [tB false, tI (both a b)] := by
 have e1 : (both a b == 0) = false := by simpa using h
 have e2 : (both a b != 0) = true := by simpa using h
 constructor
 · apply vs_AreConjugate; simp only [bs_AreConjugate, c_l03Both a b ha hb, Option.bind_some, getTV_here, e1, e2, cond_false, cond_true]
 · apply vi_AreConjugate; simp only [bi_AreConjugate, c_areSameCount a b ha hb, Option.bind_some, getTV_here, e2, cond_true]
open Classical in
theorem c_AreConjugate_ok {n : Nat} (hn1 : 1 ≤ n) (hn : n ≤ 8) {v w : Nm n} (hv : OkN v 200) (hw : OkN w 200) (h : both (enc v) (enc w) = 0) :
  ∃ (r : Bool) (c : Int), R is_AreConjugate [tPIPILA8 (enc v), tPIPILA8 (enc w)] = some [tB r, tI c] ∧ R ii_AreConjugate [tPIPILA8 (enc v), tPIPILA8 (enc w)] = some [tB r, tI c] := by
 have ha : Rows8 (enc v).2.2 := sL_rows hn _; have hb : Rows8 (enc w).2.2 := sL_rows hn _; have b1 := c_l03Both (enc v) (enc w) ha hb; have b2 := c_areSameCount (enc v) (enc w) ha hb; rw [h] at b1 b2; have e0 : ((0 : Int) != 0) = false := rfl; have eV : ∀ x : VN, (x.1, x.2.1, x.2.2) = x := fun x => rfl; have eN : (enc v).1 = (n : Int) := rfl; have vs1 := c_l04Summit n hn1 hn v (hv.mono (by omega)); have vs2 := c_l04Summit n hn1 hn w (hw.mono (by omega)); have vi1 := c_summit n hn1 hn v (hv.mono (by omega)); have vi2 := c_summit n hn1 hn w (hw.mono (by omega))
 have rs : ∀ r c, (bif decide (4 < (n : Int)) then some [tB false, tI 2] else
   bif (((sumN v).1) != ((sumN w).1)) then some [tB false, tI 0] else
   bif ((((sumN v).2.length : Nat) : Int) != (((sumN w).2.length : Nat) : Int)) then some [tB false, tI 0] else
   (R is_l04Set [tPIPILA8 (enc v)]).bind fun o4 => bif (!(gB o4 1)) then some [tB false, tI 3] else
    (R is_l04Insert [tLPIPILA8 (gLPIPILA8 o4 0), tPIPILA8 (enc (sumN w))]).bind fun o5 => some [tB (!(gB o5 1)), tI 0]) = some [tB r, tI c] → R is_AreConjugate [tPIPILA8 (enc v), tPIPILA8 (enc w)] = some [tB r, tI c] := by
  intro r c hh; apply vs_AreConjugate; simp only [bs_AreConjugate, eV, b1, Option.bind_some, getTV_here, beq_self_eq_true, cond_true, e0, cond_false, vs1, vs2]; simp only [eN, (enc_2 _).1, (enc_2 _).2]; exact hh
 have ri : ∀ r c, (bif decide (4 < (n : Int)) then some [tB false, tI 2] else
   bif (((sumN v).1) != ((sumN w).1)) then some [tB false, tI 0] else
   bif ((((sumN v).2.length : Nat) : Int) != (((sumN w).2.length : Nat) : Int)) then some [tB false, tI 0] else
   (R ii_superSummit [tPIPILA8 (enc v)]).bind fun o4 => bif (!(gB o4 1)) then some [tB false, tI 3] else
    (R ig_ContainsFunc___i_Normal_i_Normal__v3 [tLPIPILA8 (gLPIPILA8 o4 0), tPIPILA8 (enc (sumN w))]).bind fun o5 => some [tB (gB o5 0), tI 0]) = some [tB r, tI c] → R ii_AreConjugate [tPIPILA8 (enc v), tPIPILA8 (enc w)] = some [tB r, tI c] := by
  intro r c hh; apply vi_AreConjugate; simp only [bi_AreConjugate, eV, b2, Option.bind_some, getTV_here, e0, cond_false, vi1, vi2]; simp only [eN, (enc_2 _).1, (enc_2 _).2]; exact hh
 by_cases h4 : 4 < (n : Int)
 · refine ⟨false, 2, rs _ _ ?_, ri _ _ ?_⟩ <;> simp only [decide_eq_true h4, cond_true]
 · by_cases p1 : (sumN v).1 = (sumN w).1
   · by_cases p2 : (((sumN v).2.length : Nat) : Int) = (((sumN w).2.length : Nat) : Int)
     · simp only [decide_eq_false h4, cond_false, p1, p2, bne_self_eq_false] at rs ri
       rcases sets_all n hn1 (by omega) v hv with ⟨g1, g2⟩ | ⟨ys, g⟩
       · refine ⟨false, 3, rs _ _ ?_, ri _ _ ?_⟩
         · simp [g2]
         · simp [g1]
       · have hok := sumN_ok hn1 hw; have hcw : Cls (n : Int) (sumN v).1 (sumN v).2.length (enc (sumN w)) := ⟨rfl, p1.symm, by rw [(enc_2 _).2]; omega, sL_8 _⟩; have hkl := (sumN_ok hn1 hv).len; have hins := c_l04Insert (enc (sumN w)) hcw (by omega) ys g.cls (by have := g.len; omega) g.asc; have hcon := c_ContainsFunc_v2 (enc (sumN w)) ys (fun z hz => by rw [(g.cls z hz).2.2.1]; omega) (by have := g.len; omega)
         refine ⟨decide (enc (sumN w) ∈ ys), 0, rs _ _ ?_, ri _ _ ?_⟩
         · simp only [g.spec, Option.bind_some, getTV_here, getTV_next, Bool.not_true, cond_false, hins]
           by_cases e : enc (sumN w) ∈ ys
           · simp [e]
           · simp [e]
         · simp only [g.impl, Option.bind_some, getTV_here, getTV_next, Bool.not_true, cond_false, hcon]
     · have p2' : ((((sumN v).2.length : Nat) : Int) != (((sumN w).2.length : Nat) : Int)) = true := by simpa using p2
       refine ⟨false, 0, rs _ _ ?_, ri _ _ ?_⟩ <;> simp only [decide_eq_false h4, cond_false, p1, bne_self_eq_false, p2', cond_true]
   · have p1' : ((sumN v).1 != (sumN w).1) = true := by simpa using p1
     refine ⟨false, 0, rs _ _ ?_, ri _ _ ?_⟩ <;> simp only [decide_eq_false h4, cond_false, p1', cond_true]
end Go.Ev.YtfkpbhbghbhmgaaGreat
namespace Go.Ev.YtfkpbhbghbhmgaaGreat
open Go.Ev
theorem vn_eta (b : VN) : (b.1, b.2.1, b.2.2) = b := rfl
theorem at_midV (p : List VN) (x : VN) (r : List VN) (d : VN) : List.getD (p ++ x :: r) p.length d = x := by simp [List.getD_eq_getElem?_getD]
theorem lt_midV (p : List VN) (x : VN) (r : List VN) : ((p.length : Int) < ((p ++ x :: r).length : Int)) := by simp; omega
theorem c_SuperSummit_9 (ok : Bool) : ∀ (r p acc : List VN), p.length + r.length < 1000000 → acc.length + r.length < 1000000 → (∀ b ∈ r, b.2.2.length < 1000000 ∧ ((limV b).2 = 0 ↔ ok = true)) →
  R is_SuperSummit_9 [tLPIPILA8 (p ++ r), tLPIPILA8 acc, tI (p.length : Int)] = some (if ok = true ∨ r = [] then [tI 0, tLPIPILA8 (acc ++ r)] else [tI 1, tLPIPILA8 [], tI 3]) := by
 intro r
 induction r with
 | nil =>
  intro p acc _ _ _; apply vs_SuperSummit_9; simp [bs_SuperSummit_9]
 | cons b r ih =>
  intro p acc hl ha hb; simp only [List.length_cons] at hl ha; apply vs_SuperSummit_9; have hi := lt_midV p b r; obtain ⟨b1, b2⟩ := hb b (by simp); have a1 : apOk ([] : List (List Int)) b.2.2 = true := apOk2 (by simp; omega); have a2 : apOk acc [b] = true := apOk2 (by simp; omega); simp (disch := omega) only [bs_SuperSummit_9, hi, decide_true, cond_true, Int.natCast_nonneg, Bool.and_true, Int.toNat_natCast, at_midV, a1, vn_eta, c_l03Fit b, Option.bind_some, getTV_here, getTV_next, wrap_i64]
  cases ok with
  | true =>
   have hz : (limV b).2 = 0 := b2.2 rfl; have hv : (limV b).1 = b := by
    unfold limV at hz ⊢
    split at hz
    · rename_i hc; rw [if_pos hc]
    · simp at hz
   have this := ih (p ++ [b]) (acc ++ [b]) (by simp; omega) (by simp; omega) (fun c hc => hb c (by simp [hc])); simp only [List.length_append, List.length_singleton, Int.natCast_add, Int.cast_ofNat_Int, List.append_assoc, List.singleton_append, true_or, if_true] at this; simp only [hz, hv, bne_self_eq_false, cond_false, a2, cond_true, this, true_or, if_true]
  | false =>
   have hz : ¬ (limV b).2 = 0 := fun h => by have := b2.1 h; simp at this
   have h3 : (limV b).2 = 3 := by
    unfold limV at hz ⊢
    split
    · rename_i hc; rw [if_pos hc] at hz; simp at hz
    · rfl
   have e3 : ((3 : Int) != 0) = true := rfl; simp only [h3, e3, cond_true]; simp
theorem limV_same {a b : VN} (h1 : a.2.1 = b.2.1) (h2 : a.2.2.length = b.2.2.length) : (limV a).2 = (limV b).2 := by
 unfold limV; rw [h1, h2]; split <;> rfl
end Go.Ev.YtfkpbhbghbhmgaaGreat
