/- Texts merged: Mu1 Mu2 Mt1 Mt0 Mu3 Mu4 Mu5 Mu6 Mu7. -/
import Derived.Test.YtmdkgikjnaijeaaGreatWb
import Derived.Test.YtmdkgikjnaijeaaGreatWa
import Derived.Test.YtmdkgikjnaijeaaGreatV1
import Derived.Sort.AssemblyPlain
import Derived.Test.YtmdkgikjnaijeaaGreatWd
import Derived.Test.YtmdkgikjnaijeaaGreatWc
set_option linter.unusedVariables false
set_option linter.unusedSimpArgs false
namespace Go.Ev.YtmdkgikjnaijeaaGreat
open Go.Ev Go.Gar
def code {n : Nat} (s : Pm n) : List Nat := (List.range n).map s.f
theorem zGn {n : Nat} (s : Pm n) {x : Nat} (h : x < n) : (code s)[x]? = some (s.f x) := by simp [code, h]
theorem zI3 {n : Nat} (s : Pm n) {x : Nat} (h : x < n) : (code s).getD x 0 = s.f x := by rw [List.getD_eq_getElem?_getD, zGn s h]; rfl
theorem zLJ {n : Nat} {s t : Pm n} (h : code s = code t) : s = t := by
 apply Pm.ext; intro x
 by_cases hx : x < n
 · have h1 := zGn s hx; rw [h, zGn t hx] at h1; exact (Option.some.inj h1).symm
 · rw [s.out x (by omega), t.out x (by omega)]
theorem code_mem {n : Nat} {S : List (Pm n)} {s : Pm n} : code s ∈ S.map code ↔ s ∈ S := by
 constructor
 · intro h; obtain ⟨t, ht, e⟩ := List.mem_map.1 h; rw [← zLJ e]; exact ht
 · exact fun h => List.mem_map_of_mem h
theorem zTI {n : Nat} (hn : n ≤ 8) {S : List (Pm n)} {s : Pm n} : sA s ∈ sL S ↔ s ∈ S := by
 constructor
 · intro h; obtain ⟨t, ht, e⟩ := List.mem_map.1 h; rw [← zOz hn e]; exact ht
 · exact fun h => List.mem_map_of_mem h
def mulC (p q : List Nat) : List Nat := p.map fun x => q.getD x 0
theorem zS2 {n : Nat} (s t : Pm n) : code (s * t) = mulC (code s) (code t) := by
 show (List.range n).map (s * t).f = ((List.range n).map s.f).map fun x => (code t).getD x 0; rw [List.map_map]; apply List.map_congr_left; intro x hx; simp only [Function.comp_def, Pm.mul_f]; rw [zI3 t (s.lt (List.mem_range.1 hx))]
def exC (n p : Nat) : List Nat := (List.range n).map fun x => if x = p then p + 1 else if x = p + 1 then p else x
theorem zRr {n p : Nat} (h : p + 1 < n) : code (Pm.swap n p h) = exC n p := by
 unfold code exC; apply List.map_congr_left; intro x _
 rfl
theorem zR2 (L : List (List Int)) (y : List Int) (hl : L.length < 10000000) : ∀ i : Nat, i ≤ L.length →
  (y ∈ L.drop i → ∃ j : Nat, R zN [tLA8 L, tA8 y, tI (L.length : Int), tI (i : Int)] = some [tI 1, tI (j : Int)]) ∧
  (y ∉ L.drop i → R zN [tLA8 L, tA8 y, tI (L.length : Int), tI (i : Int)] = some [tI 0]) := by
 refine zm _ ?_ (fun i hi ih => ?_)
 · rw [List.drop_length]; refine ⟨fun h => by simp at h, fun _ => ?_⟩; apply kB; simp [zW]
 · rw [List.drop_eq_getElem_cons hi]; have hg : List.getD L i (List.replicate 8 0) = L[i] := by rw [List.getD_eq_getElem?_getD, List.getElem?_eq_getElem hi]; rfl
   have w : wi64 ((i : Int) + 1) = ((i + 1 : Nat) : Int) := by rw [zF] <;> omega
   by_cases e : y = L[i]
   · refine ⟨fun _ => ⟨i, ?_⟩, fun h => (h (by rw [e]; exact List.mem_cons_self)).elim⟩; apply kB; have e2 : (y == L[i]) = true := by simpa using e
     simp (disch := omega) only [zW, decide_eq_true, cond_true, Bool.and_true, Int.toNat_natCast, hg, e2]
   · have e2 : (y == L[i]) = false := by simpa using e
     have st : ∀ o, R zN [tLA8 L, tA8 y, tI (L.length : Int), tI ((i + 1 : Nat) : Int)] = some o → R zN [tLA8 L, tA8 y, tI (L.length : Int), tI (i : Int)] = some o := by
      intro o ho; apply kB; simp (disch := omega) only [zW, decide_eq_true, cond_true, cond_false, Bool.and_true, Int.toNat_natCast, hg, e2, w, ho]
     refine ⟨fun h => ?_, fun h => ?_⟩
     · obtain ⟨j, hj⟩ := ih.1 ((List.mem_cons.1 h).resolve_left e); exact ⟨j, st _ hj⟩
     · exact st _ (ih.2 fun h' => h (List.mem_cons_of_mem _ h'))
theorem zQj (L : List (List Int)) (y : List Int) (hl : L.length < 10000000) : R zz [tLA8 L, tA8 y] = some [tB (decide (y ∈ L))] := by
 apply zAl; have h := zR2 L y hl 0 (Nat.zero_le _); rw [List.drop_zero] at h; simp only [Int.natCast_zero] at h
 by_cases e : y ∈ L
 · obtain ⟨j, hj⟩ := h.1 e; have hI : R zp [tLA8 L, tA8 y] = some [tI (j : Int)] := by
    apply kz; simp [zq, hj]
   simp [zg, hI, e]
 · have hI : R zp [tLA8 L, tA8 y] = some [tI (-1)] := by
    apply kz; simp [zq, h.2 e]
   simp [zg, hI, e]
def stC (n : Nat) (x : List Nat) (C : List (List Nat)) (p : Nat) : List (List Nat) := if (mulC x (exC n p)) ∈ C then C else C ++ [mulC x (exC n p)]
def outC (n : Nat) : Nat → List (List Nat) → Nat → Option (List (List Nat))
 | 0, _, _ => none
 | f + 1, C, a => match C[a]? with
  | none => some C
  | some x => outC n f ((List.range (n - 1)).foldl (stC n x) C) (a + 1)
theorem zQ7 {n : Nat} {x : List Nat} : ∀ (l : List Nat) (C : List (List Nat)), (l.foldl (stC n x) C).length ≤ C.length + l.length
 | [], C => by simp
 | p :: l, C => by
  have := zQ7 l (stC n x C p) (n := n) (x := x); have : (stC n x C p).length ≤ C.length + 1 := by unfold stC; split <;> simp
  simp only [List.foldl_cons, List.length_cons]; omega
theorem zLf (n : Nat) (h1 : 1 ≤ n) (hn : n ≤ 8) (at_ : Nat) (x : Pm n) : ∀ (m p : Nat), p + m = n - 1 → ∀ S : List (Pm n), S[at_]? = some x → S.length + m < 10000000 →
  ∃ S' : List (Pm n), R jm [tLA8 (sL S), tI (n : Int), tI (at_ : Int), tI ((p + 1 : Nat) : Int)] = some [tI 0, tLA8 (sL S'), tI (n : Int), tI (at_ : Int)] ∧ S'.map code = ((List.range (n - 1)).drop p).foldl (stC n (code x)) (S.map code) := by
 intro m
 induction m with
 | zero =>
  intro p hp S hx hl
  refine ⟨S, ?_, ?_⟩
  · apply zC3; have : ¬ (((p + 1 : Nat) : Int) < (n : Int)) := by omega
    simp only [ju, decide_eq_false this, cond_false]
  · rw [List.drop_of_length_le (by simp; omega)]
    rfl
 | succ m ih =>
  intro p hp S hx hl; have hat : at_ < S.length := (List.getElem?_eq_some_iff.1 hx).1
  have hp1 : p + 1 < n := by omega
  rw [List.drop_eq_getElem_cons (by simp; omega)]; simp only [List.getElem_range, List.foldl_cons]; have hg : List.getD (sL S) at_ (List.replicate 8 0) = sA x := by
   rw [zBS hat]; rw [List.getElem?_eq_getElem hat] at hx; rw [Option.some.inj hx]
  have w : wi64 (((p + 1 : Nat) : Int) + 1) = ((p + 1 + 1 : Nat) : Int) := by rw [zF] <;> omega
  have hlt : (((p + 1 : Nat) : Int) < (n : Int)) := by omega
  have hc := zQj (sL S) (sA (x * Pm.swap n p hp1)) (by rw [zT]; omega); have hst : stC n (code x) (S.map code) p = (if x * Pm.swap n p hp1 ∈ S then S else S ++ [x * Pm.swap n p hp1]).map code := by
   unfold stC; rw [← zRr hp1, ← zS2]
   by_cases e : x * Pm.swap n p hp1 ∈ S
   · rw [if_pos (code_mem.2 e), if_pos e]
   · rw [if_neg (fun h => e (code_mem.1 h)), if_neg e]; simp only [List.map_append, List.map_cons, List.map_nil]
  rw [hst]
  by_cases e : x * Pm.swap n p hp1 ∈ S
  · rw [if_pos e]; obtain ⟨S', h1, h2⟩ := ih (p + 1) (by omega) S hx (by omega); refine ⟨S', ?_, h2⟩; apply zC3; simp (disch := omega) only [ju, decide_eq_true hlt, decide_eq_true, zT, cond_true, Bool.and_true, Int.toNat_natCast, hg, zKc n p hp1 hn, zKY n hn, Option.bind_some, getTV_here, hc, decide_eq_true ((zTI hn).2 e), Bool.not_true, cond_false, w, h1]
  · rw [if_neg e]; obtain ⟨S', h1, h2⟩ := ih (p + 1) (by omega) (S ++ [x * Pm.swap n p hp1]) (by rw [List.getElem?_append_left hat]; exact hx) (by simp only [List.length_append, List.length_cons, List.length_nil]; omega); refine ⟨S', ?_, h2⟩; apply zC3; have e' : ¬ sA (x * Pm.swap n p hp1) ∈ sL S := fun h => e ((zTI hn).1 h); have ap : apOk (sL S) [sA (x * Pm.swap n p hp1)] = true := zJx (by rw [zT]; omega); simp (disch := omega) only [ju, decide_eq_true hlt, decide_eq_true, zT, cond_true, Bool.and_true, Int.toNat_natCast, hg, zKc n p hp1 hn, zKY n hn, Option.bind_some, getTV_here, hc, decide_eq_false e', Bool.not_false, ap, zIe, w, h1]
theorem zLg (n : Nat) (h1 : 1 ≤ n) (hn : n ≤ 8) : ∀ (f a : Nat) (S : List (Pm n)) (C' : List (List Nat)), a + f < 1000000 → S.length + 8 * f < 1000000 → outC n f (S.map code) a = some C' →
  ∃ S' : List (Pm n), R zBD [tLA8 (sL S), tI (n : Int), tI (a : Int)] = some [tI 0, tLA8 (sL S')] ∧ S'.map code = C' := by
 intro f
 induction f with
 | zero => intro a S C' _ _ h; simp [outC] at h
 | succ f ih =>
  intro a S C' ha hl h; rw [outC] at h
  by_cases hat : a < S.length
  · have hx : S[a]? = some S[a] := List.getElem?_eq_getElem hat; rw [List.getElem?_map, hx] at h; simp only [Option.map_some] at h; obtain ⟨S1, g1, g2⟩ := zLf n h1 hn a S[a] (n - 1) 0 (by omega) S hx (by omega); rw [List.drop_zero] at g2; have hl1 : S1.length ≤ S.length + 7 := by
     have := zQ7 (n := n) (x := code S[a]) (List.range (n - 1)) (S.map code); rw [← g2] at this; simp only [List.length_map, List.length_range] at this; omega
    rw [← g2] at h; obtain ⟨S', r1, r2⟩ := ih (a + 1) S1 C' (by omega) (by omega) h; refine ⟨S', ?_, r2⟩; apply zFH; have w : wi64 ((a : Int) + 1) = ((a + 1 : Nat) : Int) := by rw [zF] <;> omega
    have hlt : ((a : Int) < (S.length : Int)) := by omega
    simp only [Nat.zero_add, Int.natCast_one] at g1; simp only [zBO, zT, decide_eq_true hlt, cond_true, g1, Option.bind_some, getTV_here, getTV_next, w, r1]
  · rw [List.getElem?_eq_none (by simpa using hat)] at h; simp only [Option.some.injEq] at h; refine ⟨S, ?_, h⟩; apply zFH; have hlt : ¬ ((a : Int) < (S.length : Int)) := by omega
    simp only [zBO, zT, decide_eq_false hlt, cond_false]
theorem zRs {n : Nat} (s : Pm n) : (code s).length = n ∧ (∀ x ∈ code s, x < n) ∧ (code s).Nodup := by
 refine ⟨by simp [code], fun x hx => ?_, ?_⟩
 · obtain ⟨y, hy, rfl⟩ := List.mem_map.1 hx; exact s.lt (List.mem_range.1 hy)
 · unfold code; rw [List.Nodup, List.pairwise_map]; exact (List.nodup_range (n := n)).imp fun h e => h (s.inj e)
theorem chk4 : ((List.range 4).all fun a => (List.range 4).all fun b => (List.range 4).all fun c => (List.range 4).all fun d => !decide ([a, b, c, d].Nodup) || decide ([a, b, c, d] ∈ (outC 4 30 [[0, 1, 2, 3]] 0).getD [])) = true := by decide +kernel
theorem all4 : ∀ a, a < 4 → ∀ b, b < 4 → ∀ c, c < 4 → ∀ d, d < 4 → [a, b, c, d].Nodup → [a, b, c, d] ∈ (outC 4 30 [[0, 1, 2, 3]] 0).getD [] := by
 intro a ha b hb c hc d hd hN; have h := chk4; simp only [List.all_eq_true, List.mem_range, Bool.or_eq_true, Bool.not_eq_true', decide_eq_true_eq, decide_eq_false_iff_not] at h; exact (h a ha b hb c hc d hd).resolve_left (fun g => g hN)
theorem chk3 : ((List.range 3).all fun a => (List.range 3).all fun b => (List.range 3).all fun c => !decide ([a, b, c].Nodup) || decide ([a, b, c] ∈ (outC 3 30 [[0, 1, 2]] 0).getD [])) = true := by decide +kernel
theorem all3 : ∀ a, a < 3 → ∀ b, b < 3 → ∀ c, c < 3 → [a, b, c].Nodup → [a, b, c] ∈ (outC 3 30 [[0, 1, 2]] 0).getD [] := by
 intro a ha b hb c hc hN; have h := chk3; simp only [List.all_eq_true, List.mem_range, Bool.or_eq_true, Bool.not_eq_true', decide_eq_true_eq, decide_eq_false_iff_not] at h; exact (h a ha b hb c hc).resolve_left (fun g => g hN)
theorem chk2 : ((List.range 2).all fun a => (List.range 2).all fun b => !decide ([a, b].Nodup) || decide ([a, b] ∈ (outC 2 30 [[0, 1]] 0).getD [])) = true := by decide +kernel
theorem all2 : ∀ a, a < 2 → ∀ b, b < 2 → [a, b].Nodup → [a, b] ∈ (outC 2 30 [[0, 1]] 0).getD [] := by
 intro a ha b hb hN; have h := chk2; simp only [List.all_eq_true, List.mem_range, Bool.or_eq_true, Bool.not_eq_true', decide_eq_true_eq, decide_eq_false_iff_not] at h; exact (h a ha b hb).resolve_left (fun g => g hN)
theorem chk1 : ((List.range 1).all fun a => !decide ([a].Nodup) || decide ([a] ∈ (outC 1 30 [[0]] 0).getD [])) = true := by decide +kernel
theorem all1 : ∀ a, a < 1 → [a].Nodup → [a] ∈ (outC 1 30 [[0]] 0).getD [] := by
 intro a ha hN; have h := chk1; simp only [List.all_eq_true, List.mem_range, Bool.or_eq_true, Bool.not_eq_true', decide_eq_true_eq, decide_eq_false_iff_not] at h; exact (h a ha).resolve_left (fun g => g hN)
theorem zVX : (outC 4 30 [[0, 1, 2, 3]] 0).isSome = true ∧ ((outC 4 30 [[0, 1, 2, 3]] 0).getD []).length ≤ 24 := by decide +kernel
theorem zVY : (outC 3 30 [[0, 1, 2]] 0).isSome = true ∧ ((outC 3 30 [[0, 1, 2]] 0).getD []).length ≤ 24 := by decide +kernel
theorem zVZ : (outC 2 30 [[0, 1]] 0).isSome = true ∧ ((outC 2 30 [[0, 1]] 0).getD []).length ≤ 24 := by decide +kernel
theorem zVa : (outC 1 30 [[0]] 0).isSome = true ∧ ((outC 1 30 [[0]] 0).getD []).length ≤ 24 := by decide +kernel
theorem zSd (n : Nat) (h1 : 1 ≤ n) (h4 : n ≤ 4) : ∃ C, outC n 30 [List.range n] 0 = some C ∧ C.length ≤ 24 ∧ ∀ l : List Nat, l.length = n → (∀ x ∈ l, x < n) → l.Nodup → l ∈ C := by
 obtain ⟨hs, hl⟩ : (outC n 30 [List.range n] 0).isSome = true ∧ ((outC n 30 [List.range n] 0).getD []).length ≤ 24 := by
  rcases (by omega : n = 1 ∨ n = 2 ∨ n = 3 ∨ n = 4) with rfl | rfl | rfl | rfl
  · exact zVa
  · exact zVZ
  · exact zVY
  · exact zVX
 obtain ⟨C, hC⟩ := Option.isSome_iff_exists.1 hs; refine ⟨C, hC, by rw [hC] at hl; exact hl, fun l hl hx hd => ?_⟩; have key : l ∈ (outC n 30 [List.range n] 0).getD [] := by
  rcases (by omega : n = 1 ∨ n = 2 ∨ n = 3 ∨ n = 4) with rfl | rfl | rfl | rfl
  · match l, hl with
    | [a], _ => exact all1 a (hx a (by simp)) hd
  · match l, hl with
    | [a, b], _ => exact all2 a (hx a (by simp)) b (hx b (by simp)) hd
  · match l, hl with
    | [a, b, c], _ => exact all3 a (hx a (by simp)) b (hx b (by simp)) c (hx c (by simp)) hd
  · match l, hl with
    | [a, b, c, d], _ => exact all4 a (hx a (by simp)) b (hx b (by simp)) c (hx c (by simp)) d (hx d (by simp)) hd
 rw [hC] at key; exact key
theorem zJM (n : Nat) (h1 : 1 ≤ n) (h4 : n ≤ 4) : ∃ S : List (Pm n), R zEX [tI (n : Int)] = some [tLA8 (sL S)] ∧ (∀ s : Pm n, s ∈ S) ∧ S.length ≤ 24 := by
 obtain ⟨C, g1, g2, g3⟩ := zSd n h1 h4; have e : ([(1 : Pm n)]).map code = [List.range n] := by
  simp only [List.map_cons, List.map_nil, code]; congr 1; exact (List.map_congr_left fun x _ => Pm.one_f x).trans (List.map_id _)
 obtain ⟨S, r1, r2⟩ := zLg n h1 (by omega) 30 0 [(1 : Pm n)] C (by omega) (by simp) (by rw [e]; exact g1)
 refine ⟨S, ?_, fun s => ?_, ?_⟩
 · apply zL5; simp only [Int.natCast_zero] at r1; have e2 : ([sA (1 : Pm n)]) = sL [(1 : Pm n)] := rfl; simp only [zEo, jp n (by omega), Option.bind_some, getTV_here, e2, r1, getTV_next]
 · obtain ⟨q1, q2, q3⟩ := zRs s; have := g3 (code s) q1 q2 q3; rw [← r2] at this; exact code_mem.1 this
 · rw [← r2] at g2; simpa using g2
end Go.Ev.YtmdkgikjnaijeaaGreat
namespace Go.Ev.YtmdkgikjnaijeaaGreat
open Go.Ev Go.Gar
def swapC (c : List Nat) (k i : Nat) : List Nat := (c.set k (c.getD i 0)).set i (c.getD k 0)
def simC (n : Nat) : Nat → List Nat → Nat → List (List Nat) → List (List Nat)
 | 0, c, _, C => if c = List.range n then C else C ++ [c]
 | d + 1, c, k, C => ((List.range n).drop k).foldl (fun C i => simC n d (swapC c k i) (k + 1) C) C
theorem zOw (n : Nat) : ∀ (d : Nat) (c : List Nat) (k : Nat) (C : List (List Nat)), (simC n d c k C).length ≤ C.length + n ^ d
 | 0, c, k, C => by
  simp only [simC, Nat.pow_zero]; split <;> simp
 | d + 1, c, k, C => by
  have key : ∀ (l : List Nat) (C : List (List Nat)), (l.foldl (fun C i => simC n d (swapC c k i) (k + 1) C) C).length ≤ C.length + l.length * n ^ d := by
   intro l
   induction l with
   | nil => intro C; simp
   | cons i l ih =>
    intro C; have h1 := ih (simC n d (swapC c k i) (k + 1) C); have h2 := zOw n d (swapC c k i) (k + 1) C; rw [List.foldl_cons, List.length_cons, Nat.add_mul, Nat.one_mul]; omega
  have h := key ((List.range n).drop k) C; have hl : ((List.range n).drop k).length * n ^ d ≤ n * n ^ d := Nat.mul_le_mul_right _ (by simp); simp only [simC, Nat.pow_succ]; rw [Nat.mul_comm (n ^ d) n]; omega
theorem zTs {n : Nat} (hn : n ≤ 8) (s : Pm n) {k i : Nat} (hk : k < n) (hi : i < n) : ∃ s' : Pm n,
  List.set (List.set (sA s) k (List.getD (sA s) i 0)) i (List.getD (sA s) k 0) = sA s' ∧ code s' = swapC (code s) k i := by
 obtain ⟨s', hs'⟩ := zU2 (n := n) (f := fun x => if x = i then s.f k else if x = k then s.f i else s.f x) (fun x hx => by
  split
  · exact s.lt hk
  · split
    · exact s.lt hi
    · exact s.lt hx) (fun x y hx hy h => by
  by_cases a1 : x = i <;> by_cases a2 : y = i
  · omega
  · rw [if_pos a1, if_neg a2] at h
    by_cases a3 : y = k
    · rw [if_pos a3] at h; have := s.inj h; omega
    · rw [if_neg a3] at h; have := s.inj h; omega
  · rw [if_neg a1, if_pos a2] at h
    by_cases a3 : x = k
    · rw [if_pos a3] at h; have := s.inj h; omega
    · rw [if_neg a3] at h; have := s.inj h; omega
  · rw [if_neg a1, if_neg a2] at h
    by_cases a3 : x = k <;> by_cases a4 : y = k
    · omega
    · rw [if_pos a3, if_neg a4] at h; have := s.inj h; omega
    · rw [if_neg a3, if_pos a4] at h; have := s.inj h; omega
    · rw [if_neg a3, if_neg a4] at h; exact s.inj h)
 refine ⟨s', ?_, ?_⟩
 · rw [jA hi hn, jA hk hn]; unfold sA; rw [zC1 hk hn, zC1 hi hn]; apply zl; intro x hx; rw [hs' x hx]
 · unfold swapC; rw [zI3 s hi, zI3 s hk]; apply List.ext_getElem?; intro x
   by_cases hx : x < n
   · rw [zGn s' hx, hs' x hx, List.getElem?_set, List.getElem?_set, zGn s hx]
     by_cases e1 : i = x
     · rw [if_pos e1, if_pos e1.symm, if_pos (by simp [code]; omega)]
     · rw [if_neg e1, if_neg (Ne.symm e1)]
       by_cases e2 : k = x
       · rw [if_pos e2, if_pos e2.symm, if_pos (by simp [code]; omega)]
       · rw [if_neg e2, if_neg (Ne.symm e2)]
   · rw [List.getElem?_eq_none (by simp [code]; omega), List.getElem?_eq_none (by simp [code]; omega)]
theorem zLI (n : Nat) : code (1 : Pm n) = List.range n := (List.map_congr_left fun x _ => Pm.one_f x).trans (List.map_id _)
theorem zMy (n : Nat) (hn : n ≤ 7) : ∀ (d k : Nat) (s : Pm n) (L : List (Pm n)), k + d = n → L.length + n ^ d < 10000000 →
  ∃ L' : List (Pm n), R zAa [tLA8 (sL L), tA8 (sA s), tI (k : Int), tI (n : Int)] = some [tLA8 (sL L')] ∧ L'.map code = simC n d (code s) k (L.map code) := by
 intro d
 induction d with
 | zero =>
  intro k s L hk hl; have e : k = n := by omega
  subst e; simp only [simC, ← zLI]
  by_cases e1 : s = 1
  · subst e1; refine ⟨L, ?_, by rw [if_pos rfl]⟩; apply zDc; simp only [zAh, beq_self_eq_true, cond_true, jR k (by omega), Option.bind_some, getTV_here]
  · refine ⟨L ++ [s], ?_, by rw [if_neg (fun h => e1 (zLJ h))]; simp⟩; apply zDc; have e2 : (sA s == sA (1 : Pm k)) = false := by rw [zG1 (by omega), decide_eq_false e1]
    have ap : apOk (sL L) [sA s] = true := zJx (by rw [zT]; omega); simp only [zAh, beq_self_eq_true, cond_true, jR k (by omega), Option.bind_some, getTV_here, e2, cond_false, ap, zIe]
 | succ d ih =>
  intro k s L hk hl
  have loop : ∀ (m i : Nat), i + m = n → k ≤ i → ∀ L : List (Pm n), L.length + m * n ^ d < 10000000 →
    ∃ L' : List (Pm n), R zAZ [tLA8 (sL L), tA8 (sA s), tI (k : Int), tI (n : Int), tI (i : Int)] = some [tI 0, tLA8 (sL L')] ∧
     L'.map code = ((List.range n).drop i).foldl (fun C i => simC n d (swapC (code s) k i) (k + 1) C) (L.map code) := by
   intro m
   induction m with
   | zero =>
    intro i hi hki L hl; refine ⟨L, ?_, by rw [List.drop_of_length_le (by simp; omega)]; rfl⟩; apply zED; have : ¬ ((i : Int) < (n : Int)) := by omega
    simp only [zAg, decide_eq_false this, cond_false]
   | succ m ihm =>
    intro i hi hki L hl; rw [Nat.add_mul, Nat.one_mul] at hl; obtain ⟨s', a1, a2⟩ := zTs (n := n) (by omega) s (k := k) (i := i) (by omega) (by omega); obtain ⟨L1, b1, b2⟩ := ih (k + 1) s' L (by omega) (by omega); have hl1 : L1.length ≤ L.length + n ^ d := by
     have := zOw n d (code s') (k + 1) (L.map code); rw [← b2] at this; simpa using this
    obtain ⟨L2, c1, c2⟩ := ihm (i + 1) (by omega) (by omega) L1 (by omega)
    refine ⟨L2, ?_, ?_⟩
    · apply zED; have w : wi64 ((i : Int) + 1) = ((i + 1 : Nat) : Int) := by rw [zF] <;> omega
      have w2 : wi64 ((k : Int) + 1) = ((k + 1 : Nat) : Int) := by rw [zF] <;> omega
      have hlt : ((i : Int) < (n : Int)) := by omega
      simp (disch := omega) only [zAg, decide_eq_true hlt, decide_eq_true, Bool.and_true, cond_true, Int.toNat_natCast, a1, w, w2, b1, Option.bind_some, getTV_here, c1]
    · rw [c2, b2, List.drop_eq_getElem_cons (l := List.range n) (i := i) (by simp; omega), List.foldl_cons, List.getElem_range, a2]
  obtain ⟨L', r1, r2⟩ := loop (n - k) k (by omega) (Nat.le_refl _) L (by
   have : (n - k) * n ^ d ≤ n * n ^ d := Nat.mul_le_mul_right _ (by omega); rw [Nat.pow_succ, Nat.mul_comm (n ^ d) n] at hl; omega)
  refine ⟨L', ?_, r2⟩; apply zDc; have hne : ((k : Int) == (n : Int)) = false := by rw [zDz, decide_eq_false (by omega)]
  simp only [zAh, hne, cond_false, r1, Option.bind_some, getTV_next, getTV_here]
theorem zVf : ((List.range 4).all fun a => (List.range 4).all fun b => (List.range 4).all fun c => (List.range 4).all fun d => !decide ([a, b, c, d].Nodup) || decide ([a, b, c, d] = [0, 1, 2, 3]) || decide ([a, b, c, d] ∈ simC 4 4 [0, 1, 2, 3] 0 [])) = true := by decide +kernel
theorem zVg : ((List.range 3).all fun a => (List.range 3).all fun b => (List.range 3).all fun c => !decide ([a, b, c].Nodup) || decide ([a, b, c] = [0, 1, 2]) || decide ([a, b, c] ∈ simC 3 3 [0, 1, 2] 0 [])) = true := by decide +kernel
theorem zVh : ((List.range 2).all fun a => (List.range 2).all fun b => !decide ([a, b].Nodup) || decide ([a, b] = [0, 1]) || decide ([a, b] ∈ simC 2 2 [0, 1] 0 [])) = true := by decide +kernel
theorem zVb : (simC 4 4 [0, 1, 2, 3] 0 []).length ≤ 24 := by decide +kernel
theorem zVc : (simC 3 3 [0, 1, 2] 0 []).length ≤ 24 := by decide +kernel
theorem zVd : (simC 2 2 [0, 1] 0 []).length ≤ 24 := by decide +kernel
theorem zVe : (simC 1 1 [0] 0 []).length ≤ 24 := by decide +kernel
theorem zST (n : Nat) (h1 : 1 ≤ n) (h4 : n ≤ 4) : (simC n n (List.range n) 0 []).length ≤ 24 ∧ ∀ l : List Nat, l.length = n → (∀ x ∈ l, x < n) → l.Nodup → l ≠ List.range n → l ∈ simC n n (List.range n) 0 [] := by
 rcases (by omega : n = 1 ∨ n = 2 ∨ n = 3 ∨ n = 4) with rfl | rfl | rfl | rfl
 · refine ⟨zVe, fun l hl hx hN hne => ?_⟩
   match l, hl with
   | [a], _ =>
    have := hx a (by simp); have e : a = 0 := by omega
    subst e; exact absurd rfl hne
 · refine ⟨zVd, fun l hl hx hN hne => ?_⟩
   match l, hl with
   | [a, b], _ =>
    have h := zVh; simp only [List.all_eq_true, List.mem_range, Bool.or_eq_true, Bool.not_eq_true', decide_eq_true_eq, decide_eq_false_iff_not] at h; exact ((h a (hx a (by simp)) b (hx b (by simp))).resolve_left (fun g => g.elim (fun g => g hN) (fun g => hne g)))
 · refine ⟨zVc, fun l hl hx hN hne => ?_⟩
   match l, hl with
   | [a, b, c], _ =>
    have h := zVg; simp only [List.all_eq_true, List.mem_range, Bool.or_eq_true, Bool.not_eq_true', decide_eq_true_eq, decide_eq_false_iff_not] at h; exact ((h a (hx a (by simp)) b (hx b (by simp)) c (hx c (by simp))).resolve_left (fun g => g.elim (fun g => g hN) (fun g => hne g)))
 · refine ⟨zVb, fun l hl hx hN hne => ?_⟩
   match l, hl with
   | [a, b, c, d], _ =>
    have h := zVf; simp only [List.all_eq_true, List.mem_range, Bool.or_eq_true, Bool.not_eq_true', decide_eq_true_eq, decide_eq_false_iff_not] at h; exact ((h a (hx a (by simp)) b (hx b (by simp)) c (hx c (by simp)) d (hx d (by simp))).resolve_left (fun g => g.elim (fun g => g hN) (fun g => hne g)))
theorem zEB (n : Nat) (h1 : 1 ≤ n) (h4 : n ≤ 4) : ∃ S : List (Pm n), R zAa [tLA8 [], tA8 (sA (1 : Pm n)), tI 0, tI (n : Int)] = some [tLA8 (sL S)] ∧ (∀ s : Pm n, s ≠ 1 → s ∈ S) ∧ S.length ≤ 24 ∧ (n = 1 → S = []) := by
 have hp : n ^ n ≤ 256 := by rcases (by omega : n = 1 ∨ n = 2 ∨ n = 3 ∨ n = 4) with rfl | rfl | rfl | rfl <;> decide
 obtain ⟨S, r1, r2⟩ := zMy n (by omega) n 0 (1 : Pm n) [] (by omega) (by simp only [List.length_nil]; omega); rw [zLI, List.map_nil] at r2; obtain ⟨g1, g2⟩ := zST n h1 h4
 refine ⟨S, r1, fun s hs => ?_, ?_⟩
 · obtain ⟨q1, q2, q3⟩ := zRs s; have := g2 (code s) q1 q2 q3 (fun h => hs (zLJ (by rw [h, zLI]))); rw [← r2] at this; exact code_mem.1 this
 · rw [← r2] at g1; refine ⟨by simpa using g1, fun h => ?_⟩; subst h; have e : simC 1 1 (List.range 1) 0 [] = [] := by decide +kernel
   rw [e] at r2; simpa using r2
end Go.Ev.YtmdkgikjnaijeaaGreat
namespace Go.Ev.YtmdkgikjnaijeaaGreat
open Go.Ev
theorem zMj {α β : Type} {f : α → List β} {n : Nat} (hf : ∀ a, (f a).length = n) : ∀ (xs : List α) (i j : Nat), j < n → (xs.flatMap f)[i * n + j]? = (xs[i]?).bind fun a => (f a)[j]?
 | [], i, j, _ => by simp
 | a :: xs, 0, j, hj => by
  rw [List.flatMap_cons, List.getElem?_append_left (by rw [hf]; omega)]; simp
 | a :: xs, i + 1, j, hj => by
  rw [List.flatMap_cons, List.getElem?_append_right (by rw [hf]; rw [Nat.add_mul]; omega), hf]; rw [show (i + 1) * n + j - n = i * n + j by rw [Nat.add_mul]; omega, zMj hf xs i j hj]; simp
theorem zMQ {α : Type} (xs : List α) {i j : Nat} (hi : i < xs.length) (hj : j < xs.length) : (pairsOf xs)[i * xs.length + j]? = some (xs[i], xs[j]) := by
 unfold pairsOf; rw [zMj (n := xs.length) (fun a => by simp) xs i j hj, List.getElem?_eq_getElem hi]; simp [List.getElem?_eq_getElem hj]
theorem zMp {α : Type} {call : Oracle} {cmp : Nat} {t : Ty} (k : List Int → Option α) (cf : t.den → t.den → Int) : ∀ (r : List (t.den × t.den)) (acc : List Int),
  (∀ p ∈ r, call cmp [⟨t, p.1⟩, ⟨t, p.2⟩] = some [⟨.int .i64, cf p.1 p.2⟩]) → cmpsK call cmp t k r acc = k (acc ++ r.map fun p => cf p.1 p.2)
 | [], acc, _ => by simp [cmpsK]
 | p :: r, acc, h => by
  simp only [cmpsK, h p (by simp), Option.bind_some, cmpOut]; rw [zMp k cf r _ (fun q hq => h q (by simp [hq]))]; simp
theorem zIp {α : Type} {xs : List α} {p : α × α} (h : p ∈ pairsOf xs) : p.1 ∈ xs ∧ p.2 ∈ xs := by
 simp only [pairsOf, List.mem_flatMap, List.mem_map] at h; obtain ⟨a, ha, b, hb, rfl⟩ := h; exact ⟨ha, hb⟩
theorem zRj {α : Type} (a : Array α) {n : Nat} (h : a.size = n) : a.extract 0 n = a := by
 subst h; simp
theorem zSS {call : Oracle} {cmp : Nat} {t : Ty} (cf : t.den → t.den → Int) (xs : List t.den) (hl : xs.length ≤ 549755813888)
  (hc : ∀ a ∈ xs, ∀ b ∈ xs, call cmp [⟨t, a⟩, ⟨t, b⟩] = some [⟨.int .i64, cf a b⟩]) (h1 : ∀ a ∈ xs, ¬ cf a a < 0)
  (h2 : ∀ a ∈ xs, ∀ b ∈ xs, ∀ c ∈ xs, cf a b < 0 → cf b c < 0 → cf a c < 0) (h3 : ∀ a ∈ xs, ∀ b ∈ xs, ∀ c ∈ xs, ¬ cf a b < 0 → ¬ cf b c < 0 → ¬ cf a c < 0) :
  ∃ ys, sortE call cmp t xs = some [⟨.slice t, ys⟩] ∧ ys.Perm xs ∧ ys.Pairwise (fun a b => ¬ cf b a < 0) := by
 cases xs with
 | nil => exact ⟨[], rfl, .nil, .nil⟩
 | cons x r =>
  have hlim : r.length < lim := by simp only [List.length_cons] at hl; simp only [lim]; omega
  simp only [sortE, if_pos hlim]; rw [zMp _ cf _ _ (fun p hp => hc _ (zIp hp).1 _ (zIp hp).2)]; simp only [List.nil_append]; generalize hcs : ((pairsOf (x :: r)).map fun p => cf p.1 p.2) = cs; have hcf : ∀ i j : Fin (r.length + 1), cfC (r.length + 1) cs i j = cf (x :: r)[i.val] (x :: r)[j.val] := by
   intro i j; have := zMQ (x :: r) (i := i.val) (j := j.val) i.isLt j.isLt; simp only [List.length_cons] at this; rw [cfC, ← hcs, List.getD_eq_getElem?_getD, List.getElem?_map, this]
   rfl
  have hm : ∀ i : Fin (r.length + 1), (x :: r)[i.val] ∈ x :: r := fun i => List.getElem_mem _; have hO : Sort.SWO (ltC (r.length + 1) cs) := by
   refine ⟨fun i => ?_, fun i j k a b => ?_, fun i j k a b => ?_⟩
   · simp only [ltC, hcf, decide_eq_false_iff_not]; exact h1 _ (hm i)
   · simp only [ltC, hcf, decide_eq_true_eq] at a b ⊢; exact h2 _ (hm i) _ (hm j) _ (hm k) a b
   · simp only [ltC, hcf, decide_eq_false_iff_not] at a b ⊢; exact h3 _ (hm i) _ (hm j) _ (hm k) a b
  have hsw : swoB (ltC (r.length + 1) cs) = true := by
   simp only [swoB, Bool.and_eq_true, decide_eq_true_eq]; exact ⟨⟨hO.irrefl, hO.trans⟩, hO.ntrans⟩
  rw [if_pos hsw]; refine ⟨_, rfl, ?_⟩; have hds : (Array.ofFn fun i : Fin (r.length + 1) => i).size = r.length + 1 := by simp
  obtain ⟨⟨p1, p2, p3⟩, hs⟩ := Go.Sort.pdq_sorts (ltC (r.length + 1) cs) hO (Array.ofFn fun i : Fin (r.length + 1) => i) 0 (r.length + 1) (Lib.bitLen (r.length + 1)) true true (Nat.zero_le _) (by rw [hds]; exact Nat.le_refl _) (Or.inl rfl)
  change (sortBy (ltC (r.length + 1) cs)).size = _ at p1
  change ((sortBy (ltC (r.length + 1) cs)).extract 0 (r.length + 1)).toList.Perm _ at p3
  change Sort.SortedIn _ 0 _ (sortBy (ltC (r.length + 1) cs)) at hs
  generalize sortBy (ltC (r.length + 1) cs) = out at p1 p3 hs; rw [hds] at p1; rw [zRj out p1, zRj _ hds] at p3; have e3 : ((Array.ofFn fun i : Fin (r.length + 1) => i).toList.map fun i => (x :: r).getD i.val x) = x :: r := by
   apply List.ext_getElem
   · simp
   · intro i a b; simp only [List.length_map, Array.length_toList, hds] at a; have a' : i < (x :: r).length := a; simp only [List.getElem_map, Array.getElem_toList, Array.getElem_ofFn, List.getD_eq_getElem?_getD, List.getElem?_eq_getElem a', Option.getD_some]
  refine ⟨?_, ?_⟩
  · have := p3.map fun i => (x :: r).getD i.val x; rwa [e3] at this
  · rw [List.pairwise_iff_getElem]; intro i j hi hj hij; simp only [List.length_map, Array.length_toList] at hi hj; have := hs i j (Nat.zero_le _) hij (by omega); rw [getElem!_pos out i hi, getElem!_pos out j hj] at this; simp only [ltC, hcf, decide_eq_false_iff_not] at this; have g : ∀ q : Fin (r.length + 1), (x :: r).getD q.val x = (x :: r)[q.val] := by
     intro q; have hq : q.val < (x :: r).length := q.isLt; simp only [List.getD_eq_getElem?_getD, List.getElem?_eq_getElem hq, Option.getD_some]
    simp only [List.getElem_map, Array.getElem_toList, g]; exact this
end Go.Ev.YtmdkgikjnaijeaaGreat
namespace Go.Ev.YtmdkgikjnaijeaaGreat
open Go.Ev Go.Gar
def bef : List Int → List Int → Bool
 | a :: p, b :: q => if a = b then bef p q else decide (a < b)
 | _, _ => false
def cmpL : List Int → List Int → Int
 | a :: p, b :: q => if a < b then -1 else if b < a then 1 else cmpL p q
 | _, _ => 0
theorem zPa : ∀ p q : List Int, (cmpL p q < 0) = (bef p q = true)
 | [], [] => by simp [cmpL, bef]
 | [], _ :: _ => by simp [cmpL, bef]
 | _ :: _, [] => by simp [cmpL, bef]
 | a :: p, b :: q => by
  simp only [cmpL, bef]
  by_cases h1 : a < b
  · rw [if_pos h1, if_neg (by omega), decide_eq_true h1]; simp
  · rw [if_neg h1]
    by_cases h2 : b < a
    · rw [if_pos h2, if_neg (by omega), decide_eq_false h1]; simp
    · rw [if_neg h2, if_pos (by omega)]; exact zPa p q
theorem zR8 : ∀ p : List Int, bef p p = false
 | [] => rfl
 | a :: p => by simp only [bef, if_true]; exact zR8 p
theorem zNC : ∀ {p q r : List Int}, p.length = q.length → q.length = r.length → bef p q = true → bef q r = true → bef p r = true
 | [], _, _, _, _, h, _ => by simp [bef] at h
 | a :: p, [], _, _, _, h, _ => by simp [bef] at h
 | a :: p, b :: q, [], _, _, _, h => by simp [bef] at h
 | a :: p, b :: q, c :: r, l1, l2, h1, h2 => by
  simp only [bef] at h1 h2 ⊢; simp only [List.length_cons] at l1 l2
  by_cases e1 : a = b
  · subst e1; rw [if_pos rfl] at h1
    by_cases e2 : a = c
    · subst e2; rw [if_pos rfl] at h2; rw [if_pos rfl]; exact zNC (by omega) (by omega) h1 h2
    · rw [if_neg e2] at h2 ⊢; exact h2
  · rw [if_neg e1] at h1; simp only [decide_eq_true_eq] at h1
    by_cases e2 : b = c
    · subst e2; rw [if_neg e1]; simpa using h1
    · rw [if_neg e2] at h2; simp only [decide_eq_true_eq] at h2; rw [if_neg (by omega)]; simp only [decide_eq_true_eq]; omega
theorem zND : ∀ {p q : List Int}, p.length = q.length → bef p q = false → bef q p = false → p = q
 | [], [], _, _, _ => rfl
 | a :: p, b :: q, l, h1, h2 => by
  simp only [bef] at h1 h2; simp only [List.length_cons] at l
  by_cases e : a = b
  · subst e; rw [if_pos rfl] at h1 h2; rw [zND (by omega) h1 h2]
  · rw [if_neg e] at h1; rw [if_neg (Ne.symm e)] at h2; simp only [decide_eq_false_iff_not] at h1 h2; omega
 | [], _ :: _, l, _, _ => by simp at l
 | _ :: _, [], l, _, _ => by simp at l
theorem zEz {x : List Int} (h : x.length = 8) {i : Nat} (hi : i < 8) : x.drop i = List.getD x i 0 :: x.drop (i + 1) := by
 rw [List.drop_eq_getElem_cons (by omega), List.getD_eq_getElem?_getD, List.getElem?_eq_getElem (by omega)]
 rfl
theorem zNf {α : Type} (f : α → Bool) : ∀ L : List α, L.take (L.takeWhile f).length = L.takeWhile f ∧ L.drop (L.takeWhile f).length = L.dropWhile f
 | [] => ⟨rfl, rfl⟩
 | a :: L => by
  simp only [List.takeWhile_cons, List.dropWhile_cons]
  cases f a with
  | true => exact ⟨by simp [(zNf f L).1], by simp [(zNf f L).2]⟩
  | false => exact ⟨rfl, rfl⟩
theorem zVS {α : Type} (f : α → Bool) (L : List α) : (L.takeWhile f).length ≤ L.length := (List.takeWhile_sublist _).length_le
theorem zR0 (a : Int) : R icmp_isNaN_byte_ [tU8 a] = some [tB false] := by
 apply zH8; simp [bcmp_isNaN_byte_]
theorem zUh (a b : Int) : R icmp_Compare_byte_ [tU8 a, tU8 b] = some [tI (if a < b then -1 else if b < a then 1 else 0)] := by
 apply zGJ; simp only [bcmp_Compare_byte_, zR0, Option.bind_some, getTV_here, cond_false]
 by_cases h1 : a < b
 · simp only [decide_eq_true h1, cond_true, if_pos h1]
 · by_cases h2 : b < a
   · simp only [decide_eq_false h1, decide_eq_true h2, cond_true, cond_false, if_neg h1, if_pos h2]
   · simp only [decide_eq_false h1, decide_eq_false h2, cond_false, if_neg h1, if_neg h2]
theorem zLi (a b : List Int) (ha : a.length = 8) (hb : b.length = 8) : ∀ i : Nat, i ≤ 8 → R kC [tLU8 a, tLU8 b, tI 8, tI (i : Int)] =
  some (if cmpL (a.drop i) (b.drop i) = 0 then [tI 0, tLU8 a, tLU8 b] else [tI 1, tI (cmpL (a.drop i) (b.drop i))]) := by
 refine zm _ ?_ (fun i hi ih => ?_)
 · apply ji; rw [List.drop_of_length_le (by omega), List.drop_of_length_le (by omega)]; simp [kD, cmpL]
 · apply ji; rw [zEz ha hi, zEz hb hi]; have h1 : ¬ ((8 : Int) ≤ (i : Int)) := by omega
   simp (disch := omega) only [kD, ha, hb, show ((8 : Nat) : Int) = 8 from rfl, decide_eq_true, decide_eq_false h1, cond_true, cond_false, Bool.and_true, Int.toNat_natCast, zUh, Option.bind_some, getTV_here, kQ, zF, cmpL]
   by_cases e1 : List.getD a i 0 < List.getD b i 0
   · simp only [if_pos e1]; rfl
   · by_cases e2 : List.getD b i 0 < List.getD a i 0
     · simp only [if_neg e1, if_pos e2]; rfl
     · simp only [if_neg e1, if_neg e2, decide_true, Bool.not_true, cond_false]; rw [show (i : Int) + 1 = ((i + 1 : Nat) : Int) by omega, ih]
theorem zOf (a b : List Int) (ha : a.length = 8) (hb : b.length = 8) : R kv [tLU8 a, tLU8 b] = some [tI (cmpL a b)] := by
 apply zDe; have h := zLi a b ha hb 0 (by omega); simp only [Int.natCast_zero, List.drop_zero] at h; simp only [ky, ha, show ((8 : Nat) : Int) = 8 from rfl, h, Option.bind_some]
 by_cases e : cmpL a b = 0
 · simp [e, ha, hb]
 · simp [e]
end Go.Ev.YtmdkgikjnaijeaaGreat
namespace Go.Ev.YtmdkgikjnaijeaaGreat
open Go.Ev Go.Gar
abbrev VN := Int × Int × List (List Int)
structure OrdOn {α : Type} (C : α → Prop) (lt : α → α → Bool) : Prop where
 irr : ∀ a, C a → lt a a = false
 trans : ∀ a b c, C a → C b → C c → lt a b = true → lt b c = true → lt a c = true
 total : ∀ a b, C a → C b → lt a b = false → lt b a = false → a = b
theorem OrdOn.ntrans {α : Type} {C : α → Prop} {lt : α → α → Bool} (h : OrdOn C lt) {a b c : α} (ha : C a) (hb : C b) (hc : C c) (h1 : ¬ lt a b = true) (h2 : ¬ lt b c = true) : ¬ lt a c = true := by
 intro g
 by_cases e : lt b a = true
 · exact h2 (h.trans b a c hb ha hc e g)
 · have := h.total a b ha hb (by simpa using h1) (by simpa using e); subst this; exact h2 g
def insO {α : Type} (lt : α → α → Bool) (L : List α) (p : α) : List α := L.takeWhile (fun x => lt x p) ++ p :: L.dropWhile (fun x => lt x p)
theorem zMb {α : Type} (lt : α → α → Bool) (L : List α) (p : α) : (insO lt L p).Perm (p :: L) := by
 unfold insO; refine List.perm_middle.trans ?_; rw [List.takeWhile_append_dropWhile]
theorem zPL {α : Type} (lt : α → α → Bool) (L : List α) (p : α) : (insO lt L p).length = L.length + 1 := by
 have := (zMb lt L p).length_eq; simpa using this
theorem zRa {α : Type} {C : α → Prop} {lt : α → α → Bool} (h : OrdOn C lt) {p : α} (hp : C p) : ∀ L : List α, (∀ x ∈ L, C x) → L.Pairwise (fun a b => ¬ lt b a = true) →
  (∀ x ∈ L.takeWhile (fun x => lt x p), lt x p = true) ∧ (∀ x ∈ L.dropWhile (fun x => lt x p), ¬ lt x p = true) := by
 intro L
 induction L with
 | nil => intro _ _; exact ⟨fun x hx => by simp at hx, fun x hx => by simp at hx⟩
 | cons a L ih =>
  intro hC hs; rw [List.pairwise_cons] at hs; obtain ⟨i1, i2⟩ := ih (fun x hx => hC x (by simp [hx])) hs.2; simp only [List.takeWhile_cons, List.dropWhile_cons]
  cases e : lt a p with
  | true =>
   simp only [if_true]; refine ⟨fun x hx => ?_, i2⟩
   rcases List.mem_cons.1 hx with rfl | hx
   · exact e
   · exact i1 x hx
  | false =>
   simp only [Bool.false_eq_true, if_false]; refine ⟨fun x hx => by simp at hx, fun x hx => ?_⟩
   rcases List.mem_cons.1 hx with rfl | hx
   · simp [e]
   · intro hxp; have hxC := hC x (by simp [hx]); have haC := hC a (by simp)
     by_cases exa : lt a x = true
     · have := h.trans a x p haC hxC hp exa hxp; rw [e] at this; simp at this
     · have := h.total a x haC hxC (by simpa using exa) (by simpa using hs.1 x hx); subst this; rw [e] at hxp; simp at hxp
theorem zN1 {α : Type} {C : α → Prop} {lt : α → α → Bool} (h : OrdOn C lt) {p : α} (hp : C p) {L : List α} (hC : ∀ x ∈ L, C x) (hs : L.Pairwise (fun a b => ¬ lt b a = true)) : (insO lt L p).Pairwise (fun a b => ¬ lt b a = true) := by
 obtain ⟨k1, k2⟩ := zRa h hp L hC hs; unfold insO; have hL : (L.takeWhile (fun x => lt x p) ++ L.dropWhile (fun x => lt x p)).Pairwise (fun a b => ¬ lt b a = true) := by rw [List.takeWhile_append_dropWhile]; exact hs
 rw [List.pairwise_append] at hL; rw [List.pairwise_append, List.pairwise_cons]; refine ⟨hL.1, ⟨fun x hx => k2 x hx, hL.2.1⟩, fun a ha b hb => ?_⟩; have hap := k1 a ha; have haC := hC a ((List.takeWhile_sublist _).subset ha)
 rcases List.mem_cons.1 hb with rfl | hb
 · intro hba; have := h.trans a b a haC hp haC hap hba; rw [h.irr a haC] at this; simp at this
 · exact hL.2.2 a ha b hb
theorem zUK {α : Type} {C : α → Prop} {lt : α → α → Bool} (h : OrdOn C lt) {p : α} (hp : C p) {L : List α} (hC : ∀ x ∈ L, C x) (hs : L.Pairwise (fun a b => ¬ lt b a = true)) : p ∈ L ↔ (L.dropWhile (fun x => lt x p)).head? = some p := by
 obtain ⟨k1, k2⟩ := zRa h hp L hC hs
 constructor
 · intro hm; rw [← List.takeWhile_append_dropWhile (p := fun x => lt x p) (l := L), List.mem_append] at hm
   rcases hm with hm | hm
   · have := k1 p hm; rw [h.irr p hp] at this; simp at this
   · cases hd : L.dropWhile (fun x => lt x p) with
     | nil => rw [hd] at hm; simp at hm
     | cons a r =>
      rw [hd] at hm k2
      rcases List.mem_cons.1 hm with rfl | hm
      · rfl
      · have hsd : (a :: r).Pairwise (fun a b => ¬ lt b a = true) := by
         rw [← hd]; exact hs.sublist (List.dropWhile_sublist _)
        rw [List.pairwise_cons] at hsd; have haC : C a := hC a ((List.dropWhile_sublist (fun x => lt x p)).subset (by rw [hd]; simp)); have := h.total a p haC hp (by simpa using k2 a (by simp)) (by simpa using hsd.1 p hm); rw [this]; rfl
 · intro hh
   cases hd : L.dropWhile (fun x => lt x p) with
   | nil => rw [hd] at hh; simp at hh
   | cons a r =>
    rw [hd] at hh; simp only [List.head?_cons, Option.some.injEq] at hh; subst hh; exact (List.dropWhile_sublist (fun x => lt x a)).subset (by rw [hd]; simp)
theorem zKo {α : Type} {C : α → Prop} {lt : α → α → Bool} (h : OrdOn C lt) {L M : List α} (hC : ∀ x ∈ L, C x) (hp : L.Perm M) (h1 : L.Pairwise (fun a b => ¬ lt b a = true)) (h2 : M.Pairwise (fun a b => ¬ lt b a = true)) : L = M :=
 List.Perm.eq_of_pairwise (le := fun a b => ¬ lt b a = true) (fun a b ha hb x y => h.total a b (hC a ha) (hC b (hp.mem_iff.2 hb)) (by simpa using y) (by simpa using x)) h1 h2 hp
def befS : List (List Int) → List (List Int) → Bool
 | a :: p, b :: q => if a = b then befS p q else bef a b
 | _, _ => false
def cmpS : List (List Int) → List (List Int) → Int
 | a :: p, b :: q => if cmpL a b = 0 then cmpS p q else cmpL a b
 | _, _ => 0
theorem zI4 : ∀ {p q : List Int}, p.length = q.length → (cmpL p q = 0 ↔ p = q)
 | [], [], _ => by simp [cmpL]
 | a :: p, b :: q, l => by
  simp only [List.length_cons] at l; simp only [cmpL]
  by_cases h1 : a < b
  · rw [if_pos h1]
    constructor
    · intro h; simp at h
    · intro h; simp only [List.cons.injEq] at h; omega
  · rw [if_neg h1]
    by_cases h2 : b < a
    · rw [if_pos h2]
      constructor
      · intro h; simp at h
      · intro h; simp only [List.cons.injEq] at h; omega
    · rw [if_neg h2, zI4 (by omega)]; have : a = b := by omega
      simp [this]
 | [], _ :: _, l => by simp at l
 | _ :: _, [], l => by simp at l
theorem zMq : ∀ {p q : List (List Int)}, Len8 p → Len8 q → ((cmpS p q < 0) = (befS p q = true))
 | [], [], _, _ => by simp [cmpS, befS]
 | [], _ :: _, _, _ => by simp [cmpS, befS]
 | _ :: _, [], _, _ => by simp [cmpS, befS]
 | a :: p, b :: q, h1, h2 => by
  have ha := h1 a (by simp); have hb := h2 b (by simp); simp only [cmpS, befS]
  by_cases e : a = b
  · rw [if_pos e, if_pos ((zI4 (by omega)).2 e)]; exact zMq (fun x hx => h1 x (by simp [hx])) (fun x hx => h2 x (by simp [hx]))
  · rw [if_neg e, if_neg (fun h => e ((zI4 (by omega)).1 h))]; exact zPa a b
theorem zLm : ∀ p : List (List Int), befS p p = false
 | [] => rfl
 | a :: p => by simp only [befS, if_true]; exact zLm p
theorem zKg : ∀ {p q r : List (List Int)}, Len8 p → Len8 q → Len8 r → befS p q = true → befS q r = true → befS p r = true
 | [], _, _, _, _, _, h, _ => by simp [befS] at h
 | a :: p, [], _, _, _, _, h, _ => by simp [befS] at h
 | a :: p, b :: q, [], _, _, _, _, h => by simp [befS] at h
 | a :: p, b :: q, c :: r, l1, l2, l3, h1, h2 => by
  simp only [befS] at h1 h2 ⊢; have la := l1 a (by simp); have lb := l2 b (by simp); have lc := l3 c (by simp)
  by_cases e1 : a = b
  · subst e1; rw [if_pos rfl] at h1
    by_cases e2 : a = c
    · subst e2; rw [if_pos rfl] at h2; rw [if_pos rfl]; exact zKg (fun x hx => l1 x (by simp [hx])) (fun x hx => l2 x (by simp [hx])) (fun x hx => l3 x (by simp [hx])) h1 h2
    · rw [if_neg e2] at h2 ⊢; exact h2
  · rw [if_neg e1] at h1
    by_cases e2 : b = c
    · subst e2; rw [if_neg e1]; exact h1
    · rw [if_neg e2] at h2; have h3 := zNC (p := a) (q := b) (r := c) (by omega) (by omega) h1 h2; rw [if_neg (fun e => by subst e; rw [zR8] at h3; simp at h3)]; exact h3
theorem zKh : ∀ {p q : List (List Int)}, p.length = q.length → Len8 p → Len8 q → befS p q = false → befS q p = false → p = q
 | [], [], _, _, _, _, _ => rfl
 | a :: p, b :: q, l, l1, l2, h1, h2 => by
  simp only [befS] at h1 h2; simp only [List.length_cons] at l; have la := l1 a (by simp); have lb := l2 b (by simp)
  by_cases e : a = b
  · subst e; rw [if_pos rfl] at h1 h2; rw [zKh (by omega) (fun x hx => l1 x (by simp [hx])) (fun x hx => l2 x (by simp [hx])) h1 h2]
  · rw [if_neg e] at h1; rw [if_neg (Ne.symm e)] at h2; exact absurd (zND (p := a) (q := b) (by omega) h1 h2) e
 | [], _ :: _, l, _, _, _, _ => by simp at l
 | _ :: _, [], l, _, _, _, _ => by simp at l
def Cls (n p : Int) (k : Nat) (v : VN) : Prop := v.1 = n ∧ v.2.1 = p ∧ v.2.2.length = k ∧ Len8 v.2.2
def befV (v w : VN) : Bool := befS v.2.2 w.2.2
theorem ordV (n p : Int) (k : Nat) : OrdOn (Cls n p k) befV := by
 refine ⟨fun a _ => zLm _, fun a b c ha hb hc h1 h2 => zKg ha.2.2.2 hb.2.2.2 hc.2.2.2 h1 h2, fun a b ha hb h1 h2 => ?_⟩; have := zKh (by rw [ha.2.2.1, hb.2.2.1]) ha.2.2.2 hb.2.2.2 h1 h2; obtain ⟨a1, a2, a3⟩ := a; obtain ⟨b1, b2, b3⟩ := b; obtain ⟨rfl, rfl, _⟩ := ha; obtain ⟨rfl, rfl, _⟩ := hb; simp only at this; rw [this]
theorem zPO {L : List (List Int)} {i : Nat} {d : List Int} (hi : i < L.length) : List.getD L i d = L[i] := by
 simp [List.getD_eq_getElem?_getD, List.getElem?_eq_getElem hi]
theorem zLS (x0 x1 x3 x4 : Int) (A B : List (List Int)) (hA : Len8 A) (hB : Len8 B) (i : Nat) (hi : i < A.length) (hi' : i < B.length) (hl : A.length < 1000000000) : ∀ j : Nat, j ≤ 8 →
  R zA7 [tI x0, tI x1, tLA8 A, tI x3, tI x4, tLA8 B, tI (i : Int), tI (j : Int)] = some (if A[i].drop j = B[i].drop j then [tI 0, tI x0, tI x1, tLA8 A, tI x3, tI x4, tLA8 B, tI (i : Int)] else [tI 1, tB (bef (A[i].drop j) (B[i].drop j))]) := by
 have a8 := hA _ (List.getElem_mem hi); have b8 := hB _ (List.getElem_mem hi')
 refine zm _ ?_ (fun j hj ih => ?_)
 · apply zFB; rw [if_pos (by rw [List.drop_of_length_le (by omega), List.drop_of_length_le (by omega)])]; simp [zBK]
 · apply zFB; rw [zEz a8 hj, zEz b8 hj]; simp (disch := omega) only [zBK, decide_eq_true, cond_true, Bool.and_true, Int.toNat_natCast, zPO hi, zPO hi', kQ, zF]
   by_cases e : List.getD A[i] j 0 = List.getD B[i] j 0
   · simp only [e, decide_true, Bool.not_true, cond_false]; rw [show (j : Int) + 1 = ((j + 1 : Nat) : Int) by omega, ih]; simp only [List.cons.injEq, true_and, bef, if_true]
   · simp only [e, decide_false, Bool.not_false, cond_true, List.cons.injEq, false_and, if_false, bef]
theorem zLT (x0 x1 x3 x4 : Int) (A B : List (List Int)) (hA : Len8 A) (hB : Len8 B) (he : B.length = A.length) (hl : A.length < 1000000000) : ∀ i : Nat, i ≤ A.length →
  R zA8 [tI x0, tI x1, tLA8 A, tI x3, tI x4, tLA8 B, tI (i : Int)] = some (if A.drop i = B.drop i then [tI 0] else [tI 1, tB (befS (A.drop i) (B.drop i))]) := by
 refine zm _ ?_ (fun i hi ih => ?_)
 · apply zFC; rw [if_pos (by rw [List.drop_of_length_le (by omega), List.drop_of_length_le (by omega)])]; simp [zBL]
 · apply zFC; have hi' : i < B.length := by omega
   have h5 := zLS x0 x1 x3 x4 A B hA hB i hi hi' hl 0 (by omega); simp only [Int.natCast_zero, List.drop_zero] at h5; rw [List.drop_eq_getElem_cons hi, List.drop_eq_getElem_cons hi']; simp (disch := omega) only [zBL, decide_eq_true, cond_true, h5, Option.bind_some]
   by_cases e : A[i] = B[i]
   · simp only [e, if_true, getTV_here, getTV_next, beq_self_eq_true, cond_true, List.cons.injEq, true_and, befS]; rw [zF (by omega) (by omega), show (i : Int) + 1 = ((i + 1 : Nat) : Int) by omega]; exact ih
   · simp only [e, if_false, getTV_here, getTV_next, List.cons.injEq, false_and, befS]
     rfl
theorem zOP (v w : VN) {n p : Int} {k : Nat} (hv : Cls n p k v) (hw : Cls n p k w) (hk : k < 1000000000) : R zES [zA v, zA w] = some [tB (befV v w)] := by
 apply zLz; have h := zLT v.1 v.2.1 w.1 w.2.1 v.2.2 w.2.2 hv.2.2.2 hw.2.2.2 (by rw [hv.2.2.1, hw.2.2.1]) (by rw [hv.2.2.1]; exact hk) 0 (Nat.zero_le _); simp only [Int.natCast_zero, List.drop_zero] at h; simp only [zEk, h, Option.bind_some, befV]
 by_cases e : v.2.2 = w.2.2
 · simp [e, zLm]
 · simp [e]
theorem zJs {L : List VN} {i : Nat} (hi : i < L.length) : List.getD L i ((0, (0, [])) : VN) = L[i] := by
 simp [List.getD_eq_getElem?_getD, List.getElem?_eq_getElem hi]
theorem zLR (v : VN) {n p : Int} {k : Nat} (hv : Cls n p k v) (hk : k < 1000000000) (L : List VN) (hL : ∀ x ∈ L, Cls n p k x) (hl : L.length < 10000000) : ∀ i : Nat, i ≤ L.length →
  R zA6 [zB L, tI v.1, tI v.2.1, tLA8 v.2.2, tI (i : Int)] = some [tI 0, zB L, tI v.1, tI v.2.1, tLA8 v.2.2, tI ((i + ((L.drop i).takeWhile fun x => befV x v).length : Nat) : Int)] := by
 refine zm _ ?_ (fun i hi ih => ?_)
 · apply zFA; simp [zBJ]
 · apply zFA; rw [List.drop_eq_getElem_cons hi, List.takeWhile_cons]; have hb := zOP L[i] v (hL _ (List.getElem_mem hi)) hv hk; simp (disch := omega) only [zBJ, decide_eq_true, cond_true, Bool.and_true, Int.toNat_natCast, zJs hi]; have e : (L[i].1, L[i].2.1, L[i].2.2) = L[i] := rfl; have e' : (v.1, v.2.1, v.2.2) = v := rfl; simp only [e, e', hb, Option.bind_some, getTV_here]
   cases ec : befV L[i] v with
   | true =>
    simp only [cond_true, if_true]; rw [zF (by omega) (by omega), show (i : Int) + 1 = ((i + 1 : Nat) : Int) by omega, ih]; simp only [List.length_cons]; rw [show i + 1 + ((L.drop (i + 1)).takeWhile fun x => befV x v).length = i + (((L.drop (i + 1)).takeWhile fun x => befV x v).length + 1) by omega]
   | false => simp
open Classical in
theorem zOO (v : VN) {n p : Int} {k : Nat} (hv : Cls n p k v) (hk : k < 1000000000) (L : List VN) (hL : ∀ x ∈ L, Cls n p k x) (hl : L.length < 10000000) (hs : L.Pairwise (fun a b => ¬ befV b a = true)) :
  R zCi [zB L, zA v] = some (if v ∈ L then [zB L, tB false] else [zB (insO befV L v), tB true]) := by
 apply zLy; have h2 := zLR v hv hk L hL hl 0 (Nat.zero_le _); simp only [Int.natCast_zero, List.drop_zero, Nat.zero_add] at h2; have tl := zVS (fun x => befV x v) L; obtain ⟨t1, t2⟩ := zNf (fun x => befV x v) L; have hm := zUK (ordV n p k) hv hL hs; have hlen := zPL befV L v; unfold insO at hlen; simp only [List.length_append, List.length_cons] at hlen; have e' : (v.1, v.2.1, v.2.2) = v := rfl; have a1 : apOk [v] (L.dropWhile fun x => befV x v) = true := zNG (by simp only [List.length_cons, List.length_nil]; omega); have a2 : apOk [] (L.takeWhile fun x => befV x v) = true := zQm (by omega); have a3 : apOk (L.takeWhile fun x => befV x v) ([v] ++ L.dropWhile fun x => befV x v) = true := zNG (by simp only [List.length_cons, List.length_nil, List.length_append]; omega); simp only [zEj, h2, Option.bind_some, getTV_here, getTV_next, e']
 by_cases hlt : (L.takeWhile fun x => befV x v).length < L.length
 · have hg : L[(L.takeWhile fun x => befV x v).length]? = (L.dropWhile fun x => befV x v).head? := by
    rw [← t2, List.head?_drop]
   have hlk := zJG L[(L.takeWhile fun x => befV x v).length] v (by rw [(hL _ (List.getElem_mem hlt)).2.2.1]; exact hk); rw [List.getElem?_eq_getElem hlt] at hg; have eL : ∀ x : VN, (x.1, x.2.1, x.2.2) = x := fun x => rfl; simp (disch := omega) only [decide_eq_true, cond_true, Bool.and_true, Int.toNat_natCast, zJs hlt, eL, hlk, Option.bind_some, getTV_here, t1, t2, a1, a2, a3]
   by_cases e : L[(L.takeWhile fun x => befV x v).length] = v
   · rw [if_pos (hm.2 (by rw [← hg, e]))]; simp only [e, decide_true, cond_true]
   · rw [if_neg (fun h => e (by rw [hm.1 h] at hg; exact Option.some.inj hg))]; simp only [e, decide_false, cond_false, insO]
     rfl
 · have hd : (L.dropWhile fun x => befV x v) = [] := by rw [← t2]; exact List.drop_of_length_le (by omega)
   rw [hd] at hm; rw [if_neg (fun h => by have := hm.1 h; simp at this)]; have hn : ¬ (((L.takeWhile fun x => befV x v).length : Int) < (L.length : Int)) := by omega
   simp (disch := omega) only [decide_eq_false hn, decide_eq_true, cond_false, cond_true, Bool.and_true, Int.toNat_natCast, t1, t2, a1, a2, a3]; simp only [insO]
   rfl
theorem zLh (v : VN) (L : List VN) (hL : ∀ x ∈ L, x.2.2.length < 1000000000) (hl : L.length < 10000000) : ∀ i : Nat, i ≤ L.length →
  (v ∈ L.drop i → ∃ j : Nat, R zM [zB L, tI v.1, tI v.2.1, tLA8 v.2.2, tI (L.length : Int), tI (i : Int)] = some [tI 1, tI (j : Int)]) ∧
  (v ∉ L.drop i → R zM [zB L, tI v.1, tI v.2.1, tLA8 v.2.2, tI (L.length : Int), tI (i : Int)] = some [tI 0]) := by
 have e' : (v.1, v.2.1, v.2.2) = v := rfl; have eL : ∀ x : VN, (x.1, x.2.1, x.2.2) = x := fun x => rfl
 refine zm _ ?_ (fun i hi ih => ?_)
 · rw [List.drop_length]; refine ⟨fun h => by simp at h, fun _ => ?_⟩; apply zt; simp [zR]
 · rw [List.drop_eq_getElem_cons hi]; have w : wi64 ((i : Int) + 1) = ((i + 1 : Nat) : Int) := by rw [zF] <;> omega
   have hk : R zBf [zA L[i], zA v] = some [tB (decide (L[i] = v))] := by
    apply zH5; simp only [zBj, eL, zEa L[i] v (hL _ (List.getElem_mem hi)), Option.bind_some, getTV_here]
   by_cases e : L[i] = v
   · refine ⟨fun _ => ⟨i, ?_⟩, fun h => (h (by rw [e]; exact List.mem_cons_self)).elim⟩; apply zt; simp (disch := omega) only [zR, decide_eq_true, cond_true, Bool.and_true, Int.toNat_natCast, zJs hi, eL, e', hk, Option.bind_some, getTV_here, decide_eq_true e]
   · have st : ∀ o, R zM [zB L, tI v.1, tI v.2.1, tLA8 v.2.2, tI (L.length : Int), tI ((i + 1 : Nat) : Int)] = some o → R zM [zB L, tI v.1, tI v.2.1, tLA8 v.2.2, tI (L.length : Int), tI (i : Int)] = some o := by
      intro o ho; apply zt; simp (disch := omega) only [zR, decide_eq_true, cond_true, cond_false, Bool.and_true, Int.toNat_natCast, zJs hi, eL, e', hk, Option.bind_some, getTV_here, decide_eq_false e, w, ho]
     refine ⟨fun h => ?_, fun h => ?_⟩
     · obtain ⟨j, hj⟩ := ih.1 ((List.mem_cons.1 h).resolve_left (fun g => e g.symm)); exact ⟨j, st _ hj⟩
     · exact st _ (ih.2 fun h' => h (List.mem_cons_of_mem _ h'))
open Classical in
theorem zFV (v : VN) (L : List VN) (hL : ∀ x ∈ L, x.2.2.length < 1000000000) (hl : L.length < 10000000) : R zn [zB L, zA v] = some [tB (decide (v ∈ L))] := by
 have e' : (v.1, v.2.1, v.2.2) = v := rfl; apply jh; have h := zLh v L hL hl 0 (Nat.zero_le _); rw [List.drop_zero] at h; simp only [Int.natCast_zero] at h
 by_cases e : v ∈ L
 · obtain ⟨j, hj⟩ := h.1 e; have hI : R zd [zB L, zA v] = some [tI (j : Int)] := by
    apply kX; simp [ze, hj]
   simp [zZ, e', hI, e]
 · have hI : R zd [zB L, zA v] = some [tI (-1)] := by
    apply kX; simp [ze, h.2 e]
   simp [zZ, e', hI, e]
theorem zJL (a b : List Int) (ha : a.length = 8) (hb : b.length = 8) : R zBg [tA8 a, tA8 b] = some [tI (cmpL a b)] := by
 apply zH6; simp only [zBk, zOf a b ha hb, Option.bind_some, getTV_here]
theorem zJO (A B : List (List Int)) (hA : Len8 A) (hB : Len8 B) (he : B.length = A.length) (hl : A.length < 1000000000) : ∀ i : Nat, i ≤ A.length → R zJ [tLA8 A, tLA8 B, tI (A.length : Int), tI (i : Int)] =
  some (if cmpS (A.drop i) (B.drop i) = 0 then [tI 0, tLA8 A, tLA8 B] else [tI 1, tI (cmpS (A.drop i) (B.drop i))]) := by
 refine zm _ ?_ (fun i hi ih => ?_)
 · apply za; rw [List.drop_of_length_le (by omega), List.drop_of_length_le (by omega)]; simp [zK, cmpS]
 · apply za; have hi' : i < B.length := by omega
   rw [List.drop_eq_getElem_cons hi, List.drop_eq_getElem_cons hi']; have h1 : ¬ ((B.length : Int) ≤ (i : Int)) := by omega
   simp (disch := omega) only [zK, decide_eq_true, decide_eq_false h1, cond_true, cond_false, Bool.and_true, Int.toNat_natCast, zPO hi, zPO hi', zJL _ _ (hA _ (List.getElem_mem hi)) (hB _ (List.getElem_mem hi')), Option.bind_some, getTV_here, kQ, zF, cmpS]
   by_cases e1 : cmpL A[i] B[i] = 0
   · simp only [e1, decide_true, Bool.not_true, cond_false, if_true]; rw [show (i : Int) + 1 = ((i + 1 : Nat) : Int) by omega, ih]
   · simp only [e1, decide_false, Bool.not_false, cond_true, if_false]
theorem zIC (v w : VN) {n p : Int} {k : Nat} (hv : Cls n p k v) (hw : Cls n p k w) (hk : k < 1000000000) : R zAr [zA v, zA w] = some [tI (cmpS v.2.2 w.2.2)] := by
 apply zG4; have h := zJO v.2.2 w.2.2 hv.2.2.2 hw.2.2.2 (by rw [hv.2.2.1, hw.2.2.1]) (by rw [hv.2.2.1]; exact hk) 0 (Nat.zero_le _); simp only [Int.natCast_zero, List.drop_zero] at h; have h2 : R zP [tLA8 v.2.2, tLA8 w.2.2] = some [tI (cmpS v.2.2 w.2.2)] := by
  apply kH; simp only [zQ, h, Option.bind_some]; have hl : w.2.2.length = v.2.2.length := by rw [hv.2.2.1, hw.2.2.1]
  by_cases e : cmpS v.2.2 w.2.2 = 0
  · simp [e, hl]
  · simp [e]
 simp only [zAv, h2, Option.bind_some, getTV_here]
theorem zGr {n p : Int} {k : Nat} (hk : k < 1000000000) (xs : List VN) (hC : ∀ x ∈ xs, Cls n p k x) (hl : xs.length < 10000000) : ∃ ys, R zy [zB xs] = some [zB ys] ∧ ys.Perm xs ∧ ys.Pairwise (fun a b => ¬ befV b a = true) := by
 have cb : ∀ a ∈ xs, ∀ b ∈ xs, (cmpS a.2.2 b.2.2 < 0) = (befV a b = true) := fun a ha b hb => zMq (hC a ha).2.2.2 (hC b hb).2.2.2
 obtain ⟨ys, h1, h2, h3⟩ := zSS (call := R) (cmp := zAr) (t := .pair (.int .i64) (.pair (.int .i64) (.slice (.arr .u8 8)))) (fun a b : VN => cmpS a.2.2 b.2.2) xs (by omega) (fun a ha b hb => zIC a b (hC a ha) (hC b hb) hk)
  (fun a ha => by rw [cb a ha a ha, (ordV n p k).irr a (hC a ha)]; simp) (fun a ha b hb c hc x y => by
   rw [cb a ha b hb] at x; rw [cb b hb c hc] at y; rw [cb a ha c hc]; exact (ordV n p k).trans a b c (hC a ha) (hC b hb) (hC c hc) x y) (fun a ha b hb c hc x y => by
   rw [cb a ha b hb] at x; rw [cb b hb c hc] at y; rw [cb a ha c hc]; exact (ordV n p k).ntrans (hC a ha) (hC b hb) (hC c hc) x y)
 refine ⟨ys, ?_, h2, ?_⟩
 · apply zAk; exact h1
 · refine h3.imp_of_mem fun {a b} ha hb h => ?_; rw [cb b (h2.mem_iff.1 hb) a (h2.mem_iff.1 ha)] at h; exact h
end Go.Ev.YtmdkgikjnaijeaaGreat
namespace Go.Ev.YtmdkgikjnaijeaaGreat
open Go.Ev Go.Gar
theorem zBh {n : Nat} (hn : n ≤ 8) {v w : Nm n} (h : enc v = enc w) : v = w := by
 obtain ⟨v1, v2⟩ := v; obtain ⟨w1, w2⟩ := w; simp only [enc, Prod.mk.injEq, true_and] at h; obtain ⟨rfl, h2⟩ := h; rw [zTJ hn h2]
theorem zLG {n : Nat} (hn : n ≤ 8) {L : List (Nm n)} {v : Nm n} : enc v ∈ L.map enc ↔ v ∈ L := by
 constructor
 · intro h; obtain ⟨w, hw, e⟩ := List.mem_map.1 h; rw [← zBh hn e]; exact hw
 · exact fun h => List.mem_map_of_mem h
theorem zRq {n : Nat} (h2 : 2 ≤ n) {v : Nm n} (hP : (Pm.lat n).Proper v.2) : conj1 v 1 = v := by
 have e1 : Pm.half n * (1 : Pm n)⁻¹ = Pm.half n := by
  apply Pm.ext; intro x
  rfl
 have e2 : t1 v.1 (Pm.half n) = Pm.half n := by
  unfold t1
  split
  · rfl
  · apply Pm.ext; intro x; show Pm.hf n (Pm.hf n (Pm.hf n x)) = Pm.hf n x; rw [Pm.hf_hf]
 have e3 : less1 v 1 = v := by
  unfold less1; rw [e1, e2]; have := zMW h2 (v.1 - 1) [Pm.half n] v.2; rw [List.singleton_append] at this; rw [this, mk_D h2]; simp only [List.nil_append]; rw [kO h2 _ hP]; show (v.1 - 1 + 1, v.2) = v; rw [Int.sub_add_cancel]
 unfold conj1; rw [e3, zRW h2 v.1 hP]
structure SS {n : Nat} (first x : Nm n) : Prop where
 P : (Pm.lat n).Proper x.2
 pow : x.1 = first.1
 len : x.2.length = first.2.length
theorem SS.ok {n : Nat} (h2 : 2 ≤ n) {first x : Nm n} (h : SS first x) {b : Nat} (hf : OkN first b) : OkN x b := by
 have a1 := hf.len; have a2 := hf.lo; have a3 := hf.hi; have b1 := h.pow; have b2 := h.len; exact ⟨h.P, by omega, by omega, by omega, fun e => by omega⟩
theorem SS.cls {n : Nat} {first x : Nm n} (h : SS first x) : Cls (n : Int) first.1 first.2.length (enc x) :=
 ⟨rfl, h.pow, by simp only [enc, zT]; exact h.len, sL_8 _⟩
theorem SS.conj {n : Nat} (h2 : 2 ≤ n) {first x : Nm n} (h : SS first x) {b : Nat} (hf : OkN first b) {s : Pm n} (e1 : (conj1 x s).1 = first.1) (e2 : (conj1 x s).2.length = first.2.length) : SS first (conj1 x s) :=
 ⟨(zPX h2 (h.ok h2 hf) s).P, e1, e2⟩
open Classical in
noncomputable def addG {n : Nat} (first x : Nm n) : List (Pm n) → List (Nm n) → Option (List (Nm n))
 | [], L => some L
 | s :: r, L => if (conj1 x s).1 = first.1 ∧ (conj1 x s).2.length = first.2.length ∧ conj1 x s ∉ L then (if L.length = 120 then none else addG first x r (L ++ [conj1 x s])) else addG first x r L
noncomputable def bfsG {n : Nat} (first : Nm n) (S : List (Pm n)) : Nat → Nat → List (Nm n) → Option (List (Nm n))
 | 0, _, L => some L
 | f + 1, a, L => match L[a]? with
  | none => some L
  | some x => (addG first x S L).bind fun L' => bfsG first S f (a + 1) L'
inductive Reach {n : Nat} (first : Nm n) : Nm n → Prop
 | base : Reach first first
 | step {x : Nm n} {s : Pm n} : Reach first x → (conj1 x s).1 = first.1 → (conj1 x s).2.length = first.2.length → Reach first (conj1 x s)
structure Good {n : Nat} (first : Nm n) (L : List (Nm n)) : Prop where
 nod : L.Nodup
 reach : ∀ y ∈ L, Reach first y
 ss : ∀ y ∈ L, SS first y
 len : L.length ≤ 120
 head : L[0]? = some first
theorem Good.add {n : Nat} (h2 : 2 ≤ n) {first x : Nm n} {b : Nat} (hf : OkN first b) {L : List (Nm n)} (h : Good first L) (hx : x ∈ L) {s : Pm n} (e1 : (conj1 x s).1 = first.1) (e2 : (conj1 x s).2.length = first.2.length) (e3 : conj1 x s ∉ L) (hl : L.length ≠ 120) : Good first (L ++ [conj1 x s]) := by
 refine ⟨?_, fun y hy => ?_, fun y hy => ?_, ?_, ?_⟩
 · rw [List.nodup_append]; refine ⟨h.nod, by simp, fun a ha b hb => ?_⟩; simp only [List.mem_singleton] at hb; subst hb; exact fun e => e3 (e ▸ ha)
 · rcases List.mem_append.1 hy with hy | hy
   · exact h.reach y hy
   · simp only [List.mem_singleton] at hy; subst hy; exact .step (h.reach x hx) e1 e2
 · rcases List.mem_append.1 hy with hy | hy
   · exact h.ss y hy
   · simp only [List.mem_singleton] at hy; subst hy; exact (h.ss x hx).conj h2 hf e1 e2
 · have := h.len; simp only [List.length_append, List.length_cons, List.length_nil]; omega
 · rw [List.getElem?_append_left]
   · exact h.head
   · have := List.getElem?_eq_some_iff.1 h.head; exact this.1
theorem zDa {n : Nat} (h2 : 2 ≤ n) {first x : Nm n} {b : Nat} (hf : OkN first b) : ∀ (r : List (Pm n)) (L L' : List (Nm n)), Good first L → x ∈ L → addG first x r L = some L' →
  Good first L' ∧ (∃ T, L' = L ++ T) ∧ ∀ s ∈ r, (conj1 x s).1 = first.1 → (conj1 x s).2.length = first.2.length → conj1 x s ∈ L'
 | [], L, L', hL, hx, h => by
  simp only [addG, Option.some.injEq] at h; subst h; exact ⟨hL, ⟨[], by simp⟩, fun s hs => by simp at hs⟩
 | s :: r, L, L', hL, hx, h => by
  rw [addG] at h
  split at h
  · rename_i hc; obtain ⟨c1, c2, c3⟩ := hc
    split at h
    · simp at h
    · rename_i hl; obtain ⟨g1, ⟨T, g2⟩, g3⟩ := zDa h2 hf r _ L' (hL.add h2 hf hx c1 c2 c3 hl) (List.mem_append_left _ hx) h; refine ⟨g1, ⟨[conj1 x s] ++ T, by rw [g2, List.append_assoc]⟩, fun s' hs' e1 e2 => ?_⟩
      rcases List.mem_cons.1 hs' with rfl | hs'
      · rw [g2]; simp
      · exact g3 s' hs' e1 e2
  · rename_i hc; obtain ⟨g1, ⟨T, g2⟩, g3⟩ := zDa h2 hf r L L' hL hx h; refine ⟨g1, ⟨T, g2⟩, fun s' hs' e1 e2 => ?_⟩
    rcases List.mem_cons.1 hs' with rfl | hs'
    · have : conj1 x s' ∈ L := Classical.byContradiction fun hn => hc ⟨e1, e2, hn⟩; rw [g2]; exact List.mem_append_left _ this
    · exact g3 s' hs' e1 e2
def Many {n : Nat} (first : Nm n) : Prop := ∃ M : List (Nm n), M.Nodup ∧ M.length = 121 ∧ ∀ y ∈ M, Reach first y
theorem zJZ {n : Nat} (h2 : 2 ≤ n) {first x : Nm n} {b : Nat} (hf : OkN first b) : ∀ (r : List (Pm n)) (L : List (Nm n)), Good first L → x ∈ L → addG first x r L = none → Many first
 | [], L, hL, hx, h => by simp [addG] at h
 | s :: r, L, hL, hx, h => by
  rw [addG] at h
  split at h
  · rename_i hc; obtain ⟨c1, c2, c3⟩ := hc
    split at h
    · rename_i hl
      refine ⟨L ++ [conj1 x s], ?_, by simp [hl], fun y hy => ?_⟩
      · rw [List.nodup_append]; refine ⟨hL.nod, by simp, fun a ha b hb => ?_⟩; simp only [List.mem_singleton] at hb; subst hb; exact fun e => c3 (e ▸ ha)
      · rcases List.mem_append.1 hy with hy | hy
        · exact hL.reach y hy
        · simp only [List.mem_singleton] at hy; subst hy; exact .step (hL.reach x hx) c1 c2
    · rename_i hl; exact zJZ h2 hf r _ (hL.add h2 hf hx c1 c2 c3 hl) (List.mem_append_left _ hx) h
  · exact zJZ h2 hf r L hL hx h
def Closed {n : Nat} (first : Nm n) (a : Nat) (L : List (Nm n)) : Prop := ∀ i x, i < a → L[i]? = some x → ∀ s : Pm n, (conj1 x s).1 = first.1 → (conj1 x s).2.length = first.2.length → conj1 x s ∈ L
theorem zG0 {n : Nat} (h2 : 2 ≤ n) {first : Nm n} {b : Nat} (hf : OkN first b) {S : List (Pm n)} (hS : ∀ s : Pm n, s ≠ 1 → s ∈ S) : ∀ (f a : Nat) (L L' : List (Nm n)), Good first L → Closed first a L → 121 ≤ f + a → a ≤ L.length → bfsG first S f a L = some L' →
  Good first L' ∧ ∀ y, Reach first y → y ∈ L'
 | 0, a, L, L', hL, hC, hfa, ha, h => by
  have := hL.len; omega
 | f + 1, a, L, L', hL, hC, hfa, ha, h => by
  rw [bfsG] at h
  cases hx : L[a]? with
  | none =>
   rw [hx] at h; simp only [Option.some.injEq] at h; subst h; refine ⟨hL, fun y hy => ?_⟩; have hal : L.length ≤ a := by simpa using hx
   induction hy with
   | base => exact List.mem_of_getElem? hL.head
   | step hr e1 e2 ih =>
    obtain ⟨i, hi⟩ := List.mem_iff_getElem?.1 ih; have := (List.getElem?_eq_some_iff.1 hi).1; exact hC i _ (by omega) hi _ e1 e2
  | some x =>
   rw [hx] at h; simp only at h
   cases hg : addG first x S L with
   | none => rw [hg] at h; simp at h
   | some L1 =>
    rw [hg] at h; simp only [Option.bind_some] at h; have hxm : x ∈ L := List.mem_of_getElem? hx; have hal := (List.getElem?_eq_some_iff.1 hx).1; obtain ⟨g1, ⟨T, g2⟩, g3⟩ := zDa h2 hf S L L1 hL hxm hg; refine zG0 h2 hf hS f (a + 1) L1 L' g1 (fun i z hi hz s e1 e2 => ?_) (by omega) (by rw [g2]; simp; omega) h
    by_cases hia : i < a
    · rw [g2, List.getElem?_append_left (by omega)] at hz; rw [g2]; exact List.mem_append_left _ (hC i z hia hz s e1 e2)
    · have e : i = a := by omega
      subst e; rw [g2, List.getElem?_append_left (by omega), hx] at hz; simp only [Option.some.injEq] at hz; subst hz
      by_cases hs : s = 1
      · subst hs; rw [zRq h2 (hL.ss x hxm).P, g2]; exact List.mem_append_left _ hxm
      · exact g3 s (hS s hs) e1 e2
theorem zJX {n : Nat} (h2 : 2 ≤ n) {first : Nm n} {b : Nat} (hf : OkN first b) {S : List (Pm n)} : ∀ (f a : Nat) (L : List (Nm n)), Good first L → bfsG first S f a L = none → Many first
 | 0, a, L, hL, h => by simp [bfsG] at h
 | f + 1, a, L, hL, h => by
  rw [bfsG] at h
  cases hx : L[a]? with
  | none => rw [hx] at h; simp at h
  | some x =>
   rw [hx] at h; simp only at h; have hxm : x ∈ L := List.mem_of_getElem? hx
   cases hg : addG first x S L with
   | none => exact zJZ h2 hf S L hL hxm hg
   | some L1 =>
    rw [hg] at h; simp only [Option.bind_some] at h; exact zJX h2 hf f (a + 1) L1 (zDa h2 hf S L L1 hL hxm hg).1 h
theorem zAs {n : Nat} {first : Nm n} {b : Nat} (hf : OkN first b) : Good first [first] :=
 ⟨by simp, fun y hy => by simp at hy; subst hy; exact .base, fun y hy => by simp at hy; subst hy; exact ⟨hf.P, rfl, rfl⟩, by simp, rfl⟩
theorem zR6 {n : Nat} (h2 : 2 ≤ n) {first : Nm n} {b : Nat} (hf : OkN first b) {S S' : List (Pm n)} (hS : ∀ s : Pm n, s ≠ 1 → s ∈ S) (hS' : ∀ s : Pm n, s ≠ 1 → s ∈ S') :
  (bfsG first S 121 0 [first] = none ∧ bfsG first S' 121 0 [first] = none) ∨ ∃ A B, bfsG first S 121 0 [first] = some A ∧ bfsG first S' 121 0 [first] = some B ∧ Good first A ∧ Good first B ∧ A.Perm B ∧ ∀ y, Reach first y ↔ y ∈ A := by
 have hC : Closed first 0 [first] := fun i x hi => by omega
 have notboth : ∀ {T : List (Pm n)} {A}, (∀ s : Pm n, s ≠ 1 → s ∈ T) → bfsG first T 121 0 [first] = some A → ¬ Many first := by
  rintro T A hT hA ⟨M, m1, m2, m3⟩; obtain ⟨g1, g2⟩ := zG0 h2 hf hT 121 0 _ A (zAs hf) hC (by omega) (by simp) hA; have := m1.length_le_of_subset (fun y hy => g2 y (m3 y hy)); have := g1.len; omega
 cases hA : bfsG first S 121 0 [first] with
 | none =>
  left; refine ⟨rfl, ?_⟩
  cases hB : bfsG first S' 121 0 [first] with
  | none => rfl
  | some B => exact absurd (zJX h2 hf 121 0 _ (zAs hf) hA) (notboth hS' hB)
 | some A =>
  cases hB : bfsG first S' 121 0 [first] with
  | none => exact absurd (zJX h2 hf 121 0 _ (zAs hf) hB) (notboth hS hA)
  | some B =>
   right; obtain ⟨g1, g2⟩ := zG0 h2 hf hS 121 0 _ A (zAs hf) hC (by omega) (by simp) hA; obtain ⟨g3, g4⟩ := zG0 h2 hf hS' 121 0 _ B (zAs hf) hC (by omega) (by simp) hB; exact ⟨A, B, rfl, rfl, g1, g3, (List.perm_ext_iff_of_nodup g1.nod g3.nod).2 fun y => ⟨fun h => g4 y (g1.reach y h), fun h => g2 y (g3.reach y h)⟩, fun y => ⟨g2 y, g1.reach y⟩⟩
theorem zK6 {n : Nat} {L : List (Nm n)} {i : Nat} {x : Nm n} (h : L[i]? = some x) : List.getD (L.map enc) i ((0, (0, [])) : VN) = enc x := by
 rw [List.getD_eq_getElem?_getD, List.getElem?_map, h]; rfl
theorem zJt {n : Nat} (y : Nm n) : (enc y).2.1 = y.1 ∧ (enc y).2.2.length = y.2.length := ⟨rfl, by simp [enc, zT]⟩
open Classical in
theorem zI8 (n : Nat) (h2 : 2 ≤ n) (hn : n ≤ 8) (first x : Nm n) (hf : OkN first 1000) (S : List (Pm n)) (hS : S.length < 1000000) (a : Nat) : ∀ (m k : Nat), k + m = S.length → ∀ L : List (Nm n), Good first L → L[a]? = some x →
  R zx [zB (L.map enc), tLA8 (sL S), tI (a : Int), tI (S.length : Int), tI (k : Int)] = some (match addG first x (S.drop k) L with
   | some L' => [tI 0, zB (L'.map enc), tLA8 (sL S), tI (a : Int)]
   | none => [tI 1, zB [], tB false]) := by
 intro m
 induction m with
 | zero =>
  intro k hk L hL hx; apply jv; rw [List.drop_of_length_le (by omega)]; have : ¬ ((k : Int) < (S.length : Int)) := by omega
  simp only [kU, decide_eq_false this, cond_false, addG]
 | succ m ih =>
  intro k hk L hL hx; have hkS : k < S.length := by omega
  have ha := (List.getElem?_eq_some_iff.1 hx).1; have hxm : x ∈ L := List.mem_of_getElem? hx; have hll := hL.len; have hL0 : 0 < L.length := (List.getElem?_eq_some_iff.1 hL.head).1; apply jv; rw [List.drop_eq_getElem_cons hkS, addG]; have hok : OkN x 100000 := ((hL.ss x hxm).ok h2 hf).mono (by omega); have hcj := zOb n h2 hn x hok S[k]; have hyk := zPX h2 ((hL.ss x hxm).ok h2 hf) S[k]; have w : wi64 ((k : Int) + 1) = ((k + 1 : Nat) : Int) := by rw [zF] <;> omega
  have eV : ∀ x : VN, (x.1, x.2.1, x.2.2) = x := fun x => rfl; have hlt : ((k : Int) < (S.length : Int)) := by omega
  have hL0' : ((0 : Int) < (L.length : Int)) := by omega
  have hc := zFV (enc (conj1 x S[k])) (L.map enc) (fun z hz => by
   obtain ⟨u, hu, rfl⟩ := List.mem_map.1 hz; have := ((hL.ss u hu).ok h2 hf).len; rw [(zJt u).2]; omega) (by rw [List.length_map]; omega)
  simp (disch := omega) only [kU, decide_eq_true hlt, decide_eq_true hL0', decide_eq_true, zT, List.length_map, cond_true, Bool.and_true, Int.toNat_natCast, zK6 hx, zK6 hL.head, eV, zBS hkS, hcj, Option.bind_some, getTV_here, kQ, hc, w]; simp only [(zJt _).1, (zJt _).2]
  by_cases e1 : (conj1 x S[k]).1 = first.1
  · by_cases e2 : (conj1 x S[k]).2.length = first.2.length
    · have e2' : (((conj1 x S[k]).2.length : Nat) : Int) = ((first.2.length : Nat) : Int) := by omega
      by_cases e3 : conj1 x S[k] ∈ L
      · rw [if_neg (fun h => h.2.2 e3)]; simp only [e1, e2', decide_true, Bool.not_true, cond_false, decide_eq_true ((zLG hn).2 e3), cond_true]; exact ih (k + 1) (by omega) L hL hx
      · rw [if_pos ⟨e1, e2, e3⟩]; have e3' : ¬ enc (conj1 x S[k]) ∈ L.map enc := fun h => e3 ((zLG hn).1 h); simp only [e1, e2', decide_true, Bool.not_true, cond_false, decide_eq_false e3']
        by_cases e4 : L.length = 120
        · rw [if_pos e4]; simp [e4]
        · rw [if_neg e4]; have e4' : ((L.length : Int) == 120) = false := by rw [zDz, decide_eq_false (by omega)]
          have ap : apOk (L.map enc) [enc (conj1 x S[k])] = true := zJx (by rw [List.length_map]; omega); simp only [e4', cond_false, ap, cond_true]; have eapp : L.map enc ++ [enc (conj1 x S[k])] = (L ++ [conj1 x S[k]]).map enc := by simp
          rw [eapp]; exact ih (k + 1) (by omega) _ (hL.add h2 hf hxm e1 e2 e3 e4) (by rw [List.getElem?_append_left ha]; exact hx)
    · have e2' : ¬ (((conj1 x S[k]).2.length : Nat) : Int) = ((first.2.length : Nat) : Int) := by omega
      rw [if_neg (fun h => e2 h.2.1)]; simp only [e1, e2', decide_true, decide_false, Bool.not_true, Bool.not_false, cond_false, cond_true]; exact ih (k + 1) (by omega) L hL hx
  · rw [if_neg (fun h => e1 h.1)]; simp only [e1, decide_false, Bool.not_false, cond_true]; exact ih (k + 1) (by omega) L hL hx
theorem zI9 (n : Nat) (h2 : 2 ≤ n) (hn : n ≤ 8) (first : Nm n) (hf : OkN first 1000) (S : List (Pm n)) (hS : S.length < 1000000) : ∀ (f a : Nat) (L : List (Nm n)), Good first L → 121 ≤ f + a → a ≤ L.length →
  R kT [zB (L.map enc), tLA8 (sL S), tI (a : Int)] = some (match bfsG first S f a L with
   | some L' => [tI 0, zB (L'.map enc)]
   | none => [tI 1, zB [], tB false]) := by
 intro f
 induction f with
 | zero =>
  intro a L hL hfa ha; have := hL.len; omega
 | succ f ih =>
  intro a L hL hfa ha; apply zBc; rw [bfsG]; have hll := hL.len
  cases hx : L[a]? with
  | none =>
   have : L.length ≤ a := by simpa using hx
   have hn' : ¬ ((a : Int) < (L.length : Int)) := by omega
   simp only [kV, List.length_map, decide_eq_false hn', cond_false]
  | some x =>
   have hal := (List.getElem?_eq_some_iff.1 hx).1; have hlt : ((a : Int) < (L.length : Int)) := by omega
   have h7 := zI8 n h2 hn first x hf S hS a S.length 0 (by omega) L hL hx
   simp only [Int.natCast_zero, List.drop_zero] at h7; have w : wi64 ((a : Int) + 1) = ((a + 1 : Nat) : Int) := by rw [zF] <;> omega
   simp only [kV, List.length_map, decide_eq_true hlt, cond_true, zT, h7, Option.bind_some]
   cases hg : addG first x S L with
   | none => simp
   | some L1 =>
    obtain ⟨g1, ⟨T, g2⟩, g3⟩ := zDa h2 hf S L L1 hL (List.mem_of_getElem? hx) hg; simp only [getTV_here, getTV_next, beq_self_eq_true, cond_true, w, Option.bind_some]; exact ih (a + 1) L1 g1 (by omega) (by rw [g2]; simp; omega)
end Go.Ev.YtmdkgikjnaijeaaGreat
namespace Go.Ev.YtmdkgikjnaijeaaGreat
open Go.Ev Go.Gar
abbrev Asc (l : List VN) : Prop := l.Pairwise (fun a b => ¬ befV b a = true)
open Classical in
theorem zQb (n : Nat) (h2 : 2 ≤ n) (hn : n ≤ 8) (first x : Nm n) (hf : OkN first 1000) (S : List (Pm n)) (hS : S.length < 1000000) (a : Nat) (x0 : Int) : ∀ (m k : Nat), k + m = S.length → ∀ (q : List (Nm n)) (l : List VN), Good first q → q[a]? = some x → l.Perm (q.map enc) → Asc l →
  (∀ q', addG first x (S.drop k) q = some q' → ∃ l' : List VN, l'.Perm (q'.map enc) ∧ Asc l' ∧
   R zv [tI x0, tI first.1, tLA8 (sL first.2), zB l, zB (q.map enc), tLA8 (sL S), tI (a : Int), tI (k : Int)] = some [tI 0, tI x0, tI first.1, tLA8 (sL first.2), zB l', zB (q'.map enc), tLA8 (sL S), tI (a : Int)]) ∧
  (addG first x (S.drop k) q = none → R zv [tI x0, tI first.1, tLA8 (sL first.2), zB l, zB (q.map enc), tLA8 (sL S), tI (a : Int), tI (k : Int)] = some [tI 1, zB [], tB false]) := by
 intro m
 induction m with
 | zero =>
  intro k hk q l hq hx hp hs; rw [List.drop_of_length_le (by omega)]; refine ⟨fun q' h => ?_, fun h => by simp [addG] at h⟩; simp only [addG, Option.some.injEq] at h; subst h; refine ⟨l, hp, hs, ?_⟩; apply zFX; have : ¬ ((k : Int) < (S.length : Int)) := by omega
  simp only [zCW, zT, decide_eq_false this, cond_false]
 | succ m ih =>
  intro k hk q l hq hx hp hs; have hkS : k < S.length := by omega
  have ha := (List.getElem?_eq_some_iff.1 hx).1; have hxm : x ∈ q := List.mem_of_getElem? hx; have hll := hq.len; rw [List.drop_eq_getElem_cons hkS, addG]; have hok : OkN x 100000 := ((hq.ss x hxm).ok h2 hf).mono (by omega); have hcj := zJw n h2 hn x hok S[k]; have w : wi64 ((k : Int) + 1) = ((k + 1 : Nat) : Int) := by rw [zF] <;> omega
  have eV : ∀ x : VN, (x.1, x.2.1, x.2.2) = x := fun x => rfl; have hlt : ((k : Int) < (S.length : Int)) := by omega
  have hlt2 : ((a : Int) < (q.length : Int)) := by omega
  have hfl := hf.len
  have st : ∀ o, (bif (!decide ((conj1 x S[k]).1 = first.1)) then R zv [tI x0, tI first.1, tLA8 (sL first.2), zB l, zB (q.map enc), tLA8 (sL S), tI (a : Int), tI ((k + 1 : Nat) : Int)]
    else bif (!decide ((((conj1 x S[k]).2.length : Nat) : Int) = ((first.2.length : Nat) : Int))) then R zv [tI x0, tI first.1, tLA8 (sL first.2), zB l, zB (q.map enc), tLA8 (sL S), tI (a : Int), tI ((k + 1 : Nat) : Int)]
    else (R zCi [zB l, zA (enc (conj1 x S[k]))]).bind fun o7 =>
     bif (gB o7 1) then
      bif decide (120 < ((List.length (zG o7 0) : Nat) : Int)) then some [tI 1, zB [], tB false]
      else bif (apOk (q.map enc) [enc (conj1 x S[k])]) then R zv [tI x0, tI first.1, tLA8 (sL first.2), zB (zG o7 0), zB (q.map enc ++ [enc (conj1 x S[k])]), tLA8 (sL S), tI (a : Int), tI ((k + 1 : Nat) : Int)] else none
     else R zv [tI x0, tI first.1, tLA8 (sL first.2), zB l, zB (q.map enc), tLA8 (sL S), tI (a : Int), tI ((k + 1 : Nat) : Int)]) = some o →
    R zv [tI x0, tI first.1, tLA8 (sL first.2), zB l, zB (q.map enc), tLA8 (sL S), tI (a : Int), tI (k : Int)] = some o := by
   intro o ho; apply zFX; simp (disch := omega) only [zCW, decide_eq_true hlt, decide_eq_true hlt2, decide_eq_true, zT, List.length_map, cond_true, Bool.and_true, Int.toNat_natCast, zK6 hx, eV, zBS hkS, hcj, Option.bind_some, getTV_here, kQ, w]; simp only [(zJt _).1, (zJt _).2]; exact ho
  by_cases e1 : (conj1 x S[k]).1 = first.1
  · by_cases e2 : (conj1 x S[k]).2.length = first.2.length
    · have e2' : (((conj1 x S[k]).2.length : Nat) : Int) = ((first.2.length : Nat) : Int) := by omega
      have hss : SS first (conj1 x S[k]) := (hq.ss x hxm).conj h2 hf e1 e2
      have hL : ∀ z ∈ l, Cls (n : Int) first.1 first.2.length z := fun z hz => by
       obtain ⟨u, hu, rfl⟩ := List.mem_map.1 (hp.mem_iff.1 hz); exact (hq.ss u hu).cls
      have hlen : l.length = q.length := by rw [hp.length_eq, List.length_map]
      have hins := zOO (enc (conj1 x S[k])) hss.cls (by omega) l hL (by omega) hs; have hmem : enc (conj1 x S[k]) ∈ l ↔ conj1 x S[k] ∈ q := hp.mem_iff.trans (zLG hn); simp only [e1, e2', decide_true, Bool.not_true, cond_false, hins, Option.bind_some] at st
      by_cases e3 : conj1 x S[k] ∈ q
      · rw [if_neg (fun h => h.2.2 e3)]; simp only [if_pos (hmem.2 e3), getTV_here, getTV_next, cond_false] at st; obtain ⟨i1, i2⟩ := ih (k + 1) (by omega) q l hq hx hp hs; refine ⟨fun q' h => ?_, fun h => st _ (i2 h)⟩; obtain ⟨l', j1, j2, j3⟩ := i1 q' h; exact ⟨l', j1, j2, st _ j3⟩
      · rw [if_pos ⟨e1, e2, e3⟩]; simp only [if_neg (fun h => e3 (hmem.1 h)), getTV_here, getTV_next, cond_true, zPL, hlen] at st
        by_cases e4 : q.length = 120
        · rw [if_pos e4]; refine ⟨fun q' h => by simp at h, fun _ => st _ ?_⟩; have : ((120 : Int) < ((q.length + 1 : Nat) : Int)) := by omega
          simp only [decide_eq_true this, cond_true]
        · rw [if_neg e4]; have h120 : ¬ ((120 : Int) < ((q.length + 1 : Nat) : Int)) := by omega
          have ap : apOk (q.map enc) [enc (conj1 x S[k])] = true := zJx (by rw [List.length_map]; omega); have eapp : q.map enc ++ [enc (conj1 x S[k])] = (q ++ [conj1 x S[k]]).map enc := by simp
          simp only [decide_eq_false h120, cond_false, ap, cond_true, eapp] at st; have hp' : (insO befV l (enc (conj1 x S[k]))).Perm ((q ++ [conj1 x S[k]]).map enc) := by
           rw [← eapp]; refine (zMb befV l _).trans ?_; refine (List.Perm.cons _ hp).trans ?_; exact (List.perm_append_comm (l₁ := [enc (conj1 x S[k])]))
          obtain ⟨i1, i2⟩ := ih (k + 1) (by omega) _ _ (hq.add h2 hf hxm e1 e2 e3 e4) (by rw [List.getElem?_append_left ha]; exact hx) hp' (zN1 (ordV _ _ _) hss.cls hL hs); refine ⟨fun q' h => ?_, fun h => st _ (i2 h)⟩; obtain ⟨l', j1, j2, j3⟩ := i1 q' h; exact ⟨l', j1, j2, st _ j3⟩
    · have e2' : ¬ (((conj1 x S[k]).2.length : Nat) : Int) = ((first.2.length : Nat) : Int) := by omega
      rw [if_neg (fun h => e2 h.2.1)]; simp only [e1, e2', decide_true, decide_false, Bool.not_true, Bool.not_false, cond_false, cond_true] at st; obtain ⟨i1, i2⟩ := ih (k + 1) (by omega) q l hq hx hp hs; refine ⟨fun q' h => ?_, fun h => st _ (i2 h)⟩; obtain ⟨l', j1, j2, j3⟩ := i1 q' h; exact ⟨l', j1, j2, st _ j3⟩
  · rw [if_neg (fun h => e1 h.1)]; simp only [e1, decide_false, Bool.not_false, cond_true] at st; obtain ⟨i1, i2⟩ := ih (k + 1) (by omega) q l hq hx hp hs; refine ⟨fun q' h => ?_, fun h => st _ (i2 h)⟩; obtain ⟨l', j1, j2, j3⟩ := i1 q' h; exact ⟨l', j1, j2, st _ j3⟩
theorem zQc (n : Nat) (h2 : 2 ≤ n) (hn : n ≤ 8) (first : Nm n) (hf : OkN first 1000) (S : List (Pm n)) (hS : S.length < 1000000) (x0 : Int) : ∀ (f a : Nat) (q : List (Nm n)) (l : List VN), Good first q → 121 ≤ f + a → a ≤ q.length → l.Perm (q.map enc) → Asc l →
  (∀ q', bfsG first S f a q = some q' → ∃ l' : List VN, l'.Perm (q'.map enc) ∧ Asc l' ∧
   R kt [tI x0, tI first.1, tLA8 (sL first.2), zB l, zB (q.map enc), tLA8 (sL S), tI (a : Int)] = some [tI 0, zB l']) ∧
  (bfsG first S f a q = none → R kt [tI x0, tI first.1, tLA8 (sL first.2), zB l, zB (q.map enc), tLA8 (sL S), tI (a : Int)] = some [tI 1, zB [], tB false]) := by
 intro f
 induction f with
 | zero =>
  intro a q l hq hfa ha hp hs; have := hq.len; omega
 | succ f ih =>
  intro a q l hq hfa ha hp hs; rw [bfsG]; have hll := hq.len
  cases hx : q[a]? with
  | none =>
   have : q.length ≤ a := by simpa using hx
   have hn' : ¬ ((a : Int) < (q.length : Int)) := by omega
   refine ⟨fun q' h => ?_, fun h => by simp at h⟩; simp only [Option.some.injEq] at h; subst h; refine ⟨l, hp, hs, ?_⟩; apply zCF; simp only [zAL, List.length_map, decide_eq_false hn', cond_false]
  | some x =>
   have hal := (List.getElem?_eq_some_iff.1 hx).1; have hlt : ((a : Int) < (q.length : Int)) := by omega
   obtain ⟨h7a, h7b⟩ := zQb n h2 hn first x hf S hS a x0 S.length 0 (by omega) q l hq hx hp hs
   simp only [Int.natCast_zero, List.drop_zero] at h7a h7b; have w : wi64 ((a : Int) + 1) = ((a + 1 : Nat) : Int) := by rw [zF] <;> omega
   simp only
   cases hg : addG first x S q with
   | none =>
    refine ⟨fun q' h => by simp at h, fun _ => ?_⟩; apply zCF; simp only [zAL, List.length_map, decide_eq_true hlt, cond_true, h7b hg, Option.bind_some, getTV_here, getTV_next]
    rfl
   | some q1 =>
    obtain ⟨l1, p1, p2, p3⟩ := h7a q1 hg; obtain ⟨g1, ⟨T, g2⟩, g3⟩ := zDa h2 hf S q q1 hq (List.mem_of_getElem? hx) hg; obtain ⟨i1, i2⟩ := ih (a + 1) q1 l1 g1 (by omega) (by rw [g2]; simp; omega) p1 p2; have st : ∀ o, R kt [tI x0, tI first.1, tLA8 (sL first.2), zB l1, zB (q1.map enc), tLA8 (sL S), tI ((a + 1 : Nat) : Int)] = some o → R kt [tI x0, tI first.1, tLA8 (sL first.2), zB l, zB (q.map enc), tLA8 (sL S), tI (a : Int)] = some o := by
     intro o ho; apply zCF; simp only [zAL, List.length_map, decide_eq_true hlt, cond_true, p3, Option.bind_some, getTV_here, getTV_next, beq_self_eq_true, w, ho]
    simp only [Option.bind_some]; refine ⟨fun q' h => ?_, fun h => st _ (i2 h)⟩; obtain ⟨l', j1, j2, j3⟩ := i1 q' h; exact ⟨l', j1, j2, st _ j3⟩
structure Sets {n : Nat} (v : Nm n) (ys : List VN) : Prop where
 impl : R jH [zA (enc v)] = some [zB ys, tB true]
 spec : R zDS [zA (enc v)] = some [zB ys, tB true]
 mem : ∀ y : Nm n, Reach (sumN v) y ↔ enc y ∈ ys
 all : ∀ z ∈ ys, ∃ y : Nm n, z = enc y ∧ SS (sumN v) y
 asc : Asc ys
 len : ys.length ≤ 120
 nod : ys.Nodup
theorem zSU (n : Nat) (h2 : 2 ≤ n) (h4 : n ≤ 4) (v : Nm n) (hv : OkN v 200) :
  (R jH [zA (enc v)] = some [zB [], tB false] ∧ R zDS [zA (enc v)] = some [zB [], tB false]) ∨ ∃ ys : List VN, Sets v ys := by
 have hn : n ≤ 8 := by omega
 have hs1 := zPd n (by omega) hn v (hv.mono (by omega)); have hs2 := zJD n (by omega) hn v (hv.mono (by omega)); have hf : OkN (sumN v) 1000 := (zG8 (by omega) hv).mono (by omega); generalize hfst : sumN v = first at *
 obtain ⟨S1, a1, a2, a3⟩ := zJM n (by omega) h4; obtain ⟨S2, b1, b2, b3, _⟩ := zEB n (by omega) h4; have g4 := zI9 n h2 hn first hf S1 (by omega) 121 0 [first] (zAs hf) (by omega) (by simp)
 obtain ⟨k1, k2⟩ := zQc n h2 hn first hf S2 (by omega) (n : Int) 121 0 [first] ([first].map enc) (zAs hf) (by omega) (by simp) (.refl _) (by simp)
 have eV : ∀ x : VN, (x.1, x.2.1, x.2.2) = x := fun x => rfl; have ee : ([first].map enc : List VN) = [enc first] := rfl; have eI : (enc v).1 = (n : Int) := rfl; have eF : (enc first).1 = (n : Int) ∧ (enc first).2.1 = first.1 ∧ (enc first).2.2 = sL first.2 := ⟨rfl, rfl, rfl⟩
 simp only [Int.natCast_zero, ee] at g4 k1 k2
 rcases zR6 h2 hf (fun s _ => a2 s) b2 with ⟨n1, n2⟩ | ⟨A, B, n1, n2, gA, gB, hAB, hR⟩
 · left
   refine ⟨?_, ?_⟩
   · apply zC2; rw [n1] at g4; simp only [jq, eV, hs1, Option.bind_some, getTV_here]; simp only [eI, a1, Option.bind_some, getTV_here, g4, getTV_next]
     rfl
   · apply zIQ; simp only [zEi, eV, hs2, Option.bind_some, getTV_here]; simp only [eI, eF.1, eF.2.1, eF.2.2, jR n hn, b1, Option.bind_some, getTV_here, k2 n2, getTV_next]
     rfl
 · right; rw [n1] at g4; simp only at g4; obtain ⟨l', p1, p2, p3⟩ := k1 B n2; have hcA : ∀ z ∈ A.map enc, Cls (n : Int) first.1 first.2.length z := fun z hz => by
    obtain ⟨u, hu, rfl⟩ := List.mem_map.1 hz; exact (gA.ss u hu).cls
   have hfl := hf.len; have hAl := gA.len; obtain ⟨ys, q1, q2, q3⟩ := zGr (by omega : first.2.length < 1000000000) (A.map enc) hcA (by rw [List.length_map]; omega); have hys : ∀ z ∈ ys, Cls (n : Int) first.1 first.2.length z := fun z hz => hcA z (q2.mem_iff.1 hz)
   have e : ys = l' := zKo (ordV _ _ _) hys (q2.trans ((hAB.map enc).trans p1.symm)) q3 p2; subst e
   refine ⟨ys, ?_, ?_, fun y => ?_, fun z hz => ?_, q3, ?_, ?_⟩
   · apply zC2; simp only [jq, eV, hs1, Option.bind_some, getTV_here]; simp only [eI, a1, Option.bind_some, getTV_here, g4, beq_self_eq_true, cond_true, getTV_next, q1]
   · apply zIQ; simp only [zEi, eV, hs2, Option.bind_some, getTV_here]; simp only [eI, eF.1, eF.2.1, eF.2.2, jR n hn, b1, Option.bind_some, getTV_here, p3, beq_self_eq_true, cond_true, getTV_next]
   · rw [hfst, hR y, q2.mem_iff]; exact (zLG hn).symm
   · obtain ⟨u, hu, rfl⟩ := List.mem_map.1 (q2.mem_iff.1 hz); exact ⟨u, rfl, by rw [hfst]; exact gA.ss u hu⟩
   · rw [q2.length_eq, List.length_map]; exact hAl
   · rw [q2.nodup_iff]; exact List.Pairwise.map enc (fun a b h => fun e => h (zBh hn e)) gA.nod
end Go.Ev.YtmdkgikjnaijeaaGreat
namespace Go.Ev.YtmdkgikjnaijeaaGreat
open Go.Ev Go.Gar
theorem pm1 (s t : Pm 1) : s = t := by
 apply Pm.ext; intro x
 by_cases h : x < 1
 · have a := s.lt h; have b := t.lt h; omega
 · rw [s.out x (by omega), t.out x (by omega)]
abbrev V1 : VN := (1, 0, [])
theorem zMt (k : Int) : R i__i_Normal__turnBy [zA V1, tI k] = some [zA V1] := by
 apply zCG; simp [b__i_Normal__turnBy]
theorem zTb : R i__i_Normal__put [zA V1, tA8 (sA (1 : Pm 1))] = some [zA V1] := by
 apply zD9; have h := jp 1 (by omega); simp only [Int.natCast_one] at h; simp [b__i_Normal__put, h]
theorem zM9 (s : Pm 1) : R zCq [zA V1, tA8 (sA s)] = some [zA V1] := by
 rw [pm1 s 1]; have hl := zEA 1 (by omega) (1 : Pm 1); rw [pm1 (Pm.half 1 * (1 : Pm 1)⁻¹) 1] at hl; simp only [Int.natCast_one] at hl; have hpi : R i__i_Normal__putInverse [zA V1, tA8 (sA (1 : Pm 1))] = some [zA V1] := by
  apply zAX; simp only [b__i_Normal__putInverse, zMt, Option.bind_some, getTV_here, hl, zTb]
 have hcp : R kJ [zA V1] = some [zA V1] := by
  apply zGG; simp [zB0, apOk, lim]
 have h4 : R zAQ [tI 0, tI 0, tLA8 [], tI 1, tI 0, tLA8 [], tLA8 [], tI 0, tI 0] = some [tI 0, tI 0, tI 0, tLA8 [], tI 1, tI 0, tLA8 []] := by
  apply zCd; simp [zAR]
 have hpr : R zEw [zA V1, zA V1] = some [zA V1] := by
  apply zJ1; simp only [zDZ, hcp, Option.bind_some, getTV_here, zMt, List.length_nil, Int.natCast_zero, h4, getTV_next]
 have hw : R zBA [zA V1, tA8 (sA (1 : Pm 1))] = some [zA V1] := by
  apply zFE; simp only [zBN, hpi, Option.bind_some, getTV_here, hpr]
 apply zHi; simp only [zC0, hw, Option.bind_some, getTV_here, zTb]
theorem zIB (S : List (Pm 1)) (hS : S.length < 1000000) : ∀ (m k : Nat), k + m = S.length → R zx [zB [V1], tLA8 (sL S), tI 0, tI (S.length : Int), tI (k : Int)] = some [tI 0, zB [V1], tLA8 (sL S), tI 0] := by
 intro m
 induction m with
 | zero =>
  intro k hk; apply jv; have : ¬ ((k : Int) < (S.length : Int)) := by omega
  simp only [kU, decide_eq_false this, cond_false]
 | succ m ih =>
  intro k hk; have hkS : k < S.length := by omega
  apply jv; have w : wi64 ((k : Int) + 1) = ((k + 1 : Nat) : Int) := by rw [zF] <;> omega
  have hlt : ((k : Int) < (S.length : Int)) := by omega
  have hc := zFV V1 [V1] (fun z hz => by simp at hz; subst hz; simp) (by simp); have hg : List.getD ([V1] : List VN) 0 (0, (0, [])) = V1 := rfl; have h01 : ((0 : Int) < ((1 : Nat) : Int)) := by omega
  have ht : Int.toNat 0 = 0 := rfl; simp (disch := omega) only [kU, decide_eq_true hlt, decide_eq_true h01, decide_eq_true, zT, List.length_cons, List.length_nil, Nat.zero_add, cond_true, Bool.and_true, Int.toNat_natCast, ht, hg, zBS hkS, zM9, Option.bind_some, getTV_here, w]; have e1 : decide (V1 ∈ [V1]) = true := by simp
  simp only [hc, Option.bind_some, getTV_here, bne_self_eq_false, cond_false, e1, cond_true]; exact ih (k + 1) (by omega)
structure Sets0 {n : Nat} (v : Nm n) (ys : List VN) : Prop where
 impl : R jH [zA (enc v)] = some [zB ys, tB true]
 spec : R zDS [zA (enc v)] = some [zB ys, tB true]
 all : ∀ z ∈ ys, ∃ y : Nm n, z = enc y ∧ SS (sumN v) y
 asc : Asc ys
 len : ys.length ≤ 120
 nod : ys.Nodup
 ne : ys ≠ []
theorem zSV (v : Nm 1) (hv : OkN v 200) : Sets0 v [V1] := by
 have hs1 := zPd 1 (by omega) (by omega) v (hv.mono (by omega)); have hs2 := zJD 1 (by omega) (by omega) v (hv.mono (by omega)); have hsu := (zG8 (by omega) hv).one rfl; have hv0 := hv.one rfl; subst hv0; rw [hsu] at hs1 hs2; obtain ⟨S1, a1, a2, a3⟩ := zJM 1 (by omega) (by omega); obtain ⟨S2, b1, b2, b3, b4⟩ := zEB 1 (by omega) (by omega); have hS2 := b4 rfl; subst hS2; have eE : enc ((0, []) : Nm 1) = V1 := rfl; have h7 := zIB S1 (by omega) S1.length 0 (by omega); have hcl : Cls 1 0 0 V1 := ⟨rfl, rfl, rfl, fun x hx => by simp at hx⟩; obtain ⟨ys, q1, q2, q3⟩ := zGr (n := 1) (p := 0) (k := 0) (by omega) [V1] (fun x hx => by simp at hx; subst hx; exact hcl) (by simp); have ey : ys = [V1] := List.perm_singleton.1 q2; subst ey; have n1 := jR 1 (by omega); simp only [Int.natCast_one, Int.natCast_zero, eE] at h7 hs1 hs2 a1 b1 n1; have w : wi64 ((0 : Int) + 1) = 1 := by rw [zF] <;> omega
 have h4b : R kT [zB [V1], tLA8 (sL S1), tI 1] = some [tI 0, zB [V1]] := by
  apply zBc; simp [kV]
 have h4 : R kT [zB [V1], tLA8 (sL S1), tI 0] = some [tI 0, zB [V1]] := by
  apply zBc; have h01 : ((0 : Int) < ((1 : Nat) : Int)) := by omega
  simp only [kV, List.length_cons, List.length_nil, Nat.zero_add, decide_eq_true h01, cond_true, zT, h7, Option.bind_some, getTV_here, getTV_next, beq_self_eq_true, w, h4b]
 have s7 : R zv [tI 1, tI 0, tLA8 [], zB [V1], zB [V1], tLA8 [], tI 0, tI 0] = some [tI 0, tI 1, tI 0, tLA8 [], zB [V1], zB [V1], tLA8 [], tI 0] := by
  apply zFX; simp [zCW]
 have s4b : R kt [tI 1, tI 0, tLA8 [], zB [V1], zB [V1], tLA8 [], tI 1] = some [tI 0, zB [V1]] := by
  apply zCF; simp [zAL]
 have s4 : R kt [tI 1, tI 0, tLA8 [], zB [V1], zB [V1], tLA8 [], tI 0] = some [tI 0, zB [V1]] := by
  apply zCF; have h01 : ((0 : Int) < ((1 : Nat) : Int)) := by omega
  simp only [zAL, List.length_cons, List.length_nil, Nat.zero_add, decide_eq_true h01, cond_true, s7, Option.bind_some, getTV_here, getTV_next, beq_self_eq_true, w, s4b]
 refine ⟨?_, ?_, fun z hz => ?_, by simp, by simp, by simp, by simp⟩
 · rw [eE]; apply zC2; simp only [jq, hs1, Option.bind_some, getTV_here, a1, h4, beq_self_eq_true, cond_true, getTV_next, q1]
 · rw [eE]; apply zIQ; simp only [zDR] at b1; simp only [zEi, hs2, Option.bind_some, getTV_here, n1, b1, s4, beq_self_eq_true, cond_true, getTV_next]
 · simp only [List.mem_singleton] at hz; exact ⟨(0, []), hz, by rw [hsu]; exact ⟨Lat.Proper.nil, rfl, rfl⟩⟩
theorem Sets0.cls {n : Nat} {v : Nm n} {ys : List VN} (h : Sets0 v ys) : ∀ z ∈ ys, Cls (n : Int) (sumN v).1 (sumN v).2.length z := fun z hz => by
 obtain ⟨y, rfl, hy⟩ := h.all z hz; exact hy.cls
end Go.Ev.YtmdkgikjnaijeaaGreat
namespace Go.Ev.YtmdkgikjnaijeaaGreat
open Go.Ev
theorem zBm (b : VN) : (b.1, b.2.1, b.2.2) = b := rfl
theorem zOl (p : List VN) (x : VN) (r : List VN) (d : VN) : List.getD (p ++ x :: r) p.length d = x := by simp [List.getD_eq_getElem?_getD]
theorem zSX (p : List VN) (x y : VN) (r : List VN) : (p ++ x :: r).set p.length y = p ++ y :: r := by simp
theorem zIq (p : List VN) (x : VN) (r : List VN) : ((p.length : Int) < ((p ++ x :: r).length : Int)) := by simp; omega
def totV : List VN → Nat
 | [] => 0
 | b :: r => 8 * b.2.2.length + totV r
def ShV (l : List VN) : Prop := l.length < 1000000 ∧ ∀ b ∈ l, Len8 b.2.2 ∧ b.2.2.length < 1000000
theorem zLa (a : List VN) (h : ShV a) : ∀ i, i ≤ a.length → R zA4 [zB a, zB a, tI (i : Int)] = some [tI 0] := by
 refine zm _ ?_ (fun i hi ih => ?_)
 · apply zE9; simp [zBI]
 · apply zE9; have hl := h.1; have e : List.getD a i ((0, (0, [])) : VN) = a[i] := by simp [List.getD_eq_getElem?_getD, List.getElem?_eq_getElem hi]
   have hb := h.2 a[i] (List.getElem_mem hi); simp (disch := omega) only [zBI, decide_eq_true, cond_true, Bool.and_true, Int.toNat_natCast, zF, e, zBm, zKd a[i] a[i] hb.1 hb.1 (by omega), Option.bind_some, getTV_here]; rw [show (i : Int) + 1 = ((i + 1 : Nat) : Int) by omega, ih]; simp
theorem zOZ (a : List VN) (h : ShV a) : R zBV [zB a, zB a] = some [tB true] := by
 apply zLw; have := zLa a h 0 (Nat.zero_le _); simp only [Int.natCast_zero] at this; simp [zEg, this]
def mkV : Int → List VN → List VN
 | _, [] => []
 | k, b :: r => (k, k + 1, marksR (k + 2) b.2.2.length) :: mkV (k + 2 + 8 * b.2.2.length) r
theorem zJC : ∀ (r p : List VN) (k : Int), 0 ≤ k → k + totV r + 2 * r.length < 1000000000 → p.length + r.length < 1000000 → (∀ b ∈ r, Len8 b.2.2) →
  R jy [zB (p ++ r), tI k, tI (p.length : Int)] = some [tI 0, zB (p ++ mkV k r), tI (k + totV r + 2 * r.length)] := by
 intro r
 induction r with
 | nil =>
  intro p k _ _ _ _; apply zD2; simp [zAE, mkV, totV]
 | cons b r ih =>
  intro p k hk hk' hl h8; simp only [totV, List.length_cons, Int.natCast_add, Int.natCast_mul, Int.cast_ofNat_Int] at hk' hl; apply zD2; have hi := zIq p b r; have hi2 := zIq p (k, b.2.1, b.2.2) r; have hi3 := zIq p (k, k + 1, b.2.2) r; have this := ih (p ++ [(k, k + 1, marksR (k + 2) b.2.2.length)]) (k + 2 + 8 * b.2.2.length) (by omega) (by omega) (by simp; omega) (fun c hc => h8 c (by simp [hc])); simp only [List.length_append, List.length_singleton, Int.natCast_add, Int.cast_ofNat_Int, List.append_assoc, List.singleton_append] at this; have hm := zGs b.2.2 (k + 2) (h8 b (by simp)) (by omega) (by omega); have e2 : k + 1 + 1 = k + 2 := by omega
  have eb : (k, b.2) = ((k, b.2.1, b.2.2) : VN) := rfl; simp (disch := omega) only [zAE, hi, decide_true, cond_true, Int.natCast_nonneg, Bool.and_true, Bool.true_and, Int.toNat_natCast, zOl, zSX, zF, eb, hi2, hi3, e2, hm, Option.bind_some, getTV_here, getTV_next]; rw [this]; simp only [mkV, totV, List.length_cons, Int.natCast_add, Int.natCast_mul, Int.cast_ofNat_Int]; rw [show k + 2 + 8 * (b.2.2.length : Int) + (totV r : Int) + 2 * (r.length : Int) = k + (8 * (b.2.2.length : Int) + (totV r : Int)) + 2 * ((r.length : Int) + 1) by omega]
theorem zLO (l : List VN) (k : Int) (hk : 0 ≤ k) (hk' : k + totV l + 2 * l.length < 1000000000) (h : ShV l) : R zC6 [zB l, tI k] = some [tI (k + totV l + 2 * l.length), zB (mkV k l)] := by
 apply zJb; have := zJC l [] k hk hk' (by have := h.1; simpa using this) (fun b hb => (h.2 b hb).1); simp only [List.nil_append, List.length_nil, Int.natCast_zero] at this; simp [zDF, this]
theorem zJK : ∀ (r p : List VN) (k : Int), 0 ≤ k → k + totV r + 2 * r.length < 1000000000 → p.length + r.length < 1000000 →
  R zAB [zB (p ++ mkV k r), tI k, tI (p.length : Int)] = some [tI 0, tI (k + totV r + 2 * r.length)] := by
 intro r
 induction r with
 | nil =>
  intro p k _ _ _; apply zD5; simp [zAH, mkV, totV]
 | cons b r ih =>
  intro p k hk hk' hl; simp only [totV, List.length_cons, Int.natCast_add, Int.natCast_mul, Int.cast_ofNat_Int] at hk' hl; apply zD5; have hi := zIq p (k, k + 1, marksR (k + 2) b.2.2.length) (mkV (k + 2 + 8 * b.2.2.length) r); have this := ih (p ++ [(k, k + 1, marksR (k + 2) b.2.2.length)]) (k + 2 + 8 * b.2.2.length) (by omega) (by omega) (by simp; omega); simp only [List.length_append, List.length_singleton, Int.natCast_add, Int.cast_ofNat_Int, List.append_assoc, List.singleton_append] at this; have hm := zLX (k + 2) b.2.2.length (by omega) (by omega); have e2 : k + 1 + 1 = k + 2 := by omega
  have hneg : decide (k + 2 + 8 * (b.2.2.length : Int) < 0) = false := by simp; omega
  simp (disch := omega) only [zAH, mkV, hi, decide_true, cond_true, Int.natCast_nonneg, Bool.and_true, Bool.true_and, Int.toNat_natCast, zOl, bne_self_eq_false, cond_false, zF, e2, hm, Option.bind_some, getTV_here, getTV_next, hneg]; rw [this]; simp only [totV, List.length_cons, Int.natCast_add, Int.natCast_mul, Int.cast_ofNat_Int]; rw [show k + 2 + 8 * (b.2.2.length : Int) + (totV r : Int) + 2 * (r.length : Int) = k + (8 * (b.2.2.length : Int) + (totV r : Int)) + 2 * ((r.length : Int) + 1) by omega]
theorem zLY (l : List VN) (k : Int) (hk : 0 ≤ k) (hk' : k + totV l + 2 * l.length < 1000000000) (h : ShV l) : R zA2 [zB (mkV k l), tI k] = some [tI (k + totV l + 2 * l.length)] := by
 apply zJd; have := zJK l [] k hk hk' (by have := h.1; simpa using this); simp only [List.nil_append, List.length_nil, Int.natCast_zero] at this; simp [zDH, this]
theorem zJN (ok : Bool) : ∀ (r p acc : List VN), p.length + r.length < 1000000 → acc.length + r.length < 1000000 → (∀ b ∈ r, b.2.2.length < 1000000 ∧ ((limV b).2 = 0 ↔ ok = true)) →
  R jD [zB (p ++ r), zB acc, tI (p.length : Int)] = some (if ok = true ∨ r = [] then [tI 0, zB (acc ++ r)] else [tI 1, zB [], tI 3]) := by
 intro r
 induction r with
 | nil =>
  intro p acc _ _ _; apply zD8; simp [zAI]
 | cons b r ih =>
  intro p acc hl ha hb; simp only [List.length_cons] at hl ha; apply zD8; have hi := zIq p b r; obtain ⟨b1, b2⟩ := hb b (by simp); have a1 : apOk ([] : List (List Int)) b.2.2 = true := zNG (by simp; omega); have a2 : apOk acc [b] = true := zNG (by simp; omega); simp (disch := omega) only [zAI, hi, decide_true, cond_true, Int.natCast_nonneg, Bool.and_true, Int.toNat_natCast, zOl, a1, zBm, zS8 b, Option.bind_some, getTV_here, getTV_next, zF]
  cases ok with
  | true =>
   have hz : (limV b).2 = 0 := b2.2 rfl; have hv : (limV b).1 = b := by
    unfold limV at hz ⊢
    split at hz
    · rename_i hc; rw [if_pos hc]
    · simp at hz
   have this := ih (p ++ [b]) (acc ++ [b]) (by simp; omega) (by simp; omega) (fun c hc => hb c (by simp [hc])); simp only [List.length_append, List.length_singleton, Int.natCast_add, Int.cast_ofNat_Int, List.append_assoc, List.singleton_append, true_or, if_true] at this; simp only [hz, hv, bne_self_eq_false, cond_false, a2, cond_true, this, true_or, if_true]
  | false =>
   have hz : ¬ (limV b).2 = 0 := fun h => by have := b2.1 h; simp at this
   have h3 : (limV b).2 = 3 := by
    unfold limV at hz ⊢
    split
    · rename_i hc; rw [if_pos hc] at hz; simp at hz
    · rfl
   have e3 : ((3 : Int) != 0) = true := rfl; simp only [h3, e3, cond_true]; simp
theorem zRY {a b : VN} (h1 : a.2.1 = b.2.1) (h2 : a.2.2.length = b.2.2.length) : (limV a).2 = (limV b).2 := by
 unfold limV; rw [h1, h2]; split <;> rfl
theorem zTo {m : Nat} : ∀ (l : List VN), (∀ b ∈ l, b.2.2.length ≤ m) → totV l ≤ 8 * m * l.length := by
 intro l
 induction l with
 | nil => intro _; simp [totV]
 | cons b r ih =>
  intro h; have := ih (fun c hc => h c (by simp [hc])); have := h b (by simp); simp only [totV, List.length_cons, Nat.mul_add]; omega
end Go.Ev.YtmdkgikjnaijeaaGreat
