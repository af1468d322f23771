/- Draws of braids (for seats without normal forms); equality of rows as the laws test it. -/
import Derived.Test.YteclcmiopobnaaaMd0
import Derived.Test.YteclcmiopobnaaaWa
set_option linter.unusedVariables false
set_option linter.unusedSimpArgs false
namespace Go.Ev.Yteclcmiopobnaaa
open Go.Ev
theorem c_likeInts_4 (a b : List Int) (h0 : a.length < 1000000000) (h1 : b.length = a.length) : ∀ (d i : Nat), i + d = a.length → R iw_likeInts_4 [tLI a, tLI b, tI (i : Int)] = some (if a.drop i = b.drop i then [tI 0] else [tI 1, tB false]) := by
 intro d
 induction d with
 | zero =>
  intro i hi
  apply vw_likeInts_4
  have p1 : decide ((i : Int) < ((a.length : Nat) : Int)) = false := decide_eq_false (by omega)
  rw [List.drop_eq_nil_of_le (by omega), List.drop_eq_nil_of_le (by omega)]
  simp only [bw_likeInts_4, p1, cond_false, if_true]
 | succ d ih =>
  intro i hi
  apply vw_likeInts_4
  have p1 : decide ((i : Int) < ((a.length : Nat) : Int)) = true := decide_eq_true (by omega)
  have p2 : decide ((i : Int) < ((b.length : Nat) : Int)) = true := decide_eq_true (by omega)
  have p3 : decide (0 ≤ (i : Int)) = true := decide_eq_true (by omega)
  have w : wi64 ((i : Int) + 1) = ((i + 1 : Nat) : Int) := by rw [wrap_i64] <;> omega
  simp only [bw_likeInts_4, p1, p2, p3, cond_true, Bool.and_true, w, Int.toNat_natCast, getD_at (show i < a.length by omega), getD_at (show i < b.length by omega), bne_dec, ih (i + 1) (by omega)]
  have da : a.drop i = a[i]'(by omega) :: a.drop (i + 1) := List.drop_eq_getElem_cons _
  have db : b.drop i = b[i]'(by omega) :: b.drop (i + 1) := List.drop_eq_getElem_cons _
  rw [da, db]
  simp only [List.cons.injEq]
  by_cases h : a[i] = b[i]
  · simp [h]
  · simp [h]
theorem c_likeInts (a b : List Int) (h0 : a.length < 1000000000) : R iw_likeInts [tLI a, tLI b] = some [tB (decide (a = b))] := by
 apply vw_likeInts
 by_cases h3 : a.length = b.length
 · have h := c_likeInts_4 a b h0 h3.symm a.length 0 (by omega)
   simp only [Int.natCast_zero, List.drop_zero] at h
   have q3 : (((a.length : Nat) : Int) != ((b.length : Nat) : Int)) = false := by simp [h3]
   simp only [bw_likeInts, q3, cond_false, h, Option.bind_some]
   by_cases e : a = b
   · simp [e]
   · simp [e]
 · have e : ¬ a = b := fun e => h3 (by rw [e])
   have q3 : ¬ ((a.length : Nat) : Int) = ((b.length : Nat) : Int) := by omega
   simp [bw_likeInts, bne_dec, q3, e]
structure Bd (a : Int × List Int) : Prop where
 lo : -1000 ≤ a.1
 hi : a.1 ≤ 1000
 len : a.2.length ≤ 1000
 rng : ∀ x ∈ a.2, -1000 ≤ x ∧ x ≤ 1000
theorem Bd.i64 {a : Int × List Int} (h : Bd a) : I64 a.2 := fun x hx => by
 have := h.rng x hx
 omega
theorem Bd.l {a : Int × List Int} (h : Bd a) : a.2.length < 1000000000 := by have := h.len; omega
theorem Bd.mk' {n : Int} {w : List Int} (h : Ld n.toNat w) (lo : -9 ≤ n) (hi : n ≤ 100) (hl : w.length ≤ 500) : Bd (n, w) :=
 ⟨by show -1000 ≤ n; omega, by show n ≤ 1000; omega, by show w.length ≤ 1000; omega, fun x hx => by have := h x hx; omega⟩
theorem c_own (l : List Int) (h : l.length < 1000000) : R is_l01Own [tLI l] = some [tLI l] := by
 apply vs_l01Own
 have ap : apOk [] l = true := apOk0 (by omega)
 simp only [bs_l01Own, ap, cond_true]
theorem c_broken (s : Sc) (hs : Src s) (a : Int × List Int) (ha : Bd a) (hl : a.2.length ≤ 500) : ∃ (b : Int × List Int) (s' : Sc), R is_l01Broken [tPLU8PIU64 s, tPILI a] = some [tPILI b, tPLU8PIU64 s'] ∧ Src s' ∧ Bd b := by
 obtain ⟨r, s1, hr, hs1, r0, r1⟩ := c_next s hs 30
 by_cases h0 : r = 0
 · obtain ⟨n, s2, hn, hs2, hm⟩ := c_pick s1 hs1 [0, 9, 1, (-1)] (by simp) (by simp)
   refine ⟨(n, a.2), s2, ?_, hs2, ⟨?_, ?_, ha.len, ha.rng⟩⟩
   · apply vs_l01Broken
     simp [bs_l01Broken, hr, h0, hn]
   · simp at hm; show -1000 ≤ n; omega
   · simp at hm; show n ≤ 1000; omega
 · have q0 : (r == 0) = false := by simp [h0]
   by_cases h1 : r = 1
   · have q1 : (r == 1) = true := by simp [h1]
     obtain ⟨x, s2, hx, hs2, hm⟩ := c_pick s1 hs1 [0, a.1, (wi64 (0 - a.1))] (by simp) (by simp)
     have A := ha.lo
     have B := ha.hi
     have w : wi64 (0 - a.1) = -a.1 := by rw [wrap_i64] <;> omega
     have ap : apOk a.2 [x] = true := apOk1 (by have := ha.len; omega)
     refine ⟨(a.1, a.2 ++ [x]), s2, ?_, hs2, ⟨A, B, by show (a.2 ++ [x]).length ≤ 1000; simp; omega, fun y hy => ?_⟩⟩
     · apply vs_l01Broken
       simp only [bs_l01Broken, hr, Option.bind_some, getTV_here, getTV_next, q0, q1, cond_true, cond_false, c_own a.2 (by omega), hx, ap]
     · rcases List.mem_append.1 hy with h | h
       · exact ha.rng y h
       · rw [List.mem_singleton.1 h]
         rw [w] at hm
         simp at hm
         omega
   · have q1 : (r == 1) = false := by simp [h1]
     refine ⟨a, s1, ?_, hs1, ha⟩
     apply vs_l01Broken
     simp only [bs_l01Broken, hr, Option.bind_some, getTV_here, getTV_next, q0, q1, cond_true, cond_false]
theorem c_drawBraid (s : Sc) (hs : Src s) : ∃ (b : Int × List Int) (s' : Sc), R is_l01DrawBraid [tPLU8PIU64 s] = some [tPILI b, tPLU8PIU64 s'] ∧ Src s' ∧ Bd b ∧ b.2.length ≤ 500 := by
 obtain ⟨r1, s1, h1, hs1, m1⟩ := c_pick s hs [2, 3, 5] (by simp) (by simp)
 obtain ⟨r2, s2, h2, hs2, a2, b2'⟩ := c_next s1 hs1 r1
 have b2 : r2 < r1 := by simp at m1; exact b2' (by omega)
 obtain ⟨r3, s3, h3, hs3, m3⟩ := c_pick s2 hs2 [4, 10, 20] (by simp) (by simp)
 simp at m1 m3
 have w : wi64 (2 + r2) = 2 + r2 := by rw [wrap_i64] <;> omega
 obtain ⟨w4, s4, h4, hs4, l4, n4⟩ := c_draw s3 hs3 (2 + r2) r3 (by omega) (by omega) (by omega) (by omega)
 refine ⟨(2 + r2, w4), s4, ?_, hs4, Bd.mk' l4 (by omega) (by omega) (by omega), by show w4.length ≤ 500; omega⟩
 apply vs_l01DrawBraid
 simp only [bs_l01DrawBraid, h1, h2, h3, Option.bind_some, getTV_here, getTV_next, w, h4]
theorem c_spoil (s : Sc) (hs : Src s) : ∃ (b : Int × List Int) (s' : Sc), R is_l01Spoil [tPLU8PIU64 s] = some [tPILI b, tPLU8PIU64 s'] ∧ Src s' ∧ Bd b := by
 obtain ⟨r1, s1, h1, hs1, a1, b1⟩ := c_next s hs 12
 by_cases h0 : r1 = 0
 · have q0 : (r1 == 0) = true := by simp [h0]
   obtain ⟨r2, s2, h2, hs2, m2⟩ := c_pick s1 hs1 [1, 7, 8] (by simp) (by simp)
   simp at m2
   obtain ⟨w3, s3, h3, hs3, l3, n3⟩ := c_draw s2 hs2 r2 40 (by omega) (by omega) (by omega) (by omega)
   obtain ⟨b, s4, h4, hs4, hb⟩ := c_broken s3 hs3 (r2, w3) (Bd.mk' l3 (by omega) (by omega) (by omega)) (by show w3.length ≤ 500; omega)
   refine ⟨b, s4, ?_, hs4, hb⟩
   apply vs_l01Spoil
   simp only [bs_l01Spoil, h1, h2, h3, h4, Option.bind_some, getTV_here, getTV_next, q0, cond_true]
 · have q0 : (r1 == 0) = false := by simp [h0]
   obtain ⟨a, s2, h2, hs2, ha, hl⟩ := c_drawBraid s1 hs1
   obtain ⟨b, s4, h4, hs4, hb⟩ := c_broken s2 hs2 a ha hl
   refine ⟨b, s4, ?_, hs4, hb⟩
   apply vs_l01Spoil
   simp only [bs_l01Spoil, h1, h2, h4, Option.bind_some, getTV_here, getTV_next, q0, cond_false]
def Bytes (a : List Int) : Prop := (∀ x ∈ a, 0 ≤ x ∧ x ≤ 255) ∧ a.length ≤ 4096
theorem fit_bytes {a : List Int} (h : Fit (.slice (.int .u8)) a) : a.length ≤ 9223372036854775807 ∧ ∀ x ∈ a, 0 ≤ x ∧ x ≤ 255 := by
 exact ⟨h.1, fun x hx => wf_u8 (h.2 x hx)⟩
theorem c_big (a : List Int) : R iw_big [tLU8 a] = some [tB (decide (4096 < ((a.length : Nat) : Int)))] := by
 apply vw_big
 simp only [bw_big]
end Go.Ev.Yteclcmiopobnaaa
