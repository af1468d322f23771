/- Draws: the source (for seats without normal forms). -/
import Derived.Test.YteclcmiopobnaaaWa
set_option linter.unusedVariables false
set_option linter.unusedSimpArgs false
namespace Go.Ev.Yteclcmiopobnaaa
open Go.Ev
abbrev Sc := List Int × Int × Int
structure Src (s : Sc) : Prop where
 len : s.1.length ≤ 4096
 by' : ∀ x ∈ s.1, 0 ≤ x ∧ x ≤ 255
 lo : 0 ≤ s.2.1
 hi : s.2.1 ≤ 4096
theorem and_lo (X : Int) : 0 ≤ bitsAnd .u64 X 16777215 ∧ bitsAnd .u64 X 16777215 ≤ 16777215 := by
 unfold bitsAnd
 rw [BitVec.toNat_and]
 show 0 ≤ IntKind.wrap .u64 (((BitVec.ofInt 64 X).toNat &&& (BitVec.ofInt 64 16777215).toNat : Nat) : Int) ∧ IntKind.wrap .u64 (((BitVec.ofInt 64 X).toNat &&& (BitVec.ofInt 64 16777215).toNat : Nat) : Int) ≤ _
 have e : (BitVec.ofInt 64 16777215).toNat = 16777215 := by decide
 rw [e]
 have h : (BitVec.ofInt 64 X).toNat &&& 16777215 ≤ 16777215 := Nat.and_le_right
 rw [show IntKind.wrap .u64 (((BitVec.ofInt 64 X).toNat &&& 16777215 : Nat) : Int) = (((BitVec.ofInt 64 X).toNat &&& 16777215 : Nat) : Int) from wrap_u64 (by omega) (by omega)]
 omega
theorem tmod_lo {a n : Int} (ha : 0 ≤ a) (hn : 1 ≤ n) : 0 ≤ Int.tmod a n ∧ Int.tmod a n < n := by
 rw [Int.tmod_eq_emod_of_nonneg ha]
 exact ⟨Int.emod_nonneg _ (by omega), Int.emod_lt_of_pos _ (by omega)⟩
theorem byte_at {l : List Int} (h : ∀ x ∈ l, 0 ≤ x ∧ x ≤ 255) {i : Nat} (hi : i < l.length) : 0 ≤ List.getD l i 0 ∧ List.getD l i 0 ≤ 255 := by
 rw [getD_at hi]
 exact h _ (List.getElem_mem hi)
theorem c_next (s : Sc) (hs : Src s) (n : Int) : ∃ (r : Int) (s' : Sc), R is_l01Next [tPLU8PIU64 s, tI n] = some [tI r, tPLU8PIU64 s'] ∧ Src s' ∧ 0 ≤ r ∧ (1 ≤ n → r < n) := by
 by_cases h1 : n < 1
 · refine ⟨0, s, ?_, hs, by omega, by omega⟩
   apply vs_l01Next
   have p : decide (n < 1) = true := decide_eq_true h1
   simp only [bs_l01Next, p, cond_true]
 · have p : decide (n < 1) = false := decide_eq_false h1
   have p0 : (n != 0) = true := by simp; omega
   have hl := hs.len
   have ha := hs.lo
   have hh := hs.hi
   by_cases h2 : s.2.1 < (s.1.length : Int)
   · have p1 : decide (s.2.1 < ((s.1.length : Nat) : Int)) = true := decide_eq_true h2
     have p2 : decide (0 ≤ s.2.1) = true := decide_eq_true ha
     have hb := byte_at hs.by' (i := s.2.1.toNat) (by omega)
     have hm := and_lo (shr .u64 (wu64 ((wu64 (s.2.2 * 6364136223846793005)) + 1442695040888963407)) 33)
     generalize hX : bitsAnd .u64 (shr .u64 (wu64 ((wu64 (s.2.2 * 6364136223846793005)) + 1442695040888963407)) 33) 16777215 = X at hm
     generalize hY : List.getD s.1 s.2.1.toNat 0 = Y at hb
     have e1 : wi64 X = X := wrap_i64 (by omega) (by omega)
     have e2 : wi64 Y = Y := wrap_i64 (by omega) (by omega)
     have e3 : wi64 (X + Y) = X + Y := wrap_i64 (by omega) (by omega)
     have e4 : wi64 (s.2.1 + 1) = s.2.1 + 1 := wrap_i64 (by omega) (by omega)
     have t := tmod_lo (a := X + Y) (n := n) (by omega) (by omega)
     refine ⟨Int.tmod (X + Y) n, (s.1, (s.2.1 + 1, wu64 ((wu64 (s.2.2 * 6364136223846793005)) + 1442695040888963407))), ?_, ⟨hs.len, hs.by', by show (0 : Int) ≤ s.2.1 + 1; omega, by show s.2.1 + 1 ≤ (4096 : Int); omega⟩, t.1, fun _ => t.2⟩
     apply vs_l01Next
     simp only [bs_l01Next, p, p0, p1, p2, cond_true, cond_false, Bool.and_true, hX, hY, e1, e2, e3, e4]
   · have p1 : decide (s.2.1 < ((s.1.length : Nat) : Int)) = false := decide_eq_false h2
     have hm := and_lo (shr .u64 (wu64 ((wu64 (s.2.2 * 6364136223846793005)) + 1442695040888963407)) 33)
     generalize hX : bitsAnd .u64 (shr .u64 (wu64 ((wu64 (s.2.2 * 6364136223846793005)) + 1442695040888963407)) 33) 16777215 = X at hm
     have e1 : wi64 X = X := wrap_i64 (by omega) (by omega)
     have t := tmod_lo (a := X) (n := n) (by omega) (by omega)
     refine ⟨Int.tmod X n, (s.1, (s.2.1, wu64 ((wu64 (s.2.2 * 6364136223846793005)) + 1442695040888963407))), ?_, ⟨hs.len, hs.by', ha, hh⟩, t.1, fun _ => t.2⟩
     apply vs_l01Next
     simp only [bs_l01Next, p, p0, p1, cond_true, cond_false, hX, e1]
theorem c_pick (s : Sc) (hs : Src s) (l : List Int) (hl : l ≠ []) (hl' : l.length < 1000) : ∃ (r : Int) (s' : Sc), R is_l01Pick [tPLU8PIU64 s, tLI l] = some [tI r, tPLU8PIU64 s'] ∧ Src s' ∧ r ∈ l := by
 have h0 : 0 < l.length := List.length_pos_iff.2 hl
 obtain ⟨r, s', hr, hs', r0, r1⟩ := c_next s hs ((l.length : Nat) : Int)
 have r2 := r1 (by omega)
 refine ⟨List.getD l r.toNat 0, s', ?_, hs', ?_⟩
 · apply vs_l01Pick
   have p1 : decide (0 ≤ r) = true := decide_eq_true r0
   have p2 : decide (r < ((l.length : Nat) : Int)) = true := decide_eq_true r2
   simp only [bs_l01Pick, hr, Option.bind_some, getTV_here, getTV_next, p1, p2, Bool.and_true, cond_true]
 · rw [getD_at (by omega)]
   exact List.getElem_mem _
theorem c_l01From_3 (a : List Int) (hl : a.length ≤ 4096) : ∀ (d i : Nat) (x : Int), i + d = a.length → ∃ y : Int, R is_l01From_3 [tLU8 a, tI 0, tU64 x, tI (i : Int)] = some [tI 0, tI 0, tU64 y, tLU8 a] := by
 intro d
 induction d with
 | zero =>
  intro i x hi
  refine ⟨x, ?_⟩
  apply vs_l01From_3
  have p1 : decide ((i : Int) < ((a.length : Nat) : Int)) = false := decide_eq_false (by omega)
  simp only [bs_l01From_3, p1, cond_false]
 | succ d ih =>
  intro i x hi
  have p1 : decide ((i : Int) < ((a.length : Nat) : Int)) = true := decide_eq_true (by omega)
  have p2 : decide ((i : Int) < 4096) = true := decide_eq_true (by omega)
  have p3 : decide (0 ≤ (i : Int)) = true := decide_eq_true (by omega)
  have w : wi64 ((i : Int) + 1) = ((i + 1 : Nat) : Int) := by rw [wrap_i64] <;> omega
  obtain ⟨y, hy⟩ := ih (i + 1) (wu64 ((wu64 ((wu64 (x * 1099511628211)) + (wu64 ((List.getD a (Int.toNat (i : Int)) 0))))) + 29)) (by omega)
  refine ⟨y, ?_⟩
  apply vs_l01From_3
  simp only [bs_l01From_3, p1, p2, p3, cond_true, Bool.and_true, w, hy]
theorem c_l01From (a : List Int) (h : ∀ x ∈ a, 0 ≤ x ∧ x ≤ 255) (hl : a.length ≤ 4096) : ∃ s : Sc, R is_l01From [tLU8 a] = some [tPLU8PIU64 s] ∧ Src s := by
 obtain ⟨y, hy⟩ := c_l01From_3 a hl a.length 0 (wu64 (9049 + (wu64 (((a.length : Nat) : Int))))) (by omega)
 refine ⟨(a, (0, y)), ?_, ⟨hl, h, by show (0 : Int) ≤ 0; omega, by show (0 : Int) ≤ 4096; omega⟩⟩
 apply vs_l01From
 simp only [Int.natCast_zero] at hy
 simp only [bs_l01From, hy, Option.bind_some, getTV_here, getTV_next]
def Ld (n : Nat) (w : List Int) : Prop := ∀ x ∈ w, x ≠ 0 ∧ 1 - (n : Int) ≤ x ∧ x ≤ (n : Int) - 1
theorem Ld.snoc {n : Nat} {w : List Int} (h : Ld n w) {x : Int} (hx : x ≠ 0 ∧ 1 - (n : Int) ≤ x ∧ x ≤ (n : Int) - 1) : Ld n (w ++ [x]) := by
 intro y hy
 rcases List.mem_append.1 hy with h' | h'
 · exact h y h'
 · rw [List.mem_singleton.1 h']; exact hx
theorem draw_tail (n : Nat) (hn : n ≤ 100) (k : Nat) (hk : k + 1 ≤ 1000) (kind : Int)
  (ih : ∀ (j : Nat), j ≤ k → ∀ (s : Sc) (out : List Int), Src s → Ld n out → out.length + j ≤ 1000 → ∃ (s' : Sc) (out' : List Int), R is_l01Draw_6 [tI s.2.1, tU64 s.2.2, tLU8 s.1, tLI out, tI (n : Int), tI kind, tI (j : Int)] = some [tI 0, tI s'.2.1, tU64 s'.2.2, tLU8 s'.1, tLI out'] ∧ Src s' ∧ Ld n out' ∧ out'.length ≤ out.length + j)
  (s : Sc) (out : List Int) (hs : Src s) (hw : Ld n out) (hl : out.length + (k + 1) ≤ 1000) (x : Int) (hx : x ≠ 0 ∧ 1 - (n : Int) ≤ x ∧ x ≤ (n : Int) - 1) :
  ∃ (s' : Sc) (out' : List Int), ((R is_l01Next [tPLU8PIU64 s, tI 12]).bind fun o10 =>
    bif ((gI o10 0) == 0) then
     bif decide (1 < ((k + 1 : Nat) : Int)) then
      bif (apOk (out ++ [x]) [(wi64 (0 - x))]) then
       R is_l01Draw_6 [tI (((gPLU8PIU64 o10 1).2).1), tU64 (((gPLU8PIU64 o10 1).2).2), tLU8 ((gPLU8PIU64 o10 1).1), tLI ((out ++ [x]) ++ [(wi64 (0 - x))]), tI (n : Int), tI kind, tI (wi64 ((wi64 (((k + 1 : Nat) : Int) - 1)) - 1))]
      else none
     else
      R is_l01Draw_6 [tI (((gPLU8PIU64 o10 1).2).1), tU64 (((gPLU8PIU64 o10 1).2).2), tLU8 ((gPLU8PIU64 o10 1).1), tLI (out ++ [x]), tI (n : Int), tI kind, tI (wi64 (((k + 1 : Nat) : Int) - 1))]
    else
     R is_l01Draw_6 [tI (((gPLU8PIU64 o10 1).2).1), tU64 (((gPLU8PIU64 o10 1).2).2), tLU8 ((gPLU8PIU64 o10 1).1), tLI (out ++ [x]), tI (n : Int), tI kind, tI (wi64 (((k + 1 : Nat) : Int) - 1))])
   = some [tI 0, tI s'.2.1, tU64 s'.2.2, tLU8 s'.1, tLI out'] ∧ Src s' ∧ Ld n out' ∧ out'.length ≤ out.length + (k + 1) := by
 obtain ⟨r, s1, hr, hs1, r0, r1⟩ := c_next s hs 12
 have w1 : wi64 (((k + 1 : Nat) : Int) - 1) = ((k : Nat) : Int) := by rw [wrap_i64] <;> omega
 have wx : wi64 (0 - x) = -x := by rw [wrap_i64] <;> omega
 have hw1 : Ld n (out ++ [x]) := hw.snoc hx
 have hw2 : Ld n ((out ++ [x]) ++ [-x]) := hw1.snoc (by omega)
 have ap : apOk (out ++ [x]) [-x] = true := apOk2 (by simp; omega)
 simp only [hr, Option.bind_some, getTV_here, getTV_next, w1, wx, ap, cond_true]
 by_cases h0 : r = 0
 · have p0 : (r == 0) = true := by simp [h0]
   by_cases h1 : 1 ≤ k
   · have p1 : decide ((1 : Int) < ((k + 1 : Nat) : Int)) = true := decide_eq_true (by omega)
     have w2 : wi64 ((k : Int) - 1) = ((k - 1 : Nat) : Int) := by rw [wrap_i64] <;> omega
     obtain ⟨s', out', e, a, b, c⟩ := ih (k - 1) (by omega) s1 _ hs1 hw2 (by simp; omega)
     refine ⟨s', out', ?_, a, b, by simp at c; omega⟩
     simp only [p0, p1, cond_true, w2]
     exact e
   · have p1 : decide ((1 : Int) < ((k + 1 : Nat) : Int)) = false := decide_eq_false (by omega)
     obtain ⟨s', out', e, a, b, c⟩ := ih k (by omega) s1 _ hs1 hw1 (by simp; omega)
     refine ⟨s', out', ?_, a, b, by simp at c; omega⟩
     simp only [p0, p1, cond_true, cond_false]
     exact e
 · have p0 : (r == 0) = false := by simp [h0]
   obtain ⟨s', out', e, a, b, c⟩ := ih k (by omega) s1 _ hs1 hw1 (by simp; omega)
   refine ⟨s', out', ?_, a, b, by simp at c; omega⟩
   simp only [p0, cond_false]
   exact e
theorem c_l01Draw_6 (n : Nat) (h2 : 2 ≤ n) (hn : n ≤ 100) (kind : Int) : ∀ (K j : Nat), j ≤ K → K ≤ 1000 → ∀ (s : Sc) (out : List Int), Src s → Ld n out → out.length + j ≤ 1000 → ∃ (s' : Sc) (out' : List Int), R is_l01Draw_6 [tI s.2.1, tU64 s.2.2, tLU8 s.1, tLI out, tI (n : Int), tI kind, tI (j : Int)] = some [tI 0, tI s'.2.1, tU64 s'.2.2, tLU8 s'.1, tLI out'] ∧ Src s' ∧ Ld n out' ∧ out'.length ≤ out.length + j := by
 intro K
 induction K with
 | zero =>
  intro j hj _ s out hs hw hl
  obtain rfl : j = 0 := by omega
  refine ⟨s, out, ?_, hs, hw, by omega⟩
  apply vs_l01Draw_6
  simp [bs_l01Draw_6]
 | succ K ih =>
  intro j hj hK s out hs hw hl
  by_cases hjK : j ≤ K
  · exact ih j hjK (by omega) s out hs hw hl
  obtain rfl : j = K + 1 := by omega
  have p1 : decide ((0 : Int) < ((K + 1 : Nat) : Int)) = true := decide_eq_true (by omega)
  have wn : wi64 ((n : Int) - 1) = ((n - 1 : Nat) : Int) := by rw [wrap_i64] <;> omega
  obtain ⟨r, s1, hr, hs1, r0, r1'⟩ := c_next s hs ((n - 1 : Nat) : Int)
  have r1 := r1' (by omega)
  have wr : wi64 (1 + r) = 1 + r := by rw [wrap_i64] <;> omega
  have wm : wi64 (0 - (1 + r)) = -(1 + r) := by rw [wrap_i64] <;> omega
  have T := draw_tail n hn K (by omega) kind (fun j hj s out a b c => ih j hj (by omega) s out a b c)
  have apn : apOk out [-(1 + r)] = true := apOk2 (by simp; omega)
  have app : apOk out [1 + r] = true := apOk2 (by simp; omega)
  by_cases k1 : kind = 1
  · obtain ⟨s', out', e, a, b, c⟩ := T s1 out hs1 hw hl (-(1 + r)) (by omega)
    refine ⟨s', out', ?_, a, b, c⟩
    apply vs_l01Draw_6
    have q : (kind == 1) = true := by simp [k1]
    simp only [bs_l01Draw_6, p1, cond_true, wn, hr, Option.bind_some, getTV_here, getTV_next, q, wr, wm, apn]
    exact e
  · have q : (kind == 1) = false := by simp [k1]
    by_cases k2 : 1 < kind
    · have q2 : decide (1 < kind) = true := decide_eq_true k2
      obtain ⟨t, s2, ht, hs2, t0, t1⟩ := c_next s1 hs1 2
      by_cases h0 : t = 0
      · have p0 : (t == 0) = true := by simp [h0]
        obtain ⟨s', out', e, a, b, c⟩ := T s2 out hs2 hw hl (-(1 + r)) (by omega)
        refine ⟨s', out', ?_, a, b, c⟩
        apply vs_l01Draw_6
        simp only [bs_l01Draw_6, p1, cond_true, cond_false, wn, hr, ht, Option.bind_some, getTV_here, getTV_next, q, q2, p0, wr, wm, apn]
        exact e
      · have p0 : (t == 0) = false := by simp [h0]
        obtain ⟨s', out', e, a, b, c⟩ := T s2 out hs2 hw hl (1 + r) (by omega)
        refine ⟨s', out', ?_, a, b, c⟩
        apply vs_l01Draw_6
        simp only [bs_l01Draw_6, p1, cond_true, cond_false, wn, hr, ht, Option.bind_some, getTV_here, getTV_next, q, q2, p0, wr, app]
        exact e
    · have q2 : decide (1 < kind) = false := decide_eq_false k2
      obtain ⟨s', out', e, a, b, c⟩ := T s1 out hs1 hw hl (1 + r) (by omega)
      refine ⟨s', out', ?_, a, b, c⟩
      apply vs_l01Draw_6
      simp only [bs_l01Draw_6, p1, cond_true, cond_false, wn, hr, Option.bind_some, getTV_here, getTV_next, q, q2, wr, app]
      exact e
theorem c_draw (s : Sc) (hs : Src s) (n most : Int) (hn0 : -1000 ≤ n) (hn : n ≤ 100) (hm0 : 0 ≤ most) (hm : most ≤ 500) : ∃ (w : List Int) (s' : Sc), R is_l01Draw [tPLU8PIU64 s, tI n, tI most] = some [tLI w, tPLU8PIU64 s'] ∧ Src s' ∧ Ld n.toNat w ∧ (w.length : Int) ≤ most := by
 by_cases h1 : n < 2
 · refine ⟨[], s, ?_, hs, fun x hx => by simp at hx, by simpa using hm0⟩
   apply vs_l01Draw
   have p : decide (n < 2) = true := decide_eq_true h1
   simp only [bs_l01Draw, p, cond_true]
 · have p : decide (n < 2) = false := decide_eq_false h1
   obtain ⟨k, s1, hk, hs1, k0, k1⟩ := c_next s hs 4
   have wm : wi64 (most + 1) = most + 1 := by rw [wrap_i64] <;> omega
   obtain ⟨l, s2, hl, hs2, l0, l1'⟩ := c_next s1 hs1 (most + 1)
   have l1 := l1' (by omega)
   obtain ⟨s', w, e, a, b, c⟩ := c_l01Draw_6 n.toNat (by omega) (by omega) k l.toNat l.toNat (Nat.le_refl _) (by omega) s2 [] hs2 (fun x hx => by simp at hx) (by simp; omega)
   rw [show ((n.toNat : Nat) : Int) = n by omega, show ((l.toNat : Nat) : Int) = l by omega] at e
   refine ⟨w, s', ?_, a, b, by simp at c; omega⟩
   apply vs_l01Draw
   simp only [bs_l01Draw, p, cond_false, hk, wm, hl, Option.bind_some, getTV_here, getTV_next, e]
end Go.Ev.Yteclcmiopobnaaa
