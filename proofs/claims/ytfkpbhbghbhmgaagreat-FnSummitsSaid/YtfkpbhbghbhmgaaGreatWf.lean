/- Texts merged: Md1 Md2 Md3 Mw1 Mw3 MwN Md4. -/
import Derived.Test.YtfkpbhbghbhmgaaGreatWc
import Derived.Test.YtfkpbhbghbhmgaaGreatWd
set_option linter.unusedVariables false
set_option linter.unusedSimpArgs false
namespace Go.Ev.YtfkpbhbghbhmgaaGreat
open Go.Ev Go.Gar
abbrev Sc := List Int × Int × Int
structure Src (s : Sc) : Prop where
 len : s.1.length ≤ 4096
 by' : ∀ x ∈ s.1, 0 ≤ x ∧ x ≤ 255
 lo : 0 ≤ s.2.1
 hi : s.2.1 ≤ 4096
theorem and_lo (X : Int) : 0 ≤ bitsAnd .u64 X 16777215 ∧ bitsAnd .u64 X 16777215 ≤ 16777215 := by
 unfold bitsAnd; rw [BitVec.toNat_and]; show 0 ≤ IntKind.wrap .u64 (((BitVec.ofInt 64 X).toNat &&& (BitVec.ofInt 64 16777215).toNat : Nat) : Int) ∧ IntKind.wrap .u64 (((BitVec.ofInt 64 X).toNat &&& (BitVec.ofInt 64 16777215).toNat : Nat) : Int) ≤ _; have e : (BitVec.ofInt 64 16777215).toNat = 16777215 := by decide
 rw [e]; have h : (BitVec.ofInt 64 X).toNat &&& 16777215 ≤ 16777215 := Nat.and_le_right; rw [show IntKind.wrap .u64 (((BitVec.ofInt 64 X).toNat &&& 16777215 : Nat) : Int) = (((BitVec.ofInt 64 X).toNat &&& 16777215 : Nat) : Int) from wrap_u64 (by omega) (by omega)]; omega
theorem tmod_lo {a n : Int} (ha : 0 ≤ a) (hn : 1 ≤ n) : 0 ≤ Int.tmod a n ∧ Int.tmod a n < n := by
 rw [Int.tmod_eq_emod_of_nonneg ha]; exact ⟨Int.emod_nonneg _ (by omega), Int.emod_lt_of_pos _ (by omega)⟩
theorem byte_at {l : List Int} (h : ∀ x ∈ l, 0 ≤ x ∧ x ≤ 255) {i : Nat} (hi : i < l.length) : 0 ≤ List.getD l i 0 ∧ List.getD l i 0 ≤ 255 := by
 rw [getD_at hi]; exact h _ (List.getElem_mem hi)
theorem c_next (s : Sc) (hs : Src s) (n : Int) : ∃ (r : Int) (s' : Sc), R is_l01Next [tPLU8PIU64 s, tI n] = some [tI r, tPLU8PIU64 s'] ∧ Src s' ∧ 0 ≤ r ∧ (1 ≤ n → r < n) := by
 by_cases h1 : n < 1
 · refine ⟨0, s, ?_, hs, by omega, by omega⟩; apply vs_l01Next; have p : decide (n < 1) = true := decide_eq_true h1; simp only [bs_l01Next, p, cond_true]
 · have p : decide (n < 1) = false := decide_eq_false h1; have p0 : (n != 0) = true := by simp; omega
   have hl := hs.len; have ha := hs.lo; have hh := hs.hi
   by_cases h2 : s.2.1 < (s.1.length : Int)
   · have p1 : decide (s.2.1 < ((s.1.length : Nat) : Int)) = true := decide_eq_true h2; have p2 : decide (0 ≤ s.2.1) = true := decide_eq_true ha; have hb := byte_at hs.by' (i := s.2.1.toNat) (by omega); have hm := and_lo (shr .u64 (wu64 ((wu64 (s.2.2 * 6364136223846793005)) + 1442695040888963407)) 33); generalize hX : bitsAnd .u64 (shr .u64 (wu64 ((wu64 (s.2.2 * 6364136223846793005)) + 1442695040888963407)) 33) 16777215 = X at hm; generalize hY : List.getD s.1 s.2.1.toNat 0 = Y at hb; have e1 : wi64 X = X := wrap_i64 (by omega) (by omega); have e2 : wi64 Y = Y := wrap_i64 (by omega) (by omega); have e3 : wi64 (X + Y) = X + Y := wrap_i64 (by omega) (by omega); have e4 : wi64 (s.2.1 + 1) = s.2.1 + 1 := wrap_i64 (by omega) (by omega); have t := tmod_lo (a := X + Y) (n := n) (by omega) (by omega); refine ⟨Int.tmod (X + Y) n, (s.1, (s.2.1 + 1, wu64 ((wu64 (s.2.2 * 6364136223846793005)) + 1442695040888963407))), ?_, ⟨hs.len, hs.by', by show (0 : Int) ≤ s.2.1 + 1; omega, by show s.2.1 + 1 ≤ (4096 : Int); omega⟩, t.1, fun _ => t.2⟩; apply vs_l01Next; simp only [bs_l01Next, p, p0, p1, p2, cond_true, cond_false, Bool.and_true, hX, hY, e1, e2, e3, e4]
   · have p1 : decide (s.2.1 < ((s.1.length : Nat) : Int)) = false := decide_eq_false h2; have hm := and_lo (shr .u64 (wu64 ((wu64 (s.2.2 * 6364136223846793005)) + 1442695040888963407)) 33); generalize hX : bitsAnd .u64 (shr .u64 (wu64 ((wu64 (s.2.2 * 6364136223846793005)) + 1442695040888963407)) 33) 16777215 = X at hm; have e1 : wi64 X = X := wrap_i64 (by omega) (by omega); have t := tmod_lo (a := X) (n := n) (by omega) (by omega); refine ⟨Int.tmod X n, (s.1, (s.2.1, wu64 ((wu64 (s.2.2 * 6364136223846793005)) + 1442695040888963407))), ?_, ⟨hs.len, hs.by', ha, hh⟩, t.1, fun _ => t.2⟩; apply vs_l01Next; simp only [bs_l01Next, p, p0, p1, cond_true, cond_false, hX, e1]
theorem c_pick (s : Sc) (hs : Src s) (l : List Int) (hl : l ≠ []) (hl' : l.length < 1000) : ∃ (r : Int) (s' : Sc), R is_l01Pick [tPLU8PIU64 s, tLI l] = some [tI r, tPLU8PIU64 s'] ∧ Src s' ∧ r ∈ l := by
 have h0 : 0 < l.length := List.length_pos_iff.2 hl; obtain ⟨r, s', hr, hs', r0, r1⟩ := c_next s hs ((l.length : Nat) : Int); have r2 := r1 (by omega)
 refine ⟨List.getD l r.toNat 0, s', ?_, hs', ?_⟩
 · apply vs_l01Pick; have p1 : decide (0 ≤ r) = true := decide_eq_true r0; have p2 : decide (r < ((l.length : Nat) : Int)) = true := decide_eq_true r2; simp only [bs_l01Pick, hr, Option.bind_some, getTV_here, getTV_next, p1, p2, Bool.and_true, cond_true]
 · rw [getD_at (by omega)]; exact List.getElem_mem _
theorem c_l01From_3 (a : List Int) (hl : a.length ≤ 4096) : ∀ (d i : Nat) (x : Int), i + d = a.length → ∃ y : Int, R is_l01From_3 [tLU8 a, tI 0, tU64 x, tI (i : Int)] = some [tI 0, tI 0, tU64 y, tLU8 a] := by
 intro d
 induction d with
 | zero =>
  intro i x hi; refine ⟨x, ?_⟩; apply vs_l01From_3; have p1 : decide ((i : Int) < ((a.length : Nat) : Int)) = false := decide_eq_false (by omega); simp only [bs_l01From_3, p1, cond_false]
 | succ d ih =>
  intro i x hi; have p1 : decide ((i : Int) < ((a.length : Nat) : Int)) = true := decide_eq_true (by omega); have p2 : decide ((i : Int) < 4096) = true := decide_eq_true (by omega); have p3 : decide (0 ≤ (i : Int)) = true := decide_eq_true (by omega); have w : wi64 ((i : Int) + 1) = ((i + 1 : Nat) : Int) := by rw [wrap_i64] <;> omega
  obtain ⟨y, hy⟩ := ih (i + 1) (wu64 ((wu64 ((wu64 (x * 1099511628211)) + (wu64 ((List.getD a (Int.toNat (i : Int)) 0))))) + 29)) (by omega); refine ⟨y, ?_⟩; apply vs_l01From_3; simp only [bs_l01From_3, p1, p2, p3, cond_true, Bool.and_true, w, hy]
theorem c_l01From (a : List Int) (h : ∀ x ∈ a, 0 ≤ x ∧ x ≤ 255) (hl : a.length ≤ 4096) : ∃ s : Sc, R is_l01From [tLU8 a] = some [tPLU8PIU64 s] ∧ Src s := by
 obtain ⟨y, hy⟩ := c_l01From_3 a hl a.length 0 (wu64 (9049 + (wu64 (((a.length : Nat) : Int))))) (by omega); refine ⟨(a, (0, y)), ?_, ⟨hl, h, by show (0 : Int) ≤ 0; omega, by show (0 : Int) ≤ 4096; omega⟩⟩; apply vs_l01From; simp only [Int.natCast_zero] at hy; simp only [bs_l01From, hy, Option.bind_some, getTV_here, getTV_next]
theorem Lw.snoc {n : Nat} {w : List Int} (h : Lw n w) {x : Int} (hx : x ≠ 0 ∧ 1 - (n : Int) ≤ x ∧ x ≤ (n : Int) - 1) : Lw n (w ++ [x]) := by
 intro y hy
 rcases List.mem_append.1 hy with h' | h'
 · exact h y h'
 · rw [List.mem_singleton.1 h']; exact hx
theorem draw_tail (n : Nat) (hn : n ≤ 100) (k : Nat) (hk : k + 1 ≤ 1000) (kind : Int)
  (ih : ∀ (j : Nat), j ≤ k → ∀ (s : Sc) (out : List Int), Src s → Lw n out → out.length + j ≤ 1000 → ∃ (s' : Sc) (out' : List Int), R is_l01Draw_6 [tI s.2.1, tU64 s.2.2, tLU8 s.1, tLI out, tI (n : Int), tI kind, tI (j : Int)] = some [tI 0, tI s'.2.1, tU64 s'.2.2, tLU8 s'.1, tLI out'] ∧ Src s' ∧ Lw n out' ∧ out'.length ≤ out.length + j)
  (s : Sc) (out : List Int) (hs : Src s) (hw : Lw n out) (hl : out.length + (k + 1) ≤ 1000) (x : Int) (hx : x ≠ 0 ∧ 1 - (n : Int) ≤ x ∧ x ≤ (n : Int) - 1) :
  ∃ (s' : Sc) (out' : List Int), ((R is_l01Next [tPLU8PIU64 s, tI 12]).bind fun o10 =>
    bif ((gI o10 0) == 0) then
     bif decide (1 < ((k + 1 : Nat) : Int)) then
      bif (apOk (out ++ [x]) [(wi64 (0 - x))]) then
       R is_l01Draw_6 [tI (((gPLU8PIU64 o10 1).2).1), tU64 (((gPLU8PIU64 o10 1).2).2), tLU8 ((gPLU8PIU64 o10 1).1), tLI ((out ++ [x]) ++ [(wi64 (0 - x))]), tI (n : Int), tI kind, tI (wi64 ((wi64 (((k + 1 : Nat) : Int) - 1)) - 1))]
      else none
     else
      R is_l01Draw_6 [tI (((gPLU8PIU64 o10 1).2).1), tU64 (((gPLU8PIU64 o10 1).2).2), tLU8 ((gPLU8PIU64 o10 1).1), tLI (out ++ [x]), tI (n : Int), tI kind, tI (wi64 (((k + 1 : Nat) : Int) - 1))]
    else
     R is_l01Draw_6 [tI (((gPLU8PIU64 o10 1).2).1), tU64 (((gPLU8PIU64 o10 1).2).2), tLU8 ((gPLU8PIU64 o10 1).1), tLI (out ++ [x]), tI (n : Int), tI kind, tI (wi64 (((k + 1 : Nat) : Int) - 1))])
   = some [tI 0, tI s'.2.1, tU64 s'.2.2, tLU8 s'.1, tLI out'] ∧ Src s' ∧ Lw n out' ∧ out'.length ≤ out.length + (k + 1) := by
 obtain ⟨r, s1, hr, hs1, r0, r1⟩ := c_next s hs 12; have w1 : wi64 (((k + 1 : Nat) : Int) - 1) = ((k : Nat) : Int) := by rw [wrap_i64] <;> omega
 have wx : wi64 (0 - x) = -x := by rw [wrap_i64] <;> omega
 have hw1 : Lw n (out ++ [x]) := hw.snoc hx; have hw2 : Lw n ((out ++ [x]) ++ [-x]) := hw1.snoc (by omega); have ap : apOk (out ++ [x]) [-x] = true := apOk2 (by simp; omega); simp only [hr, Option.bind_some, getTV_here, getTV_next, w1, wx, ap, cond_true]
 by_cases h0 : r = 0
 · have p0 : (r == 0) = true := by simp [h0]
   by_cases h1 : 1 ≤ k
   · have p1 : decide ((1 : Int) < ((k + 1 : Nat) : Int)) = true := decide_eq_true (by omega); have w2 : wi64 ((k : Int) - 1) = ((k - 1 : Nat) : Int) := by rw [wrap_i64] <;> omega
     obtain ⟨s', out', e, a, b, c⟩ := ih (k - 1) (by omega) s1 _ hs1 hw2 (by simp; omega); refine ⟨s', out', ?_, a, b, by simp at c; omega⟩; simp only [p0, p1, cond_true, w2]; exact e
   · have p1 : decide ((1 : Int) < ((k + 1 : Nat) : Int)) = false := decide_eq_false (by omega); obtain ⟨s', out', e, a, b, c⟩ := ih k (by omega) s1 _ hs1 hw1 (by simp; omega); refine ⟨s', out', ?_, a, b, by simp at c; omega⟩; simp only [p0, p1, cond_true, cond_false]; exact e
 · have p0 : (r == 0) = false := by simp [h0]
   obtain ⟨s', out', e, a, b, c⟩ := ih k (by omega) s1 _ hs1 hw1 (by simp; omega); refine ⟨s', out', ?_, a, b, by simp at c; omega⟩; simp only [p0, cond_false]; exact e
theorem c_l01Draw_6 (n : Nat) (h2 : 2 ≤ n) (hn : n ≤ 100) (kind : Int) : ∀ (K j : Nat), j ≤ K → K ≤ 1000 → ∀ (s : Sc) (out : List Int), Src s → Lw n out → out.length + j ≤ 1000 → ∃ (s' : Sc) (out' : List Int), R is_l01Draw_6 [tI s.2.1, tU64 s.2.2, tLU8 s.1, tLI out, tI (n : Int), tI kind, tI (j : Int)] = some [tI 0, tI s'.2.1, tU64 s'.2.2, tLU8 s'.1, tLI out'] ∧ Src s' ∧ Lw n out' ∧ out'.length ≤ out.length + j := by
 intro K
 induction K with
 | zero =>
  intro j hj _ s out hs hw hl; obtain rfl : j = 0 := by omega
  refine ⟨s, out, ?_, hs, hw, by omega⟩; apply vs_l01Draw_6; simp [bs_l01Draw_6]
 | succ K ih =>
  intro j hj hK s out hs hw hl
  by_cases hjK : j ≤ K
  · exact ih j hjK (by omega) s out hs hw hl
  obtain rfl : j = K + 1 := by omega
  have p1 : decide ((0 : Int) < ((K + 1 : Nat) : Int)) = true := decide_eq_true (by omega); have wn : wi64 ((n : Int) - 1) = ((n - 1 : Nat) : Int) := by rw [wrap_i64] <;> omega
  obtain ⟨r, s1, hr, hs1, r0, r1'⟩ := c_next s hs ((n - 1 : Nat) : Int); have r1 := r1' (by omega); have wr : wi64 (1 + r) = 1 + r := by rw [wrap_i64] <;> omega
  have wm : wi64 (0 - (1 + r)) = -(1 + r) := by rw [wrap_i64] <;> omega
  have T := draw_tail n hn K (by omega) kind (fun j hj s out a b c => ih j hj (by omega) s out a b c); have apn : apOk out [-(1 + r)] = true := apOk2 (by simp; omega); have app : apOk out [1 + r] = true := apOk2 (by simp; omega)
  by_cases k1 : kind = 1
  · obtain ⟨s', out', e, a, b, c⟩ := T s1 out hs1 hw hl (-(1 + r)) (by omega); refine ⟨s', out', ?_, a, b, c⟩; apply vs_l01Draw_6; have q : (kind == 1) = true := by simp [k1]
    simp only [bs_l01Draw_6, p1, cond_true, wn, hr, Option.bind_some, getTV_here, getTV_next, q, wr, wm, apn]; exact e
  · have q : (kind == 1) = false := by simp [k1]
    by_cases k2 : 1 < kind
    · have q2 : decide (1 < kind) = true := decide_eq_true k2; obtain ⟨t, s2, ht, hs2, t0, t1⟩ := c_next s1 hs1 2
      by_cases h0 : t = 0
      · have p0 : (t == 0) = true := by simp [h0]
        obtain ⟨s', out', e, a, b, c⟩ := T s2 out hs2 hw hl (-(1 + r)) (by omega); refine ⟨s', out', ?_, a, b, c⟩; apply vs_l01Draw_6; simp only [bs_l01Draw_6, p1, cond_true, cond_false, wn, hr, ht, Option.bind_some, getTV_here, getTV_next, q, q2, p0, wr, wm, apn]; exact e
      · have p0 : (t == 0) = false := by simp [h0]
        obtain ⟨s', out', e, a, b, c⟩ := T s2 out hs2 hw hl (1 + r) (by omega); refine ⟨s', out', ?_, a, b, c⟩; apply vs_l01Draw_6; simp only [bs_l01Draw_6, p1, cond_true, cond_false, wn, hr, ht, Option.bind_some, getTV_here, getTV_next, q, q2, p0, wr, app]; exact e
    · have q2 : decide (1 < kind) = false := decide_eq_false k2; obtain ⟨s', out', e, a, b, c⟩ := T s1 out hs1 hw hl (1 + r) (by omega); refine ⟨s', out', ?_, a, b, c⟩; apply vs_l01Draw_6; simp only [bs_l01Draw_6, p1, cond_true, cond_false, wn, hr, Option.bind_some, getTV_here, getTV_next, q, q2, wr, app]; exact e
theorem c_draw (s : Sc) (hs : Src s) (n most : Int) (hn0 : -1000 ≤ n) (hn : n ≤ 100) (hm0 : 0 ≤ most) (hm : most ≤ 500) : ∃ (w : List Int) (s' : Sc), R is_l01Draw [tPLU8PIU64 s, tI n, tI most] = some [tLI w, tPLU8PIU64 s'] ∧ Src s' ∧ Lw n.toNat w ∧ (w.length : Int) ≤ most := by
 by_cases h1 : n < 2
 · refine ⟨[], s, ?_, hs, fun x hx => by simp at hx, by simpa using hm0⟩; apply vs_l01Draw; have p : decide (n < 2) = true := decide_eq_true h1; simp only [bs_l01Draw, p, cond_true]
 · have p : decide (n < 2) = false := decide_eq_false h1; obtain ⟨k, s1, hk, hs1, k0, k1⟩ := c_next s hs 4; have wm : wi64 (most + 1) = most + 1 := by rw [wrap_i64] <;> omega
   obtain ⟨l, s2, hl, hs2, l0, l1'⟩ := c_next s1 hs1 (most + 1); have l1 := l1' (by omega); obtain ⟨s', w, e, a, b, c⟩ := c_l01Draw_6 n.toNat (by omega) (by omega) k l.toNat l.toNat (Nat.le_refl _) (by omega) s2 [] hs2 (fun x hx => by simp at hx) (by simp; omega); rw [show ((n.toNat : Nat) : Int) = n by omega, show ((l.toNat : Nat) : Int) = l by omega] at e; refine ⟨w, s', ?_, a, b, by simp at c; omega⟩; apply vs_l01Draw; simp only [bs_l01Draw, p, cond_false, hk, wm, hl, Option.bind_some, getTV_here, getTV_next, e]
end Go.Ev.YtfkpbhbghbhmgaaGreat
namespace Go.Ev.YtfkpbhbghbhmgaaGreat
open Go.Ev Go.Gar
theorem c_normal9_4 (x0 x1 x3 x4 : Int) (a b : List (List Int)) (h0 : a.length < 1000000000) (h1 : b.length = a.length) : ∀ (d i : Nat), i + d = a.length → R iw_normal9_4 [tI x0, tI x1, tLA8 a, tI x3, tI x4, tLA8 b, tI (i : Int)] = some (if a.drop i = b.drop i then [tI 0] else [tI 1, tB false]) := by
 intro d
 induction d with
 | zero =>
  intro i hi; apply vw_normal9_4; have p1 : decide ((i : Int) < ((a.length : Nat) : Int)) = false := decide_eq_false (by omega); rw [List.drop_eq_nil_of_le (by omega), List.drop_eq_nil_of_le (by omega)]; simp only [bw_normal9_4, p1, cond_false, if_true]
 | succ d ih =>
  intro i hi; apply vw_normal9_4; have p1 : decide ((i : Int) < ((a.length : Nat) : Int)) = true := decide_eq_true (by omega); have p2 : decide ((i : Int) < ((b.length : Nat) : Int)) = true := decide_eq_true (by omega); have p3 : decide (0 ≤ (i : Int)) = true := decide_eq_true (by omega); have w : wi64 ((i : Int) + 1) = ((i + 1 : Nat) : Int) := by rw [wrap_i64] <;> omega
  simp only [bw_normal9_4, p1, p2, p3, cond_true, Bool.and_true, w, Int.toNat_natCast, getD8 (show i < a.length by omega), getD8 (show i < b.length by omega), bne_l, ih (i + 1) (by omega)]; have da : a.drop i = a[i]'(by omega) :: a.drop (i + 1) := List.drop_eq_getElem_cons _; have db : b.drop i = b[i]'(by omega) :: b.drop (i + 1) := List.drop_eq_getElem_cons _; rw [da, db]; simp only [List.cons.injEq]
  by_cases h : a[i] = b[i]
  · simp [h]
  · simp [h]
theorem c_normal9 (a b : Int × Int × List (List Int)) (h0 : a.2.2.length < 1000000000) : R iw_normal9 [tPIPILA8 a, tPIPILA8 b] = some [tB (decide (a = b))] := by
 obtain ⟨a1, a2, a3⟩ := a; obtain ⟨b1, b2, b3⟩ := b; simp only at h0; apply vw_normal9
 by_cases h1 : a1 = b1
 · by_cases h2 : a2 = b2
   · by_cases h3 : a3.length = b3.length
     · have h := c_normal9_4 a1 a2 b1 b2 a3 b3 h0 h3.symm a3.length 0 (by omega); simp only [Int.natCast_zero, List.drop_zero] at h; have q1 : (a1 != b1) = false := by simp [h1]
       have q2 : (a2 != b2) = false := by simp [h2]
       have q3 : (((a3.length : Nat) : Int) != ((b3.length : Nat) : Int)) = false := by simp [h3]
       simp only [bw_normal9, q1, q2, q3, cond_false, h, Option.bind_some]
       by_cases e : a3 = b3
       · simp [e, h1, h2]
       · simp [e]
     · have e : ¬ a3 = b3 := fun e => h3 (by rw [e])
       have q3 : ¬ ((a3.length : Nat) : Int) = ((b3.length : Nat) : Int) := by omega
       simp [bw_normal9, h1, h2, bne_dec, q3, e]
   · simp [bw_normal9, h1, bne_dec, h2]
 · simp [bw_normal9, bne_dec, h1]
theorem c_likeInts_4 (a b : List Int) (h0 : a.length < 1000000000) (h1 : b.length = a.length) : ∀ (d i : Nat), i + d = a.length → R iw_likeInts_4 [tLI a, tLI b, tI (i : Int)] = some (if a.drop i = b.drop i then [tI 0] else [tI 1, tB false]) := by
 intro d
 induction d with
 | zero =>
  intro i hi; apply vw_likeInts_4; have p1 : decide ((i : Int) < ((a.length : Nat) : Int)) = false := decide_eq_false (by omega); rw [List.drop_eq_nil_of_le (by omega), List.drop_eq_nil_of_le (by omega)]; simp only [bw_likeInts_4, p1, cond_false, if_true]
 | succ d ih =>
  intro i hi; apply vw_likeInts_4; have p1 : decide ((i : Int) < ((a.length : Nat) : Int)) = true := decide_eq_true (by omega); have p2 : decide ((i : Int) < ((b.length : Nat) : Int)) = true := decide_eq_true (by omega); have p3 : decide (0 ≤ (i : Int)) = true := decide_eq_true (by omega); have w : wi64 ((i : Int) + 1) = ((i + 1 : Nat) : Int) := by rw [wrap_i64] <;> omega
  simp only [bw_likeInts_4, p1, p2, p3, cond_true, Bool.and_true, w, Int.toNat_natCast, getD_at (show i < a.length by omega), getD_at (show i < b.length by omega), bne_dec, ih (i + 1) (by omega)]; have da : a.drop i = a[i]'(by omega) :: a.drop (i + 1) := List.drop_eq_getElem_cons _; have db : b.drop i = b[i]'(by omega) :: b.drop (i + 1) := List.drop_eq_getElem_cons _; rw [da, db]; simp only [List.cons.injEq]
  by_cases h : a[i] = b[i]
  · simp [h]
  · simp [h]
theorem c_likeInts (a b : List Int) (h0 : a.length < 1000000000) : R iw_likeInts [tLI a, tLI b] = some [tB (decide (a = b))] := by
 apply vw_likeInts
 by_cases h3 : a.length = b.length
 · have h := c_likeInts_4 a b h0 h3.symm a.length 0 (by omega); simp only [Int.natCast_zero, List.drop_zero] at h; have q3 : (((a.length : Nat) : Int) != ((b.length : Nat) : Int)) = false := by simp [h3]
   simp only [bw_likeInts, q3, cond_false, h, Option.bind_some]
   by_cases e : a = b
   · simp [e]
   · simp [e]
 · have e : ¬ a = b := fun e => h3 (by rw [e])
   have q3 : ¬ ((a.length : Nat) : Int) = ((b.length : Nat) : Int) := by omega
   simp [bw_likeInts, bne_dec, q3, e]
theorem nOf_len {n : Nat} (h1 : 1 ≤ n) (w : List Int) (hw : Lw n w) : (nOf n w).2.length ≤ w.length ∧ -(w.length : Int) ≤ (nOf n w).1 ∧ (nOf n w).1 ≤ w.length := by
 by_cases h2 : 2 ≤ n
 · have := foldN_ok h2 w (OkJ.zero n); rw [Nat.zero_add] at this; exact ⟨this.len, this.lo, by have := this.hi; show (List.foldl stepN (0, []) w).1 ≤ _; omega⟩
 · obtain rfl : n = 1 := by omega
   rw [Lw_one hw]; simp [nOf]
structure Nd (a : Int × Int × List (List Int)) : Prop where
 rows : Rows8 a.2.2
 len : a.2.2.length ≤ 100
 lo : -1000 ≤ a.2.1
 hi : a.2.1 ≤ 1000
 n0 : 1 ≤ a.1
 n8 : a.1 ≤ 8
theorem c_l03Draw (s : Sc) (hs : Src s) (n : Int) (h1 : 1 ≤ n) (hn : n ≤ 8) : ∃ (b : Int × Int × List (List Int)) (s' : Sc), R is_l03Draw [tPLU8PIU64 s, tI n] = some [tPIPILA8 b, tPLU8PIU64 s'] ∧ Src s' ∧ Nd b ∧ b.2.2.length ≤ 14 ∧ b.1 = n := by
 obtain ⟨w, s1, h, hs1, hw, hl⟩ := c_draw s hs n 14 (by omega) (by omega) (by omega) (by omega); have h' := c_l03Of n.toNat (by omega) (by omega) w hw (by omega); rw [show ((n.toNat : Nat) : Int) = n by omega] at h'; have hb := nOf_len (show 1 ≤ n.toNat by omega) w hw
 refine ⟨enc (nOf n.toNat w), s1, ?_, hs1, ⟨sL_rows (by omega) _, ?_, ?_, ?_, ?_, ?_⟩, ?_, ?_⟩
 · apply vs_l03Draw; simp only [bs_l03Draw, h, h', Option.bind_some, getTV_here, getTV_next]
 · simp only [enc, sL_len]; omega
 · simp only [enc]; omega
 · simp only [enc]; omega
 · simp only [enc]; omega
 · simp only [enc]; omega
 · simp only [enc, sL_len]; omega
 · simp only [enc]; omega
theorem rows_app {A B : List (List Int)} (h : Rows8 A) (h' : Rows8 B) : Rows8 (A ++ B) := fun x hx => by
 rcases List.mem_append.1 hx with q | q
 · exact h x q
 · exact h' x q
theorem rows_one {n : Nat} (hn : n ≤ 8) (s : Pm n) : Rows8 [sA s] := fun x hx => by
 have := sL_rows hn [s]; exact this x (by simpa [sL] using hx)
theorem c_l03Some (s : Sc) (hs : Src s) : ∃ (b : Int × Int × List (List Int)) (s' : Sc), R is_l03Some [tPLU8PIU64 s] = some [tPIPILA8 b, tPLU8PIU64 s'] ∧ Src s' ∧ Nd b := by
 obtain ⟨n, s1, h1, hs1, m1⟩ := c_pick s hs [1, 2, 3, 3, 4, 4, 5, 6] (by simp) (by simp); have n1 : 1 ≤ n ∧ n ≤ 6 := by simp at m1; omega
 clear m1; obtain ⟨b, s2, h2, hs2, hb, hl, rfl⟩ := c_l03Draw s1 hs1 n (by omega) (by omega); obtain ⟨r, s3, h3, hs3, r0, r1⟩ := c_next s2 hs2 40; obtain ⟨m, hm⟩ : ∃ m : Nat, b.1 = (m : Int) := ⟨b.1.toNat, by omega⟩
 by_cases q0 : r = 0
 · have p0 : (r == 0) = true := by simp [q0]
   obtain ⟨x, s4, h4, hs4, m4⟩ := c_pick s3 hs3 [201, (-201), 200] (by simp) (by simp); simp at m4; refine ⟨(b.1, x, b.2.2), s4, ?_, hs4, ⟨hb.rows, hb.len, by show -1000 ≤ x; omega, by show x ≤ 1000; omega, hb.n0, hb.n8⟩⟩; apply vs_l03Some; simp only [bs_l03Some, h1, h2, h3, h4, Option.bind_some, getTV_here, getTV_next, p0, cond_true]
 have p0 : (r == 0) = false := by simp [q0]
 by_cases q1 : r = 1
 · have p1 : (r == 1) = true := by simp [q1]
   have c := c_l02Same m (by omega); rw [← hm] at c; have ap : apOk b.2.2 [sA (1 : Pm m)] = true := apOk1 (by omega); refine ⟨(b.1, b.2.1, b.2.2 ++ [sA (1 : Pm m)]), s3, ?_, hs3, ⟨rows_app hb.rows (rows_one (by omega) _), by show (b.2.2 ++ [sA (1 : Pm m)]).length ≤ 100; simp; omega, hb.lo, hb.hi, hb.n0, hb.n8⟩⟩; apply vs_l03Some; simp only [bs_l03Some, h1, h2, h3, c, Option.bind_some, getTV_here, getTV_next, p0, p1, cond_true, cond_false, ap]
 have p1 : (r == 1) = false := by simp [q1]
 by_cases q2 : r = 2
 · have p2 : (r == 2) = true := by simp [q2]
   have c := c_l02Half m (by omega); rw [← hm] at c; have ap : apOk [sA (Pm.half m)] b.2.2 = true := apOk2 (by simp; omega); refine ⟨(b.1, b.2.1, [sA (Pm.half m)] ++ b.2.2), s3, ?_, hs3, ⟨rows_app (rows_one (by omega) _) hb.rows, by show ([sA (Pm.half m)] ++ b.2.2).length ≤ 100; simp; omega, hb.lo, hb.hi, hb.n0, hb.n8⟩⟩; apply vs_l03Some; simp only [bs_l03Some, h1, h2, h3, c, Option.bind_some, getTV_here, getTV_next, p0, p1, p2, cond_true, cond_false, ap]
 have p2 : (r == 2) = false := by simp [q2]
 by_cases q3 : r = 3
 · have p3 : (r == 3) = true := by simp [q3]
   by_cases l1 : 1 < b.2.2.length
   · have pl : decide ((1 : Int) < ((b.2.2.length : Nat) : Int)) = true := decide_eq_true (by omega); have ap : apOk [List.getD b.2.2 1 (List.replicate 8 0)] b.2.2 = true := apOk2 (by simp; omega)
     refine ⟨(b.1, b.2.1, [List.getD b.2.2 1 (List.replicate 8 0)] ++ b.2.2), s3, ?_, hs3, ⟨rows_app (fun x hx => ?_) hb.rows, by show ([List.getD b.2.2 1 (List.replicate 8 0)] ++ b.2.2).length ≤ 100; simp; omega, hb.lo, hb.hi, hb.n0, hb.n8⟩⟩
     · apply vs_l03Some; simp only [bs_l03Some, h1, h2, h3, Option.bind_some, getTV_here, getTV_next, p0, p1, p2, p3, pl, cond_true, cond_false, ap]
     · rw [List.mem_singleton.1 hx, getD8 l1]; exact hb.rows.at l1
   · have pl : decide ((1 : Int) < ((b.2.2.length : Nat) : Int)) = false := decide_eq_false (by omega); refine ⟨b, s3, ?_, hs3, hb⟩; apply vs_l03Some; simp only [bs_l03Some, h1, h2, h3, Option.bind_some, getTV_here, getTV_next, p0, p1, p2, p3, pl, cond_true, cond_false]
 · have p3 : (r == 3) = false := by simp [q3]
   refine ⟨b, s3, ?_, hs3, hb⟩; apply vs_l03Some; simp only [bs_l03Some, h1, h2, h3, Option.bind_some, getTV_here, getTV_next, p0, p1, p2, p3, cond_true, cond_false]
def Bytes (a : List Int) : Prop := (∀ x ∈ a, 0 ≤ x ∧ x ≤ 255) ∧ a.length ≤ 4096
theorem fit_bytes {a : List Int} (h : Fit (.slice (.int .u8)) a) : a.length ≤ 9223372036854775807 ∧ ∀ x ∈ a, 0 ≤ x ∧ x ≤ 255 := by
 exact ⟨h.1, fun x hx => wf_u8 (h.2 x hx)⟩
theorem c_big (a : List Int) : R iw_big [tLU8 a] = some [tB (decide (4096 < ((a.length : Nat) : Int)))] := by
 apply vw_big; simp only [bw_big]
end Go.Ev.YtfkpbhbghbhmgaaGreat
namespace Go.Ev.YtfkpbhbghbhmgaaGreat
open Go.Ev Go.Gar
theorem c_roll_3 (a : List Int) : ∀ (d i : Nat) (x : Int), a.length ≤ 4096 → i + d = a.length → ∃ y : Int, R iw_roll_3 [tLU8 a, tI 0, tU64 x, tI (i : Int)] = some [tI 0, tI 0, tU64 y, tLU8 a] := by
 intro d
 induction d with
 | zero =>
  intro i x hl hi; refine ⟨x, ?_⟩; apply vw_roll_3; have p1 : decide ((i : Int) < ((a.length : Nat) : Int)) = false := decide_eq_false (by omega); simp only [bw_roll_3, p1, cond_false]
 | succ d ih =>
  intro i x hl hi; have p1 : decide ((i : Int) < ((a.length : Nat) : Int)) = true := decide_eq_true (by omega); have p3 : decide (0 ≤ (i : Int)) = true := decide_eq_true (by omega); have w : wi64 ((i : Int) + 1) = ((i + 1 : Nat) : Int) := by rw [wrap_i64] <;> omega
  obtain ⟨y, hy⟩ := ih (i + 1) (wu64 ((wu64 ((wu64 (x * 1099511628211)) + (wu64 ((List.getD a (Int.toNat (i : Int)) 0))))) + 5)) hl (by omega); refine ⟨y, ?_⟩; apply vw_roll_3; simp only [bw_roll_3, p1, p3, cond_true, Bool.and_true, w, hy]
theorem c_roll (a : List Int) (h : ∀ x ∈ a, 0 ≤ x ∧ x ≤ 255) (hl : a.length ≤ 4096) (t : Int) : ∃ s : Sc, R iw_roll [tLU8 a, tU64 t] = some [tPLU8PIU64 s] ∧ Src s := by
 obtain ⟨y, hy⟩ := c_roll_3 a a.length 0 (wu64 ((wu64 (t * 7919)) + (wu64 (((a.length : Nat) : Int))))) hl (by omega); refine ⟨(a, (0, y)), ?_, ⟨hl, h, by show (0 : Int) ≤ 0; omega, by show (0 : Int) ≤ 4096; omega⟩⟩; apply vw_roll; simp only [Int.natCast_zero] at hy; simp only [bw_roll, hy, Option.bind_some, getTV_here, getTV_next]
theorem c_below (s : Sc) (hs : Src s) (n : Int) : ∃ (r : Int) (s' : Sc), R i__w_dice__below [tPLU8PIU64 s, tI n] = some [tI r, tPLU8PIU64 s'] ∧ Src s' ∧ 0 ≤ r ∧ (1 ≤ n → r < n) := by
 by_cases h1 : n < 1
 · refine ⟨0, s, ?_, hs, by omega, by omega⟩; apply v__w_dice__below; have p : decide (n < 1) = true := decide_eq_true h1; simp only [b__w_dice__below, p, cond_true]
 · have p : decide (n < 1) = false := decide_eq_false h1; have p0 : (n != 0) = true := by simp; omega
   have hl := hs.len; have ha := hs.lo; have hh := hs.hi
   by_cases h2 : s.2.1 < (s.1.length : Int)
   · have p1 : decide (s.2.1 < ((s.1.length : Nat) : Int)) = true := decide_eq_true h2; have p2 : decide (0 ≤ s.2.1) = true := decide_eq_true ha; have hb := byte_at hs.by' (i := s.2.1.toNat) (by omega); have hm := and_lo (shr .u64 (wu64 ((wu64 (s.2.2 * 6364136223846793005)) + 1442695040888963407)) 33); generalize hX : bitsAnd .u64 (shr .u64 (wu64 ((wu64 (s.2.2 * 6364136223846793005)) + 1442695040888963407)) 33) 16777215 = X at hm; generalize hY : List.getD s.1 s.2.1.toNat 0 = Y at hb; have e1 : wi64 X = X := wrap_i64 (by omega) (by omega); have e2 : wi64 Y = Y := wrap_i64 (by omega) (by omega); have e3 : wi64 (X + Y) = X + Y := wrap_i64 (by omega) (by omega); have e4 : wi64 (s.2.1 + 1) = s.2.1 + 1 := wrap_i64 (by omega) (by omega); have t := tmod_lo (a := X + Y) (n := n) (by omega) (by omega); refine ⟨Int.tmod (X + Y) n, (s.1, (s.2.1 + 1, wu64 ((wu64 (s.2.2 * 6364136223846793005)) + 1442695040888963407))), ?_, ⟨hs.len, hs.by', by show (0 : Int) ≤ s.2.1 + 1; omega, by show s.2.1 + 1 ≤ (4096 : Int); omega⟩, t.1, fun _ => t.2⟩; apply v__w_dice__below; simp only [b__w_dice__below, p, p0, p1, p2, cond_true, cond_false, Bool.and_true, hX, hY, e1, e2, e3, e4]
   · have p1 : decide (s.2.1 < ((s.1.length : Nat) : Int)) = false := decide_eq_false h2; have hm := and_lo (shr .u64 (wu64 ((wu64 (s.2.2 * 6364136223846793005)) + 1442695040888963407)) 33); generalize hX : bitsAnd .u64 (shr .u64 (wu64 ((wu64 (s.2.2 * 6364136223846793005)) + 1442695040888963407)) 33) 16777215 = X at hm; have e1 : wi64 X = X := wrap_i64 (by omega) (by omega); have t := tmod_lo (a := X) (n := n) (by omega) (by omega); refine ⟨Int.tmod X n, (s.1, (s.2.1, wu64 ((wu64 (s.2.2 * 6364136223846793005)) + 1442695040888963407))), ?_, ⟨hs.len, hs.by', ha, hh⟩, t.1, fun _ => t.2⟩; apply v__w_dice__below; simp only [b__w_dice__below, p, p0, p1, cond_true, cond_false, hX, e1]
theorem letter_of {n : Nat} {r t : Int} (hn : n ≤ 100) (r0 : 0 ≤ r) (r1 : r < (n : Int) - 1) (t0 : 0 ≤ t) (t1 : t < 2) : ∃ x : Int, wi64 ((wi64 (1 + r)) * (wi64 (1 - (wi64 (2 * t))))) = x ∧ x ≠ 0 ∧ 1 - (n : Int) ≤ x ∧ x ≤ (n : Int) - 1 := by
 have w1 : wi64 (1 + r) = 1 + r := by rw [wrap_i64] <;> omega
 have w2 : wi64 (2 * t) = 2 * t := by rw [wrap_i64] <;> omega
 have w3 : wi64 (1 - 2 * t) = 1 - 2 * t := by rw [wrap_i64] <;> omega
 rw [w1, w2, w3]
 by_cases h : t = 0
 · subst h; refine ⟨1 + r, ?_, by omega, by omega, by omega⟩; rw [show (1 + r) * (1 - 2 * 0) = 1 + r by omega, wrap_i64] <;> omega
 · obtain rfl : t = 1 := by omega
   refine ⟨-(1 + r), ?_, by omega, by omega, by omega⟩; rw [show (1 + r) * (1 - 2 * 1) = -(1 + r) by omega, wrap_i64] <;> omega
theorem c_letters9_2 (n : Nat) (hn : n ≤ 100) : ∀ (k : Nat) (s : Sc) (out : List Int), Src s → Lw n out → out.length + k ≤ 1000 → ∃ (s' : Sc) (out' : List Int), R iw_letters9_2 [tI s.2.1, tU64 s.2.2, tLU8 s.1, tLI out, tI (n : Int), tI (k : Int)] = some [tI 0, tI s'.2.1, tU64 s'.2.2, tLU8 s'.1, tLI out'] ∧ Src s' ∧ Lw n out' ∧ out'.length ≤ out.length + k := by
 intro k
 induction k with
 | zero =>
  intro s out hs hw hl; refine ⟨s, out, ?_, hs, hw, by omega⟩; apply vw_letters9_2; simp [bw_letters9_2]
 | succ k ih =>
  intro s out hs hw hl; have p1 : decide ((0 : Int) < ((k + 1 : Nat) : Int)) = true := decide_eq_true (by omega)
  by_cases h2 : 2 ≤ n
  · have p2 : decide ((1 : Int) < (n : Int)) = true := decide_eq_true (by omega); have wn : wi64 ((n : Int) - 1) = (n : Int) - 1 := by rw [wrap_i64] <;> omega
    obtain ⟨r, s1, hr, hs1, r0, r1'⟩ := c_below s hs ((n : Int) - 1); have r1 := r1' (by omega); obtain ⟨t, s2, ht, hs2, t0, t1'⟩ := c_below s1 hs1 2; have t1 := t1' (by omega); obtain ⟨x, hx, hx'⟩ := letter_of (n := n) hn r0 r1 t0 t1; obtain ⟨s', out', e, a, b, c⟩ := ih s2 (out ++ [x]) hs2 (hw.snoc hx') (by simp; omega); have ap : apOk out [x] = true := apOk1 (by omega); have w1 : wi64 (((k + 1 : Nat) : Int) - 1) = (k : Int) := by rw [wrap_i64] <;> omega
    refine ⟨s', out', ?_, a, b, by simp at c; omega⟩; apply vw_letters9_2; simp only [bw_letters9_2, p1, p2, cond_true, wn, hr, ht, Option.bind_some, getTV_here, getTV_next, hx, ap, w1]; exact e
  · have p2 : decide ((1 : Int) < (n : Int)) = false := decide_eq_false (by omega); refine ⟨s, out, ?_, hs, hw, by omega⟩; apply vw_letters9_2; simp only [bw_letters9_2, p1, p2, cond_true, cond_false]
theorem c_letters9 (s : Sc) (hs : Src s) (n : Nat) (hn : n ≤ 100) (k : Nat) (hk : k ≤ 500) : ∃ (w : List Int) (s' : Sc), R iw_letters9 [tPLU8PIU64 s, tI (n : Int), tI (k : Int)] = some [tLI w, tPLU8PIU64 s'] ∧ Src s' ∧ Lw n w ∧ w.length ≤ k := by
 obtain ⟨s', w, e, a, b, c⟩ := c_letters9_2 n hn k s [] hs (fun x hx => by simp at hx) (by simp; omega); refine ⟨w, s', ?_, a, b, by simpa using c⟩; apply vw_letters9; simp only [bw_letters9, e, Option.bind_some, getTV_here, getTV_next]
end Go.Ev.YtfkpbhbghbhmgaaGreat
namespace Go.Ev.YtfkpbhbghbhmgaaGreat
open Go.Ev Go.Gar
theorem nOf_P {n : Nat} (h2 : 2 ≤ n) (w : List Int) : (Pm.lat n).Proper (nOf n w).2 := by
 have := foldN_ok h2 w (OkJ.zero n); exact this.P
theorem mk_last_one {n : Nat} (h2 : 2 ≤ n) (p : Int) (X : List (Pm n)) : mk p (X ++ [1]) = mk p X := by
 rw [mk_app h2, mk_one h2 _ (mk_spec h2 p X).1]
theorem sN_one {n : Nat} (h2 : 2 ≤ n) : sN (1 : Pm n) = eN n := by
 have := mk_last_one h2 (n := n) 0 []; rw [List.nil_append] at this; rw [sN, this, mk_nil]
def times (l : List Int) : Nat → List Int
 | 0 => []
 | k + 1 => l ++ times l k
end Go.Ev.YtfkpbhbghbhmgaaGreat
namespace Go.Ev.YtfkpbhbghbhmgaaGreat
open Go.Ev Go.Gar
theorem both_enc {n : Nat} (h1 : 1 ≤ n) (hn : n ≤ 8) {v w : Nm n} (hv : OkN v 200) (hw : OkN w 200) : both (enc v) (enc w) = 0 := by
 unfold both; rw [isNm_enc h1 hn hv, isNm_enc h1 hn hw]; simp [enc]
theorem lim_ok {n : Nat} {w : Nm n} (h : OkN w 200) : limV (enc w) = (enc w, 0) := by
 have h1 := h.lo; have h2 := h.hi; have h3 := h.len; unfold limV; rw [if_pos]; simp only [enc, sL_len]; omega
theorem e0 : ((0 : Int) != 0) = false := rfl
end Go.Ev.YtfkpbhbghbhmgaaGreat
namespace Go.Ev.YtfkpbhbghbhmgaaGreat
open Go.Ev Go.Gar
theorem isBr_of {n : Nat} (h1 : 1 ≤ n) (hn : n ≤ 8) {w : List Int} (hw : Lw n w) (hl : w.length ≤ 200) : isBr ((n : Int), w) = true := by
 unfold isBr; simp only [Bool.and_eq_true, decide_eq_true_eq, List.all_eq_true, okL]; refine ⟨⟨⟨by omega, by omega⟩, hl⟩, fun x hx => ?_⟩; have := hw x hx; simp; omega
theorem nOf_one {w : List Int} (hw : Lw 1 w) : nOf 1 w = (0, []) := by
 rw [Lw_one hw]
 rfl
theorem nOf_okN {n : Nat} (h1 : 1 ≤ n) {w : List Int} (hw : Lw n w) (hl : w.length ≤ 200) : OkN (nOf n w) 200 := by
 have h := nOf_len h1 w hw
 refine ⟨?_, by omega, by omega, by omega, ?_⟩
 · by_cases h2 : 2 ≤ n
   · exact nOf_P h2 w
   · obtain rfl : n = 1 := by omega
     rw [nOf_one hw]; exact Lat.Proper.nil
 · intro e; subst e; exact nOf_one hw
theorem normalOf_ok {n : Nat} (h1 : 1 ≤ n) (hn : n ≤ 8) {w : List Int} (hw : Lw n w) (hl : w.length ≤ 200) : R ii_NormalOf [tPILI ((n : Int), w)] = some [tPIPILA8 (enc (nOf n w)), tI 0] := by
 have h := c_NormalOf_i ((n : Int), w) (by show w.length < 1000000000; omega); unfold vNormalOf at h; rw [isBr_of h1 hn hw hl, if_pos rfl] at h; simp only [Int.toNat_natCast] at h; rw [lim_ok (nOf_okN h1 hw hl)] at h; exact h
end Go.Ev.YtfkpbhbghbhmgaaGreat
namespace Go.Ev.YtfkpbhbghbhmgaaGreat
open Go.Ev Go.Gar
structure Ne (a : Int × Int × List (List Int)) : Prop where
 rows : Rows8 a.2.2
 len : a.2.2.length ≤ 100000
 n0 : 1 ≤ a.1
 n8 : a.1 ≤ 8
theorem Nd.ne {a : Int × Int × List (List Int)} (h : Nd a) : Ne a := ⟨h.rows, by have := h.len; omega, h.n0, h.n8⟩
theorem ne_enc {n : Nat} (h1 : 1 ≤ n) (hn : n ≤ 8) {v : Nm n} {b : Nat} (hv : OkN v b) (hb : b ≤ 100000) : Ne (enc v) := by
 have := hv.len; exact ⟨sL_rows hn _, by simp only [enc, sL_len]; omega, by simp only [enc]; omega, by simp only [enc]; omega⟩
theorem c_l04Draw_9 (x0 x1 : Int) (x2 : List Int) (x3 x4 : Int) (x5 : List (List Int)) (n x8 : Int) (h1 : 1 ≤ n) (hn : n ≤ 8) : ∀ (d : Nat) (i : Int) (w : List Int), i + d = n → 1 ≤ i → w.length + d < 1000 → Lw n.toNat w →
  ∃ w', R is_l04Draw_9 [tI x0, tU64 x1, tLU8 x2, tI x3, tI x4, tLA8 x5, tLI w, tI n, tI x8, tI i] = some [tI 0, tI x0, tU64 x1, tLU8 x2, tI x3, tI x4, tLA8 x5, tLI w', tI n, tI x8] ∧ Lw n.toNat w' ∧ w'.length = w.length + d := by
 intro d
 induction d with
 | zero =>
  intro i w hi h1i _ hw; refine ⟨w, ?_, hw, rfl⟩; apply vs_l04Draw_9; have : ¬ i < n := by omega
  simp only [bs_l04Draw_9, decide_eq_false this, cond_false]
 | succ d ih =>
  intro i w hi h1i hl hw; have hlt : i < n := by omega
  have ap : apOk w [i] = true := apOk1 (by omega); have wn : wi64 (i + 1) = i + 1 := by rw [wrap_i64] <;> omega
  obtain ⟨w', e, h2, h3⟩ := ih (i + 1) (w ++ [i]) (by omega) (by omega) (by simp; omega) (hw.snoc (by omega)); refine ⟨w', ?_, h2, by rw [h3]; simp; omega⟩; apply vs_l04Draw_9; simp only [bs_l04Draw_9, decide_eq_true hlt, cond_true, ap, wn, e]
theorem c_l04Draw_6 (x0 x1 : Int) (x2 : List Int) (x3 x4 : Int) (x5 : List (List Int)) (n : Int) (h1 : 1 ≤ n) (hn : n ≤ 8) : ∀ (d : Nat) (w : List Int), w.length + 8 * d < 100 → Lw n.toNat w →
  ∃ w', R is_l04Draw_6 [tI x0, tU64 x1, tLU8 x2, tI x3, tI x4, tLA8 x5, tLI w, tI n, tI (d : Int)] = some [tI 0, tI x0, tU64 x1, tLU8 x2, tI x3, tI x4, tLA8 x5, tLI w', tI n] ∧ Lw n.toNat w' ∧ w'.length < 100 := by
 intro d
 induction d with
 | zero =>
  intro w hl hw; refine ⟨w, ?_, hw, by omega⟩; apply vs_l04Draw_6; simp only [bs_l04Draw_6]
  rfl
 | succ d ih =>
  intro w hl hw; obtain ⟨w1, e1, a1, a2⟩ := c_l04Draw_9 x0 x1 x2 x3 x4 x5 n ((d + 1 : Nat) : Int) h1 hn (n - 1).toNat 1 w (by omega) (by omega) (by omega) hw; obtain ⟨w', e, b1, b2⟩ := ih w1 (by omega) a1; refine ⟨w', ?_, b1, b2⟩; have hlt : (0 : Int) < ((d + 1 : Nat) : Int) := by omega
  have wn : wi64 (((d + 1 : Nat) : Int) - 1) = (d : Int) := by rw [wrap_i64] <;> omega
  apply vs_l04Draw_6; simp only [bs_l04Draw_6, decide_eq_true hlt, cond_true, e1, Option.bind_some, getTV_here, getTV_next, wn, e]
theorem draw4_tail (s : Sc) (hs : Src s) (n : Int) (h1 : 1 ≤ n) (hn : n ≤ 8) (v : Int × Int × List (List Int)) (hv : Ne v) (hl : v.2.2.length ≤ 50000) :
  ∃ (b : Int × Int × List (List Int)) (s' : Sc), ((R is_l01Next [tPLU8PIU64 s, tI 40]).bind fun o16 =>
   bif ((gI o16 0) == 0) then
    (R is_l03Some [tPLU8PIU64 (gPLU8PIU64 o16 1)]).bind fun o17 => some [tPIPILA8 (gPIPILA8 o17 0), tPLU8PIU64 (gPLU8PIU64 o17 1)]
   else
    bif ((gI o16 0) == 1) then
     (R is_l02Half [tI n]).bind fun o18 =>
     bif (apOk v.2.2 [(gA8 o18 0)]) then some [tPIPILA8 (v.1, v.2.1, v.2.2 ++ [(gA8 o18 0)]), tPLU8PIU64 (gPLU8PIU64 o16 1)] else none
    else
     bif ((gI o16 0) == 2) then
      (R is_l01Draw [tPLU8PIU64 (gPLU8PIU64 o16 1), tI 6, tI 5]).bind fun o19 =>
      (R is_l03Of [tI 6, tLI (gLI o19 0)]).bind fun o20 =>
      some [tPIPILA8 (gPIPILA8 o20 0), tPLU8PIU64 (gPLU8PIU64 o19 1)]
     else some [tPIPILA8 v, tPLU8PIU64 (gPLU8PIU64 o16 1)]) = some [tPIPILA8 b, tPLU8PIU64 s'] ∧ Src s' ∧ Ne b := by
 obtain ⟨r, s1, e1, hs1, r0, r1⟩ := c_next s hs 40
 by_cases q0 : r = 0
 · have p0 : (r == 0) = true := by simp [q0]
   obtain ⟨b, s2, e2, hs2, hb⟩ := c_l03Some s1 hs1; refine ⟨b, s2, ?_, hs2, hb.ne⟩; simp only [e1, e2, p0, Option.bind_some, getTV_here, getTV_next, cond_true]
 have p0 : (r == 0) = false := by simp [q0]
 by_cases q1 : r = 1
 · have p1 : (r == 1) = true := by simp [q1]
   obtain ⟨m, rfl⟩ : ∃ m : Nat, n = (m : Int) := ⟨n.toNat, by omega⟩; have c := c_l02Half m (by omega); have ap : apOk v.2.2 [sA (Pm.half m)] = true := apOk1 (by omega); refine ⟨(v.1, v.2.1, v.2.2 ++ [sA (Pm.half m)]), s1, ?_, hs1, ⟨rows_app hv.rows (rows_one (by omega) _), by show (v.2.2 ++ [sA (Pm.half m)]).length ≤ 100000; simp; omega, hv.n0, hv.n8⟩⟩; simp only [e1, c, ap, p0, p1, Option.bind_some, getTV_here, getTV_next, cond_true, cond_false]
 have p1 : (r == 1) = false := by simp [q1]
 by_cases q2 : r = 2
 · have p2 : (r == 2) = true := by simp [q2]
   obtain ⟨w, s2, e2, hs2, hw, hl2⟩ := c_draw s1 hs1 6 5 (by omega) (by omega) (by omega) (by omega); have e3 : R is_l03Of [tI 6, tLI w] = some [tPIPILA8 (enc (nOf 6 w))] := c_l03Of 6 (by omega) (by omega) w hw (by omega)
   refine ⟨enc (nOf 6 w), s2, ?_, hs2, ?_⟩
   · simp only [e1, e2, e3, p0, p1, p2, Option.bind_some, getTV_here, getTV_next, cond_true, cond_false]
   · have := nOf_len (n := 6) (by omega) w hw; exact ⟨sL_rows (by omega) _, by simp only [enc, sL_len]; omega, by simp only [enc]; omega, by simp only [enc]; omega⟩
 · have p2 : (r == 2) = false := by simp [q2]
   refine ⟨v, s1, ?_, hs1, hv⟩; simp only [e1, p0, p1, p2, Option.bind_some, getTV_here, getTV_next, cond_false]
theorem draw4_mid (s : Sc) (hs : Src s) (n : Int) (h1 : 1 ≤ n) (hn : n ≤ 8) (w : List Int) (hw : Lw n.toNat w) (hl : w.length ≤ 100) :
  ∃ (b : Int × Int × List (List Int)) (s' : Sc), ((R is_l03Of [tI n, tLI w]).bind fun o9 =>
   (R is_l01Next [tPLU8PIU64 s, tI 2]).bind fun o10 =>
   bif ((gI o10 0) == 0) then
    (R is_l01Draw [tPLU8PIU64 (gPLU8PIU64 o10 1), tI n, tI 4]).bind fun o11 =>
    (R is_l03Of [tI n, tLI (gLI o11 0)]).bind fun o12 =>
    (R is_l03Inverse [tPIPILA8 (gPIPILA8 o12 0)]).bind fun o13 =>
    (R is_l03Product [tPIPILA8 (gPIPILA8 o13 0), tPIPILA8 (gPIPILA8 o9 0)]).bind fun o14 =>
    (R is_l03Product [tPIPILA8 (gPIPILA8 o14 0), tPIPILA8 (gPIPILA8 o12 0)]).bind fun o15 =>
    (R is_l01Next [tPLU8PIU64 (gPLU8PIU64 o11 1), tI 40]).bind fun o16 =>
    bif ((gI o16 0) == 0) then
     (R is_l03Some [tPLU8PIU64 (gPLU8PIU64 o16 1)]).bind fun o17 => some [tPIPILA8 (gPIPILA8 o17 0), tPLU8PIU64 (gPLU8PIU64 o17 1)]
    else
     bif ((gI o16 0) == 1) then
      (R is_l02Half [tI n]).bind fun o18 =>
      bif (apOk (gPIPILA8 o15 0).2.2 [(gA8 o18 0)]) then some [tPIPILA8 ((gPIPILA8 o15 0).1, (gPIPILA8 o15 0).2.1, (gPIPILA8 o15 0).2.2 ++ [(gA8 o18 0)]), tPLU8PIU64 (gPLU8PIU64 o16 1)] else none
     else
      bif ((gI o16 0) == 2) then
       (R is_l01Draw [tPLU8PIU64 (gPLU8PIU64 o16 1), tI 6, tI 5]).bind fun o19 =>
       (R is_l03Of [tI 6, tLI (gLI o19 0)]).bind fun o20 =>
       some [tPIPILA8 (gPIPILA8 o20 0), tPLU8PIU64 (gPLU8PIU64 o19 1)]
      else some [tPIPILA8 (gPIPILA8 o15 0), tPLU8PIU64 (gPLU8PIU64 o16 1)]
   else
    (R is_l01Next [tPLU8PIU64 (gPLU8PIU64 o10 1), tI 40]).bind fun o16 =>
    bif ((gI o16 0) == 0) then
     (R is_l03Some [tPLU8PIU64 (gPLU8PIU64 o16 1)]).bind fun o17 => some [tPIPILA8 (gPIPILA8 o17 0), tPLU8PIU64 (gPLU8PIU64 o17 1)]
    else
     bif ((gI o16 0) == 1) then
      (R is_l02Half [tI n]).bind fun o18 =>
      bif (apOk (gPIPILA8 o9 0).2.2 [(gA8 o18 0)]) then some [tPIPILA8 ((gPIPILA8 o9 0).1, (gPIPILA8 o9 0).2.1, (gPIPILA8 o9 0).2.2 ++ [(gA8 o18 0)]), tPLU8PIU64 (gPLU8PIU64 o16 1)] else none
     else
      bif ((gI o16 0) == 2) then
       (R is_l01Draw [tPLU8PIU64 (gPLU8PIU64 o16 1), tI 6, tI 5]).bind fun o19 =>
       (R is_l03Of [tI 6, tLI (gLI o19 0)]).bind fun o20 =>
       some [tPIPILA8 (gPIPILA8 o20 0), tPLU8PIU64 (gPLU8PIU64 o19 1)]
      else some [tPIPILA8 (gPIPILA8 o9 0), tPLU8PIU64 (gPLU8PIU64 o16 1)]) = some [tPIPILA8 b, tPLU8PIU64 s'] ∧ Src s' ∧ Ne b := by
 obtain ⟨m, rfl⟩ : ∃ m : Nat, n = (m : Int) := ⟨n.toNat, by omega⟩; rw [Int.toNat_natCast] at hw; have e1 := c_l03Of m (by omega) (by omega) w hw (by omega); have o1 := nOf_okN (n := m) (by omega) hw (by omega); obtain ⟨r, s2, e2, hs2, _, _⟩ := c_next s hs 2
 by_cases q : r = 0
 · have p : (r == 0) = true := by simp [q]
   obtain ⟨w', s3, e3, hs3, hw', hl'⟩ := c_draw s2 hs2 (m : Int) 4 (by omega) (by omega) (by omega) (by omega); rw [Int.toNat_natCast] at hw'; have e4 := c_l03Of m (by omega) (by omega) w' hw' (by omega); have o4 := nOf_okN (n := m) (by omega) hw' (by omega); have e5 := c_l03Inverse m (by omega) (by omega) _ o4; have o5 := invN_ok (n := m) (by omega) o4; have e6 := c_l03Product m (by omega) (by omega) _ _ (o5.mono (by omega)) (o1.mono (by omega)); have o6 := prod_ok (n := m) (by omega) o5 o1; have e7 := c_l03Product m (by omega) (by omega) _ _ (o6.mono (by omega)) (o4.mono (by omega)); have o7 := prod_ok (n := m) (by omega) o6 o4; have l7 := o7.len; obtain ⟨b, s', e8, hs', hb⟩ := draw4_tail s3 hs3 (m : Int) h1 hn (enc (prod (prod (invN (nOf m w')) (nOf m w)) (nOf m w'))) (ne_enc (by omega) (by omega) o7 (by omega)) (by simp only [enc, sL_len]; omega); refine ⟨b, s', ?_, hs', hb⟩; simp only [e1, e2, p, cond_true, e3, e4, e5, e6, e7, Option.bind_some, getTV_here, getTV_next]; exact e8
 · have p : (r == 0) = false := by simp [q]
   have l1 := o1.len; obtain ⟨b, s', e8, hs', hb⟩ := draw4_tail s2 hs2 (m : Int) h1 hn (enc (nOf m w)) (ne_enc (by omega) (by omega) o1 (by omega)) (by simp only [enc, sL_len]; omega); refine ⟨b, s', ?_, hs', hb⟩; simp only [e1, e2, p, cond_false, Option.bind_some, getTV_here, getTV_next]; exact e8
theorem c_l04Draw (s : Sc) (hs : Src s) : ∃ (b : Int × Int × List (List Int)) (s' : Sc), R is_l04Draw [tPLU8PIU64 s] = some [tPIPILA8 b, tPLU8PIU64 s'] ∧ Src s' ∧ Ne b := by
 obtain ⟨n, s1, e1, hs1, m1⟩ := c_pick s hs [2, 3, 3, 3, 4, 4, 5] (by simp) (by simp); have n1 : 2 ≤ n ∧ n ≤ 5 := by simp at m1; omega
 clear m1; obtain ⟨k, s2, e2, hs2, m2⟩ := c_pick s1 hs1 [3, 6, 9] (by simp) (by simp); have k1 : 3 ≤ k ∧ k ≤ 9 := by simp at m2; omega
 clear m2; obtain ⟨w, s3, e3, hs3, hw, hl⟩ := c_draw s2 hs2 n k (by omega) (by omega) (by omega) (by omega); obtain ⟨r, s4, e4, hs4, r0, r1⟩ := c_next s3 hs3 4
 by_cases q : r = 0
 · have p : (r == 0) = true := by simp [q]
   obtain ⟨j, s5, e5, hs5, j0, j1⟩ := c_next s4 hs4 3; have j2 := j1 (by omega); have wj : wi64 (1 + j) = (((1 + j).toNat : Nat) : Int) := by rw [wrap_i64] <;> omega
   obtain ⟨w', e6, hw', hl'⟩ := c_l04Draw_6 s5.2.1 s5.2.2 s5.1 0 0 [] n (by omega) (by omega) (1 + j).toNat [] (by simp; omega) (fun x hx => by simp at hx); obtain ⟨b, s', e8, hs', hb⟩ := draw4_mid s5 hs5 n (by omega) (by omega) w' hw' (by omega); refine ⟨b, s', ?_, hs', hb⟩; apply vs_l04Draw; simp only [bs_l04Draw, e1, e2, e3, e4, p, cond_true, e5, wj, e6, Option.bind_some, getTV_here, getTV_next]; exact e8
 · have p : (r == 0) = false := by simp [q]
   obtain ⟨b, s', e8, hs', hb⟩ := draw4_mid s4 hs4 n (by omega) (by omega) w hw (by omega); refine ⟨b, s', ?_, hs', hb⟩; apply vs_l04Draw; simp only [bs_l04Draw, e1, e2, e3, e4, p, cond_false, Option.bind_some, getTV_here, getTV_next]; exact e8
theorem c_l04Pair (a : List Int) (h : Bytes a) : ∃ b c, R is_l04Pair [tLU8 a] = some [tPIPILA8 b, tPIPILA8 c] ∧ Ne b ∧ Ne c := by
 obtain ⟨s, e, hs⟩ := c_l01From a h.1 h.2; obtain ⟨b, s2, e2, hs2, hb⟩ := c_l04Draw s hs; have e3 := c_l03Is b hb.rows
 rcases nm_cases b with h3 | ⟨h3, m, v, h1, hn, hv, rfl⟩
 · rw [h3] at e3; obtain ⟨c, s4, e4, _, hc⟩ := c_l04Draw s2 hs2; refine ⟨b, c, ?_, hb, hc⟩; apply vs_l04Pair; simp only [bs_l04Pair, e, e2, e3, e4, Bool.not_false, cond_true, Option.bind_some, getTV_here, getTV_next]
 · rw [h3] at e3; obtain ⟨r, s4, e4, hs4, r0, r1⟩ := c_next s2 hs2 16
   by_cases q : r = 0
   · have p : (r == 0) = true := by simp [q]
     obtain ⟨c, s5, e5, _, hc⟩ := c_l04Draw s4 hs4; refine ⟨enc v, c, ?_, hb, hc⟩; apply vs_l04Pair; simp only [bs_l04Pair, e, e2, e3, e4, e5, p, Bool.not_true, cond_true, cond_false, Option.bind_some, getTV_here, getTV_next]
   · have p : (r == 0) = false := by simp [q]
     have eV : ∀ x : Int × Int × List (List Int), (x.1, x.2.1, x.2.2) = x := fun x => rfl; obtain ⟨w', s5, e5, hs5, hw', hl'⟩ := c_draw s4 hs4 (m : Int) 4 (by omega) (by omega) (by omega) (by omega); rw [Int.toNat_natCast] at hw'; have e5' : R is_l01Draw [tPLU8PIU64 s4, tI (enc v).1, tI 4] = some [tLI w', tPLU8PIU64 s5] := e5; have e6 : R is_l03Of [tI (enc v).1, tLI w'] = some [tPIPILA8 (enc (nOf m w'))] := c_l03Of m (by omega) (by omega) w' hw' (by omega); have o4 := nOf_okN (n := m) (by omega) hw' (by omega); obtain ⟨r2, s6, e7, hs6, _, _⟩ := c_next s5 hs5 2
     by_cases q2 : r2 = 0
     · have p2 : (r2 == 0) = true := by simp [q2]
       have e8 := c_l03Inverse m (by omega) (by omega) _ o4; have o5 := invN_ok (n := m) (by omega) o4; have e9 := c_l03Product m (by omega) (by omega) _ _ (o5.mono (by omega)) (hv.mono (by omega)); have o6 := prod_ok (n := m) (by omega) o5 hv; have e10 := c_l03Product m (by omega) (by omega) _ _ (o6.mono (by omega)) (o4.mono (by omega)); have o7 := prod_ok (n := m) (by omega) o6 o4; refine ⟨enc v, enc (prod (prod (invN (nOf m w')) v) (nOf m w')), ?_, hb, ne_enc h1 hn o7 (by omega)⟩; apply vs_l04Pair; simp only [bs_l04Pair, eV, e, e2, e3, e4, p, e5', e6, e7, p2, e8, e9, e10, Bool.not_true, cond_true, cond_false, Option.bind_some, getTV_here, getTV_next]
     · have p2 : (r2 == 0) = false := by simp [q2]
       obtain ⟨w2, s7, e8, hs7, hw2, hl2⟩ := c_draw s6 hs6 (m : Int) 7 (by omega) (by omega) (by omega) (by omega); rw [Int.toNat_natCast] at hw2; have e8' : R is_l01Draw [tPLU8PIU64 s6, tI (enc v).1, tI 7] = some [tLI w2, tPLU8PIU64 s7] := e8; have e9 : R is_l03Of [tI (enc v).1, tLI w2] = some [tPIPILA8 (enc (nOf m w2))] := c_l03Of m (by omega) (by omega) w2 hw2 (by omega); have o9 := nOf_okN (n := m) (by omega) hw2 (by omega); refine ⟨enc v, enc (nOf m w2), ?_, hb, ne_enc h1 hn o9 (by omega)⟩; apply vs_l04Pair; simp only [bs_l04Pair, eV, e, e2, e3, e4, p, e5', e6, e7, p2, e8', e9, Bool.not_true, cond_true, cond_false, Option.bind_some, getTV_here, getTV_next]
end Go.Ev.YtfkpbhbghbhmgaaGreat
