/- Draws of braids and of normal forms; equality of normal forms as the laws test it. -/
import Derived.Test.YtpfpjhfimmmkmaaMd1
import Derived.Test.YtpfpjhfimmmkmaaMnF
set_option linter.unusedVariables false
set_option linter.unusedSimpArgs false
namespace Go.Ev.Ytpfpjhfimmmkmaa
open Go.Ev Go.Gar
/-! ### equality -/
theorem c_normal9_4 (x0 x1 x3 x4 : Int) (a b : List (List Int)) (h0 : a.length < 1000000000) (h1 : b.length = a.length) : ∀ (d i : Nat), i + d = a.length → R iw_normal9_4 [tI x0, tI x1, tLA8 a, tI x3, tI x4, tLA8 b, tI (i : Int)] = some (if a.drop i = b.drop i then [tI 0] else [tI 1, tB false]) := by
  intro d
  induction d with
  | zero =>
    intro i hi
    apply vw_normal9_4
    have p1 : decide ((i : Int) < ((a.length : Nat) : Int)) = false := decide_eq_false (by omega)
    rw [List.drop_eq_nil_of_le (by omega), List.drop_eq_nil_of_le (by omega)]
    simp only [bw_normal9_4, p1, cond_false, if_true]
  | succ d ih =>
    intro i hi
    apply vw_normal9_4
    have p1 : decide ((i : Int) < ((a.length : Nat) : Int)) = true := decide_eq_true (by omega)
    have p2 : decide ((i : Int) < ((b.length : Nat) : Int)) = true := decide_eq_true (by omega)
    have p3 : decide (0 ≤ (i : Int)) = true := decide_eq_true (by omega)
    have w : wi64 ((i : Int) + 1) = ((i + 1 : Nat) : Int) := by rw [wrap_i64] <;> omega
    simp only [bw_normal9_4, p1, p2, p3, cond_true, Bool.and_true, w, Int.toNat_natCast, getD8 (show i < a.length by omega), getD8 (show i < b.length by omega), bne_l, ih (i + 1) (by omega)]
    have da : a.drop i = a[i]'(by omega) :: a.drop (i + 1) := List.drop_eq_getElem_cons _
    have db : b.drop i = b[i]'(by omega) :: b.drop (i + 1) := List.drop_eq_getElem_cons _
    rw [da, db]
    simp only [List.cons.injEq]
    by_cases h : a[i] = b[i]
    · simp [h]
    · simp [h]
theorem c_normal9 (a b : Int × Int × List (List Int)) (h0 : a.2.2.length < 1000000000) : R iw_normal9 [tPIPILA8 a, tPIPILA8 b] = some [tB (decide (a = b))] := by
  obtain ⟨a1, a2, a3⟩ := a
  obtain ⟨b1, b2, b3⟩ := b
  simp only at h0
  apply vw_normal9
  by_cases h1 : a1 = b1
  · by_cases h2 : a2 = b2
    · by_cases h3 : a3.length = b3.length
      · have h := c_normal9_4 a1 a2 b1 b2 a3 b3 h0 h3.symm a3.length 0 (by omega)
        simp only [Int.natCast_zero, List.drop_zero] at h
        have q1 : (a1 != b1) = false := by simp [h1]
        have q2 : (a2 != b2) = false := by simp [h2]
        have q3 : (((a3.length : Nat) : Int) != ((b3.length : Nat) : Int)) = false := by simp [h3]
        simp only [bw_normal9, q1, q2, q3, cond_false, h, Option.bind_some]
        by_cases e : a3 = b3
        · simp [e, h1, h2]
        · simp [e]
      · have e : ¬ a3 = b3 := fun e => h3 (by rw [e])
        have q3 : ¬ ((a3.length : Nat) : Int) = ((b3.length : Nat) : Int) := by omega
        simp [bw_normal9, h1, h2, bne_dec, q3, e]
    · simp [bw_normal9, h1, bne_dec, h2]
  · simp [bw_normal9, bne_dec, h1]
theorem c_likeInts_4 (a b : List Int) (h0 : a.length < 1000000000) (h1 : b.length = a.length) : ∀ (d i : Nat), i + d = a.length → R iw_likeInts_4 [tLI a, tLI b, tI (i : Int)] = some (if a.drop i = b.drop i then [tI 0] else [tI 1, tB false]) := by
  intro d
  induction d with
  | zero =>
    intro i hi
    apply vw_likeInts_4
    have p1 : decide ((i : Int) < ((a.length : Nat) : Int)) = false := decide_eq_false (by omega)
    rw [List.drop_eq_nil_of_le (by omega), List.drop_eq_nil_of_le (by omega)]
    simp only [bw_likeInts_4, p1, cond_false, if_true]
  | succ d ih =>
    intro i hi
    apply vw_likeInts_4
    have p1 : decide ((i : Int) < ((a.length : Nat) : Int)) = true := decide_eq_true (by omega)
    have p2 : decide ((i : Int) < ((b.length : Nat) : Int)) = true := decide_eq_true (by omega)
    have p3 : decide (0 ≤ (i : Int)) = true := decide_eq_true (by omega)
    have w : wi64 ((i : Int) + 1) = ((i + 1 : Nat) : Int) := by rw [wrap_i64] <;> omega
    simp only [bw_likeInts_4, p1, p2, p3, cond_true, Bool.and_true, w, Int.toNat_natCast, getD_at (show i < a.length by omega), getD_at (show i < b.length by omega), bne_dec, ih (i + 1) (by omega)]
    have da : a.drop i = a[i]'(by omega) :: a.drop (i + 1) := List.drop_eq_getElem_cons _
    have db : b.drop i = b[i]'(by omega) :: b.drop (i + 1) := List.drop_eq_getElem_cons _
    rw [da, db]
    simp only [List.cons.injEq]
    by_cases h : a[i] = b[i]
    · simp [h]
    · simp [h]
theorem c_likeInts (a b : List Int) (h0 : a.length < 1000000000) : R iw_likeInts [tLI a, tLI b] = some [tB (decide (a = b))] := by
  apply vw_likeInts
  by_cases h3 : a.length = b.length
  · have h := c_likeInts_4 a b h0 h3.symm a.length 0 (by omega)
    simp only [Int.natCast_zero, List.drop_zero] at h
    have q3 : (((a.length : Nat) : Int) != ((b.length : Nat) : Int)) = false := by simp [h3]
    simp only [bw_likeInts, q3, cond_false, h, Option.bind_some]
    by_cases e : a = b
    · simp [e]
    · simp [e]
  · have e : ¬ a = b := fun e => h3 (by rw [e])
    have q3 : ¬ ((a.length : Nat) : Int) = ((b.length : Nat) : Int) := by omega
    simp [bw_likeInts, bne_dec, q3, e]
/-! ### draws -/
/-- A braid that was drawn, perhaps spoilt. -/
structure Bd (a : Int × List Int) : Prop where
  lo : -1000 ≤ a.1
  hi : a.1 ≤ 1000
  len : a.2.length ≤ 1000
  rng : ∀ x ∈ a.2, -1000 ≤ x ∧ x ≤ 1000
theorem Bd.i64 {a : Int × List Int} (h : Bd a) : I64 a.2 := fun x hx => by
  have := h.rng x hx
  omega
theorem Bd.l {a : Int × List Int} (h : Bd a) : a.2.length < 1000000000 := by have := h.len; omega
theorem Bd.mk' {n : Int} {w : List Int} (h : Lw n.toNat w) (lo : -9 ≤ n) (hi : n ≤ 100) (hl : w.length ≤ 500) : Bd (n, w) :=
  ⟨by show -1000 ≤ n; omega, by show n ≤ 1000; omega, by show w.length ≤ 1000; omega, fun x hx => by have := h x hx; omega⟩
theorem c_own (l : List Int) (h : l.length < 1000000) : R is_l01Own [tLI l] = some [tLI l] := by
  apply vs_l01Own
  have ap : apOk [] l = true := apOk0 (by omega)
  simp only [bs_l01Own, ap, cond_true]
theorem c_broken (s : Sc) (hs : Src s) (a : Int × List Int) (ha : Bd a) (hl : a.2.length ≤ 500) : ∃ (b : Int × List Int) (s' : Sc), R is_l01Broken [tPLU8PIU64 s, tPILI a] = some [tPILI b, tPLU8PIU64 s'] ∧ Src s' ∧ Bd b := by
  obtain ⟨r, s1, hr, hs1, r0, r1⟩ := c_next s hs 30
  by_cases h0 : r = 0
  · obtain ⟨n, s2, hn, hs2, hm⟩ := c_pick s1 hs1 [0, 9, 1, (-1)] (by simp) (by simp)
    refine ⟨(n, a.2), s2, ?_, hs2, ⟨?_, ?_, ha.len, ha.rng⟩⟩
    · apply vs_l01Broken
      simp [bs_l01Broken, hr, h0, hn]
    · simp at hm; show -1000 ≤ n; omega
    · simp at hm; show n ≤ 1000; omega
  · have q0 : (r == 0) = false := by simp [h0]
    by_cases h1 : r = 1
    · have q1 : (r == 1) = true := by simp [h1]
      obtain ⟨x, s2, hx, hs2, hm⟩ := c_pick s1 hs1 [0, a.1, (wi64 (0 - a.1))] (by simp) (by simp)
      have A := ha.lo
      have B := ha.hi
      have w : wi64 (0 - a.1) = -a.1 := by rw [wrap_i64] <;> omega
      have ap : apOk a.2 [x] = true := apOk1 (by have := ha.len; omega)
      refine ⟨(a.1, a.2 ++ [x]), s2, ?_, hs2, ⟨A, B, by show (a.2 ++ [x]).length ≤ 1000; simp; omega, fun y hy => ?_⟩⟩
      · apply vs_l01Broken
        simp only [bs_l01Broken, hr, Option.bind_some, getTV_here, getTV_next, q0, q1, cond_true, cond_false, c_own a.2 (by omega), hx, ap]
      · rcases List.mem_append.1 hy with h | h
        · exact ha.rng y h
        · rw [List.mem_singleton.1 h]
          rw [w] at hm
          simp at hm
          omega
    · have q1 : (r == 1) = false := by simp [h1]
      refine ⟨a, s1, ?_, hs1, ha⟩
      apply vs_l01Broken
      simp only [bs_l01Broken, hr, Option.bind_some, getTV_here, getTV_next, q0, q1, cond_true, cond_false]
theorem c_drawBraid (s : Sc) (hs : Src s) : ∃ (b : Int × List Int) (s' : Sc), R is_l01DrawBraid [tPLU8PIU64 s] = some [tPILI b, tPLU8PIU64 s'] ∧ Src s' ∧ Bd b ∧ b.2.length ≤ 500 := by
  obtain ⟨r1, s1, h1, hs1, m1⟩ := c_pick s hs [2, 3, 5] (by simp) (by simp)
  obtain ⟨r2, s2, h2, hs2, a2, b2'⟩ := c_next s1 hs1 r1
  have b2 : r2 < r1 := by simp at m1; exact b2' (by omega)
  obtain ⟨r3, s3, h3, hs3, m3⟩ := c_pick s2 hs2 [4, 10, 20] (by simp) (by simp)
  simp at m1 m3
  have w : wi64 (2 + r2) = 2 + r2 := by rw [wrap_i64] <;> omega
  obtain ⟨w4, s4, h4, hs4, l4, n4⟩ := c_draw s3 hs3 (2 + r2) r3 (by omega) (by omega) (by omega) (by omega)
  refine ⟨(2 + r2, w4), s4, ?_, hs4, Bd.mk' l4 (by omega) (by omega) (by omega), by show w4.length ≤ 500; omega⟩
  apply vs_l01DrawBraid
  simp only [bs_l01DrawBraid, h1, h2, h3, Option.bind_some, getTV_here, getTV_next, w, h4]
theorem c_spoil (s : Sc) (hs : Src s) : ∃ (b : Int × List Int) (s' : Sc), R is_l01Spoil [tPLU8PIU64 s] = some [tPILI b, tPLU8PIU64 s'] ∧ Src s' ∧ Bd b := by
  obtain ⟨r1, s1, h1, hs1, a1, b1⟩ := c_next s hs 12
  by_cases h0 : r1 = 0
  · have q0 : (r1 == 0) = true := by simp [h0]
    obtain ⟨r2, s2, h2, hs2, m2⟩ := c_pick s1 hs1 [1, 7, 8] (by simp) (by simp)
    simp at m2
    obtain ⟨w3, s3, h3, hs3, l3, n3⟩ := c_draw s2 hs2 r2 40 (by omega) (by omega) (by omega) (by omega)
    obtain ⟨b, s4, h4, hs4, hb⟩ := c_broken s3 hs3 (r2, w3) (Bd.mk' l3 (by omega) (by omega) (by omega)) (by show w3.length ≤ 500; omega)
    refine ⟨b, s4, ?_, hs4, hb⟩
    apply vs_l01Spoil
    simp only [bs_l01Spoil, h1, h2, h3, h4, Option.bind_some, getTV_here, getTV_next, q0, cond_true]
  · have q0 : (r1 == 0) = false := by simp [h0]
    obtain ⟨a, s2, h2, hs2, ha, hl⟩ := c_drawBraid s1 hs1
    obtain ⟨b, s4, h4, hs4, hb⟩ := c_broken s2 hs2 a ha hl
    refine ⟨b, s4, ?_, hs4, hb⟩
    apply vs_l01Spoil
    simp only [bs_l01Spoil, h1, h2, h4, Option.bind_some, getTV_here, getTV_next, q0, cond_false]
theorem nOf_len {n : Nat} (h1 : 1 ≤ n) (w : List Int) (hw : Lw n w) : (nOf n w).2.length ≤ w.length ∧ -(w.length : Int) ≤ (nOf n w).1 ∧ (nOf n w).1 ≤ w.length := by
  by_cases h2 : 2 ≤ n
  · have := foldN_ok h2 w (OkJ.zero n)
    rw [Nat.zero_add] at this
    exact ⟨this.len, this.lo, by have := this.hi; show (List.foldl stepN (0, []) w).1 ≤ _; omega⟩
  · obtain rfl : n = 1 := by omega
    rw [Lw_one hw]
    simp [nOf]
/-- A normal form that was drawn, perhaps spoilt. -/
structure Nd (a : Int × Int × List (List Int)) : Prop where
  rows : Rows8 a.2.2
  len : a.2.2.length ≤ 100
  lo : -1000 ≤ a.2.1
  hi : a.2.1 ≤ 1000
  n0 : 1 ≤ a.1
  n8 : a.1 ≤ 8
theorem Nd.l {a : Int × Int × List (List Int)} (h : Nd a) : a.2.2.length < 1000000000 := by have := h.len; omega
theorem c_l03Draw (s : Sc) (hs : Src s) (n : Int) (h1 : 1 ≤ n) (hn : n ≤ 8) : ∃ (b : Int × Int × List (List Int)) (s' : Sc), R is_l03Draw [tPLU8PIU64 s, tI n] = some [tPIPILA8 b, tPLU8PIU64 s'] ∧ Src s' ∧ Nd b ∧ b.2.2.length ≤ 14 ∧ b.1 = n := by
  obtain ⟨w, s1, h, hs1, hw, hl⟩ := c_draw s hs n 14 (by omega) (by omega) (by omega) (by omega)
  have h' := c_l03Of n.toNat (by omega) (by omega) w hw (by omega)
  rw [show ((n.toNat : Nat) : Int) = n by omega] at h'
  have hb := nOf_len (show 1 ≤ n.toNat by omega) w hw
  refine ⟨enc (nOf n.toNat w), s1, ?_, hs1, ⟨sL_rows (by omega) _, ?_, ?_, ?_, ?_, ?_⟩, ?_, ?_⟩
  · apply vs_l03Draw
    simp only [bs_l03Draw, h, h', Option.bind_some, getTV_here, getTV_next]
  · simp only [enc, sL_len]; omega
  · simp only [enc]; omega
  · simp only [enc]; omega
  · simp only [enc]; omega
  · simp only [enc]; omega
  · simp only [enc, sL_len]; omega
  · simp only [enc]; omega
theorem rows_app {A B : List (List Int)} (h : Rows8 A) (h' : Rows8 B) : Rows8 (A ++ B) := fun x hx => by
  rcases List.mem_append.1 hx with q | q
  · exact h x q
  · exact h' x q
theorem rows_one {n : Nat} (hn : n ≤ 8) (s : Pm n) : Rows8 [sA s] := fun x hx => by
  have := sL_rows hn [s]
  exact this x (by simpa [sL] using hx)
theorem c_l03Some (s : Sc) (hs : Src s) : ∃ (b : Int × Int × List (List Int)) (s' : Sc), R is_l03Some [tPLU8PIU64 s] = some [tPIPILA8 b, tPLU8PIU64 s'] ∧ Src s' ∧ Nd b := by
  obtain ⟨n, s1, h1, hs1, m1⟩ := c_pick s hs [1, 2, 3, 3, 4, 4, 5, 6] (by simp) (by simp)
  have n1 : 1 ≤ n ∧ n ≤ 6 := by simp at m1; omega
  clear m1
  obtain ⟨b, s2, h2, hs2, hb, hl, rfl⟩ := c_l03Draw s1 hs1 n (by omega) (by omega)
  obtain ⟨r, s3, h3, hs3, r0, r1⟩ := c_next s2 hs2 40
  obtain ⟨m, hm⟩ : ∃ m : Nat, b.1 = (m : Int) := ⟨b.1.toNat, by omega⟩
  by_cases q0 : r = 0
  · have p0 : (r == 0) = true := by simp [q0]
    obtain ⟨x, s4, h4, hs4, m4⟩ := c_pick s3 hs3 [201, (-201), 200] (by simp) (by simp)
    simp at m4
    refine ⟨(b.1, x, b.2.2), s4, ?_, hs4, ⟨hb.rows, hb.len, by show -1000 ≤ x; omega, by show x ≤ 1000; omega, hb.n0, hb.n8⟩⟩
    apply vs_l03Some
    simp only [bs_l03Some, h1, h2, h3, h4, Option.bind_some, getTV_here, getTV_next, p0, cond_true]
  have p0 : (r == 0) = false := by simp [q0]
  by_cases q1 : r = 1
  · have p1 : (r == 1) = true := by simp [q1]
    have c := c_l02Same m (by omega)
    rw [← hm] at c
    have ap : apOk b.2.2 [sA (1 : Pm m)] = true := apOk1 (by omega)
    refine ⟨(b.1, b.2.1, b.2.2 ++ [sA (1 : Pm m)]), s3, ?_, hs3, ⟨rows_app hb.rows (rows_one (by omega) _), by show (b.2.2 ++ [sA (1 : Pm m)]).length ≤ 100; simp; omega, hb.lo, hb.hi, hb.n0, hb.n8⟩⟩
    apply vs_l03Some
    simp only [bs_l03Some, h1, h2, h3, c, Option.bind_some, getTV_here, getTV_next, p0, p1, cond_true, cond_false, ap]
  have p1 : (r == 1) = false := by simp [q1]
  by_cases q2 : r = 2
  · have p2 : (r == 2) = true := by simp [q2]
    have c := c_l02Half m (by omega)
    rw [← hm] at c
    have ap : apOk [sA (Pm.half m)] b.2.2 = true := apOk2 (by simp; omega)
    refine ⟨(b.1, b.2.1, [sA (Pm.half m)] ++ b.2.2), s3, ?_, hs3, ⟨rows_app (rows_one (by omega) _) hb.rows, by show ([sA (Pm.half m)] ++ b.2.2).length ≤ 100; simp; omega, hb.lo, hb.hi, hb.n0, hb.n8⟩⟩
    apply vs_l03Some
    simp only [bs_l03Some, h1, h2, h3, c, Option.bind_some, getTV_here, getTV_next, p0, p1, p2, cond_true, cond_false, ap]
  have p2 : (r == 2) = false := by simp [q2]
  by_cases q3 : r = 3
  · have p3 : (r == 3) = true := by simp [q3]
    by_cases l1 : 1 < b.2.2.length
    · have pl : decide ((1 : Int) < ((b.2.2.length : Nat) : Int)) = true := decide_eq_true (by omega)
      have ap : apOk [List.getD b.2.2 1 (List.replicate 8 0)] b.2.2 = true := apOk2 (by simp; omega)
      refine ⟨(b.1, b.2.1, [List.getD b.2.2 1 (List.replicate 8 0)] ++ b.2.2), s3, ?_, hs3, ⟨rows_app (fun x hx => ?_) hb.rows, by show ([List.getD b.2.2 1 (List.replicate 8 0)] ++ b.2.2).length ≤ 100; simp; omega, hb.lo, hb.hi, hb.n0, hb.n8⟩⟩
      · apply vs_l03Some
        simp only [bs_l03Some, h1, h2, h3, Option.bind_some, getTV_here, getTV_next, p0, p1, p2, p3, pl, cond_true, cond_false, ap]
      · rw [List.mem_singleton.1 hx, getD8 l1]
        exact hb.rows.at l1
    · have pl : decide ((1 : Int) < ((b.2.2.length : Nat) : Int)) = false := decide_eq_false (by omega)
      refine ⟨b, s3, ?_, hs3, hb⟩
      apply vs_l03Some
      simp only [bs_l03Some, h1, h2, h3, Option.bind_some, getTV_here, getTV_next, p0, p1, p2, p3, pl, cond_true, cond_false]
  · have p3 : (r == 3) = false := by simp [q3]
    refine ⟨b, s3, ?_, hs3, hb⟩
    apply vs_l03Some
    simp only [bs_l03Some, h1, h2, h3, Option.bind_some, getTV_here, getTV_next, p0, p1, p2, p3, cond_true, cond_false]
/-! ### the draws of arguments -/
def Bytes (a : List Int) : Prop := (∀ x ∈ a, 0 ≤ x ∧ x ≤ 255) ∧ a.length ≤ 4096
theorem c_DrawNormalOf (a : List Int) (h : Bytes a) : ∃ b, R is_DrawNormalOf [tLU8 a] = some [tPILI b] ∧ Bd b := by
  obtain ⟨s, e, hs⟩ := c_l01From a h.1 h.2
  obtain ⟨b, s', e', _, hb⟩ := c_spoil s hs
  refine ⟨b, ?_, hb⟩
  apply vs_DrawNormalOf
  simp only [bs_DrawNormalOf, e, e', Option.bind_some, getTV_here, getTV_next]
theorem c_DrawRightNormalOf (a : List Int) (h : Bytes a) : ∃ b, R is_DrawRightNormalOf [tLU8 a] = some [tPILI b] ∧ Bd b := by
  obtain ⟨s, e, hs⟩ := c_l01From a h.1 h.2
  obtain ⟨b, s', e', _, hb⟩ := c_spoil s hs
  refine ⟨b, ?_, hb⟩
  apply vs_DrawRightNormalOf
  simp only [bs_DrawRightNormalOf, e, e', Option.bind_some, getTV_here, getTV_next]
theorem c_DrawWordOfNormal (a : List Int) (h : Bytes a) : ∃ b, R is_DrawWordOfNormal [tLU8 a] = some [tPIPILA8 b] ∧ Nd b := by
  obtain ⟨s, e, hs⟩ := c_l01From a h.1 h.2
  obtain ⟨b, s', e', _, hb⟩ := c_l03Some s hs
  refine ⟨b, ?_, hb⟩
  apply vs_DrawWordOfNormal
  simp only [bs_DrawWordOfNormal, e, e', Option.bind_some, getTV_here, getTV_next]
theorem c_DrawLengthsOf (a : List Int) (h : Bytes a) : ∃ b, R is_DrawLengthsOf [tLU8 a] = some [tPIPILA8 b] ∧ Nd b := by
  obtain ⟨s, e, hs⟩ := c_l01From a h.1 h.2
  obtain ⟨b, s', e', _, hb⟩ := c_l03Some s hs
  refine ⟨b, ?_, hb⟩
  apply vs_DrawLengthsOf
  simp only [bs_DrawLengthsOf, e, e', Option.bind_some, getTV_here, getTV_next]
theorem c_DrawInverseNormal (a : List Int) (h : Bytes a) : ∃ b, R is_DrawInverseNormal [tLU8 a] = some [tPIPILA8 b] ∧ Nd b := by
  obtain ⟨s, e, hs⟩ := c_l01From a h.1 h.2
  obtain ⟨b, s', e', _, hb⟩ := c_l03Some s hs
  refine ⟨b, ?_, hb⟩
  apply vs_DrawInverseNormal
  simp only [bs_DrawInverseNormal, e, e', Option.bind_some, getTV_here, getTV_next]
theorem c_DrawFractionOf (a : List Int) (h : Bytes a) : ∃ b, R is_DrawFractionOf [tLU8 a] = some [tPIPILA8 b] ∧ Nd b := by
  obtain ⟨s, e, hs⟩ := c_l01From a h.1 h.2
  obtain ⟨b, s', e', _, hb⟩ := c_l03Some s hs
  refine ⟨b, ?_, hb⟩
  apply vs_DrawFractionOf
  simp only [bs_DrawFractionOf, e, e', Option.bind_some, getTV_here, getTV_next]
theorem c_DrawPowerNormal (a : List Int) (h : Bytes a) : ∃ (b : Int × Int × List (List Int)) (k : Int), R is_DrawPowerNormal [tLU8 a] = some [tPIPILA8 b, tI k] ∧ Nd b ∧ -100 ≤ k ∧ k ≤ 100 := by
  obtain ⟨s, e, hs⟩ := c_l01From a h.1 h.2
  obtain ⟨b, s2, e2, hs2, hb⟩ := c_l03Some s hs
  obtain ⟨r3, s3, e3, hs3, a3, b3⟩ := c_next s2 hs2 5
  obtain ⟨r4, s4, e4, hs4, a4, b4⟩ := c_next s3 hs3 9
  obtain ⟨r5, s5, e5, hs5, a5, b5⟩ := c_next s4 hs4 30
  have w1 : wi64 (r4 - 4) = r4 - 4 := by have := b4 (by omega); rw [wrap_i64] <;> omega
  have w2 : wi64 (r5 - 12) = r5 - 12 := by have := b5 (by omega); rw [wrap_i64] <;> omega
  obtain ⟨k, s6, e6, hs6, m6⟩ := c_pick s5 hs5 [r3, r4 - 4, r5 - 12, 51] (by simp) (by simp)
  have := b3 (by omega)
  have := b4 (by omega)
  have := b5 (by omega)
  refine ⟨b, k, ?_, hb, ?_, ?_⟩
  · apply vs_DrawPowerNormal
    simp only [bs_DrawPowerNormal, e, e2, e3, e4, e5, w1, w2, e6, Option.bind_some, getTV_here, getTV_next]
  · simp at m6; omega
  · simp at m6; omega
theorem c_l03Pair (a : List Int) (h : Bytes a) : ∃ b c, R is_l03Pair [tLU8 a] = some [tPIPILA8 b, tPIPILA8 c] ∧ Nd b ∧ Nd c := by
  obtain ⟨s, e, hs⟩ := c_l01From a h.1 h.2
  obtain ⟨b, s2, e2, hs2, hb⟩ := c_l03Some s hs
  have e3 := c_l03Is b hb.rows
  cases h3 : isNm b with
  | true =>
    rw [h3] at e3
    obtain ⟨r4, s4, e4, hs4, a4, b4⟩ := c_next s2 hs2 12
    by_cases h4 : 0 < r4
    · have p4 : decide (0 < r4) = true := decide_eq_true h4
      obtain ⟨c, s5, e5, _, hc, _⟩ := c_l03Draw s4 hs4 b.1 hb.n0 hb.n8
      refine ⟨b, c, ?_, hb, hc⟩
      apply vs_l03Pair
      simp only [bs_l03Pair, e, e2, e3, e4, e5, p4, cond_true, Option.bind_some, getTV_here, getTV_next]
    · have p4 : decide (0 < r4) = false := decide_eq_false h4
      obtain ⟨c, s5, e5, _, hc⟩ := c_l03Some s4 hs4
      refine ⟨b, c, ?_, hb, hc⟩
      apply vs_l03Pair
      simp only [bs_l03Pair, e, e2, e3, e4, e5, p4, cond_true, cond_false, Option.bind_some, getTV_here, getTV_next]
  | false =>
    rw [h3] at e3
    obtain ⟨c, s5, e5, _, hc⟩ := c_l03Some s2 hs2
    refine ⟨b, c, ?_, hb, hc⟩
    apply vs_l03Pair
    simp only [bs_l03Pair, e, e2, e3, e5, cond_true, cond_false, Option.bind_some, getTV_here, getTV_next]
theorem c_DrawMultiplyNormals (a : List Int) (h : Bytes a) : ∃ b c, R is_DrawMultiplyNormals [tLU8 a] = some [tPIPILA8 b, tPIPILA8 c] ∧ Nd b ∧ Nd c := by
  obtain ⟨b, c, e, hb, hc⟩ := c_l03Pair a h
  refine ⟨b, c, ?_, hb, hc⟩
  apply vs_DrawMultiplyNormals
  simp only [bs_DrawMultiplyNormals, e, Option.bind_some, getTV_here, getTV_next]
theorem fit_bytes {a : List Int} (h : Fit (.slice (.int .u8)) a) : a.length ≤ 9223372036854775807 ∧ ∀ x ∈ a, 0 ≤ x ∧ x ≤ 255 := by
  exact ⟨h.1, fun x hx => wf_u8 (h.2 x hx)⟩
theorem c_big (a : List Int) : R iw_big [tLU8 a] = some [tB (decide (4096 < ((a.length : Nat) : Int)))] := by
  apply vw_big
  simp only [bw_big]
end Go.Ev.Ytpfpjhfimmmkmaa
