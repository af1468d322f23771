/- Handles: draws. -/
import Derived.Test.YteclcmiopobnaaaMd5
import Derived.Test.YteclcmiopobnaaaMh4
set_option linter.unusedVariables false
set_option linter.unusedSimpArgs false
namespace Go.Ev.Yteclcmiopobnaaa
open Go.Ev
theorem Bd.take {a : Int × List Int} (h : Bd a) (k : Nat) : Bd (a.1, a.2.take k) :=
  ⟨h.lo, h.hi, by show (a.2.take k).length ≤ 1000; rw [List.length_take]; have := h.len; omega, fun x hx => h.rng x (List.mem_of_mem_take hx)⟩
theorem c_DrawFirstHandle (a : List Int) (h : Bytes a) : ∃ b, R is_DrawFirstHandle [tLU8 a] = some [tPILI b] ∧ Bd b := by
  obtain ⟨s, e, hs⟩ := c_l01From a h.1 h.2
  obtain ⟨b, s', e', _, hb⟩ := c_spoil s hs
  refine ⟨b, ?_, hb⟩
  apply vs_DrawFirstHandle
  simp only [bs_DrawFirstHandle, e, e', Option.bind_some, getTV_here, getTV_next]
theorem c_DrawReduceHandle_5 (x0 x2 : Int) (x1 : List Int) : ∀ (k : Nat) (w : List Int), (∀ x ∈ w, -1000 ≤ x ∧ x ≤ 1000) → w.length + k ≤ 500 → ∃ v : List Int, v.length ≤ 500 ∧ (∀ x ∈ v, -1000 ≤ x ∧ x ≤ 1000) ∧ R is_DrawReduceHandle_5 [tI x0, tLI x1, tI x2, tLI w, tI (k : Int)] = some [tI 0, tI x0, tLI x1, tI x2, tLI v] := by
  intro k
  induction k with
  | zero =>
    intro w hw hl
    refine ⟨w, by omega, hw, ?_⟩
    apply vs_DrawReduceHandle_5
    simp [bs_DrawReduceHandle_5]
  | succ k ih =>
    intro w hw hl
    obtain ⟨v, h1, h2, h3⟩ := ih (w ++ [2]) (fun x hx => by
      rcases List.mem_append.1 hx with q | q
      · exact hw x q
      · rw [List.mem_singleton.1 q]; omega) (by simp; omega)
    refine ⟨v, h1, h2, ?_⟩
    apply vs_DrawReduceHandle_5
    have p1 : decide ((0 : Int) < ((k + 1 : Nat) : Int)) = true := decide_eq_true (by omega)
    have ap : apOk w [(2 : Int)] = true := apOk1 (by omega)
    have w1 : wi64 (((k + 1 : Nat) : Int) - 1) = (k : Int) := by rw [wrap_i64] <;> omega
    simp only [bs_DrawReduceHandle_5, p1, cond_true, ap, w1, h3]
theorem c_DrawReduceHandle (a : List Int) (h : Bytes a) : ∃ b, R is_DrawReduceHandle [tLU8 a] = some [tPILI b] ∧ Bd b := by
  obtain ⟨s, e, hs⟩ := c_l01From a h.1 h.2
  obtain ⟨r, s2, e2, hs2, _, _⟩ := c_next s hs 24
  by_cases h0 : r = 0
  · have p0 : (r == 0) = true := by simp [h0]
    obtain ⟨k, s3, e3, _, m3⟩ := c_pick s2 hs2 [66, 67, 80, 198] (by simp) (by simp)
    simp at m3
    obtain ⟨v, h1, h2, e4⟩ := c_DrawReduceHandle_5 0 3 [] k.toNat [1] (by simp) (by simp; omega)
    rw [show ((k.toNat : Nat) : Int) = k by omega] at e4
    have ap : apOk v [(-1 : Int)] = true := apOk1 (by omega)
    refine ⟨(3, v ++ [-1]), ?_, ⟨by show -1000 ≤ (3 : Int); omega, by show (3 : Int) ≤ 1000; omega, by show (v ++ [-1]).length ≤ 1000; simp; omega, fun x hx => ?_⟩⟩
    · apply vs_DrawReduceHandle
      simp only [bs_DrawReduceHandle, e, e2, e3, e4, p0, cond_true, Option.bind_some, getTV_here, getTV_next, ap]
    · rcases List.mem_append.1 hx with q | q
      · exact h2 x q
      · rw [List.mem_singleton.1 q]; omega
  · have p0 : (r == 0) = false := by simp [h0]
    obtain ⟨b, s3, e3, _, hb⟩ := c_spoil s2 hs2
    refine ⟨b, ?_, hb⟩
    apply vs_DrawReduceHandle
    simp only [bs_DrawReduceHandle, e, e2, e3, p0, cond_false, Option.bind_some, getTV_here, getTV_next]
theorem c_l06Draw (s : Sc) (hs : Src s) : ∃ (b : Int × List Int) (s' : Sc), R is_l06Draw [tPLU8PIU64 s] = some [tPILI b, tPLU8PIU64 s'] ∧ Src s' ∧ Bd b := by
  obtain ⟨b, s1, e1, hs1, hb⟩ := c_spoil s hs
  by_cases h0 : 24 < b.2.length
  · have p0 : decide ((24 : Int) < ((b.2.length : Nat) : Int)) = true := decide_eq_true (by omega)
    obtain ⟨r, s2, e2, hs2, _, _⟩ := c_next s1 hs1 3
    by_cases h1 : 0 < r
    · have p2 : decide ((24 : Int) ≤ ((b.2.length : Nat) : Int)) = true := decide_eq_true (by omega)
      have o : R is_l01Own [tLI (b.2.take 24)] = some [tLI (b.2.take 24)] := c_own _ (by simp; omega)
      refine ⟨(b.1, b.2.take 24), s2, ?_, hs2, hb.take 24⟩
      apply vs_l06Draw
      simp only [bs_l06Draw, e1, e2, p0, decide_eq_true h1, p2, o, cond_true, Option.bind_some, getTV_here, getTV_next]
    · refine ⟨b, s2, ?_, hs2, hb⟩
      apply vs_l06Draw
      simp only [bs_l06Draw, e1, e2, p0, decide_eq_false h1, cond_true, cond_false, Option.bind_some, getTV_here, getTV_next]
  · have p0 : decide ((24 : Int) < ((b.2.length : Nat) : Int)) = false := decide_eq_false (by omega)
    refine ⟨b, s1, ?_, hs1, hb⟩
    apply vs_l06Draw
    simp only [bs_l06Draw, e1, p0, cond_false, Option.bind_some, getTV_here, getTV_next]
theorem c_DrawHandleFree (a : List Int) (h : Bytes a) : ∃ b, R is_DrawHandleFree [tLU8 a] = some [tPILI b] ∧ Bd b := by
  obtain ⟨s, e, hs⟩ := c_l01From a h.1 h.2
  obtain ⟨b, s', e', _, hb⟩ := c_l06Draw s hs
  refine ⟨b, ?_, hb⟩
  apply vs_DrawHandleFree
  simp only [bs_DrawHandleFree, e, e', Option.bind_some, getTV_here, getTV_next]
theorem c_DrawWordSign (a : List Int) (h : Bytes a) : ∃ b, R is_DrawWordSign [tLU8 a] = some [tPILI b] ∧ Bd b := by
  obtain ⟨s, e, hs⟩ := c_l01From a h.1 h.2
  obtain ⟨b, s2, e2, hs2, hb⟩ := c_spoil s hs
  by_cases h0 : 3 < b.2.length
  · have p0 : decide ((3 : Int) < ((b.2.length : Nat) : Int)) = true := decide_eq_true (by omega)
    obtain ⟨r, s3, e3, hs3, _, _⟩ := c_next s2 hs2 2
    by_cases h1 : r = 0
    · have p1 : (r == 0) = true := by simp [h1]
      obtain ⟨t, s4, e4, hs4, t0, t1⟩ := c_next s3 hs3 3
      have t1' := t1 (by omega)
      have w : wi64 (1 + t) = 1 + t := by rw [wrap_i64] <;> omega
      have p2 : decide (0 ≤ 1 + t) = true := decide_eq_true (by omega)
      have p3 : decide (1 + t ≤ ((b.2.length : Nat) : Int)) = true := decide_eq_true (by omega)
      have hl := hb.len
      have o : R is_l01Own [tLI (b.2.take (1 + t).toNat)] = some [tLI (b.2.take (1 + t).toNat)] := c_own _ (by rw [List.length_take]; omega)
      refine ⟨(b.1, b.2.take (1 + t).toNat), ?_, hb.take _⟩
      apply vs_DrawWordSign
      simp only [bs_DrawWordSign, e, e2, e3, e4, p0, p1, w, p2, p3, Bool.and_true, o, cond_true, Option.bind_some, getTV_here, getTV_next]
    · have p1 : (r == 0) = false := by simp [h1]
      refine ⟨b, ?_, hb⟩
      apply vs_DrawWordSign
      simp only [bs_DrawWordSign, e, e2, e3, p0, p1, cond_true, cond_false, Option.bind_some, getTV_here, getTV_next]
  · have p0 : decide ((3 : Int) < ((b.2.length : Nat) : Int)) = false := decide_eq_false (by omega)
    refine ⟨b, ?_, hb⟩
    apply vs_DrawWordSign
    simp only [bs_DrawWordSign, e, e2, p0, cond_false, Option.bind_some, getTV_here, getTV_next]
/-- The last letter that may be drawn. -/
theorem last_letter {n : Nat} (h2 : 2 ≤ n) (hn : n ≤ 8) (s : Sc) (hs : Src s) (out : List Int) (hw : Ld n out) (hl : out.length ≤ 500) :
    ∃ (b : Int × List Int) (s' : Sc), ((R is_l01Next [tPLU8PIU64 s, tI 3]).bind fun o11 =>
      bif ((gI o11 0) == 0) then
        (R is_l01Pick [tPLU8PIU64 ((gPLU8PIU64 o11 1).1, (((gPLU8PIU64 o11 1).2).1, ((gPLU8PIU64 o11 1).2).2)), tLI [1, (-1)]]).bind fun o12 =>
        (R is_l01Next [tPLU8PIU64 ((gPLU8PIU64 o12 1).1, (((gPLU8PIU64 o12 1).2).1, ((gPLU8PIU64 o12 1).2).2)), tI (wi64 ((n : Int) - 1))]).bind fun o13 =>
        bif (apOk out [(wi64 ((gI o12 0) * (wi64 (1 + (gI o13 0)))))]) then
          some [tPILI ((n : Int), (out ++ [(wi64 ((gI o12 0) * (wi64 (1 + (gI o13 0)))))])), tPLU8PIU64 ((gPLU8PIU64 o13 1).1, (((gPLU8PIU64 o13 1).2).1, ((gPLU8PIU64 o13 1).2).2))]
        else none
      else
        some [tPILI ((n : Int), out), tPLU8PIU64 ((gPLU8PIU64 o11 1).1, (((gPLU8PIU64 o11 1).2).1, ((gPLU8PIU64 o11 1).2).2))]) = some [tPILI b, tPLU8PIU64 s'] ∧ Src s' ∧ Bd b := by
  obtain ⟨r, s1, e1, hs1, _, _⟩ := c_next s hs 3
  by_cases h0 : r = 0
  · have p0 : (r == 0) = true := by simp [h0]
    obtain ⟨k, s2, e2, hs2, m2⟩ := c_pick s1 hs1 [1, -1] (by simp) (by simp)
    have wn : wi64 ((n : Int) - 1) = (n : Int) - 1 := by rw [wrap_i64] <;> omega
    obtain ⟨t, s3, e3, hs3, t0, t1⟩ := c_next s2 hs2 ((n : Int) - 1)
    have t1' := t1 (by omega)
    have w1 : wi64 (1 + t) = 1 + t := by rw [wrap_i64] <;> omega
    obtain ⟨x, hx, hx'⟩ : ∃ x : Int, wi64 (k * (1 + t)) = x ∧ -1000 ≤ x ∧ x ≤ 1000 := by
      simp at m2
      rcases m2 with rfl | rfl
      · exact ⟨1 + t, by rw [Int.one_mul, wrap_i64] <;> omega, by omega, by omega⟩
      · exact ⟨-(1 + t), by rw [Int.neg_mul, Int.one_mul, wrap_i64] <;> omega, by omega, by omega⟩
    have ap : apOk out [x] = true := apOk1 (by omega)
    refine ⟨((n : Int), out ++ [x]), s3, ?_, hs3, ⟨by show -1000 ≤ (n : Int); omega, by show (n : Int) ≤ 1000; omega, by show (out ++ [x]).length ≤ 1000; simp; omega, fun y hy => ?_⟩⟩
    · simp only [e1, e2, e3, p0, wn, w1, hx, ap, cond_true, Option.bind_some, getTV_here, getTV_next]
    · rcases List.mem_append.1 hy with q | q
      · have := hw y q; omega
      · rw [List.mem_singleton.1 q]; omega
  · have p0 : (r == 0) = false := by simp [h0]
    refine ⟨((n : Int), out), s1, ?_, hs1, ⟨by show -1000 ≤ (n : Int); omega, by show (n : Int) ≤ 1000; omega, by show out.length ≤ 1000; omega, fun y hy => by have := hw y hy; omega⟩⟩
    simp only [e1, p0, cond_false, Option.bind_some, getTV_here, getTV_next]
theorem Ld.app {n : Nat} {u w : List Int} (h : Ld n u) (h' : Ld n w) : Ld n (u ++ w) := fun x hx => by
  rcases List.mem_append.1 hx with q | q
  · exact h x q
  · exact h' x q
theorem Ld.inv {n : Nat} {w : List Int} (h : Ld n w) : Ld n (invL w) := fun x hx => by
  simp only [invL, List.mem_map, List.mem_reverse] at hx
  obtain ⟨y, hy, rfl⟩ := hx
  have := h y hy
  omega
theorem c_l06Trivial (s : Sc) (hs : Src s) : ∃ (b : Int × List Int) (s' : Sc), R is_l06Trivial [tPLU8PIU64 s] = some [tPILI b, tPLU8PIU64 s'] ∧ Src s' ∧ Bd b := by
  obtain ⟨r, s1, e1, hs1, r0, r1⟩ := c_next s hs 4
  have r1' := r1 (by omega)
  obtain ⟨n, hn⟩ : ∃ n : Nat, 2 + r = (n : Int) := ⟨(2 + r).toNat, by omega⟩
  have w1 : wi64 (2 + r) = (n : Int) := by rw [wrap_i64] <;> omega
  obtain ⟨w, s2, e2, hs2, hw, hl⟩ := c_draw s1 hs1 (n : Int) 8 (by omega) (by omega) (by omega) (by omega)
  rw [Int.toNat_natCast] at hw
  have hLt : Lt w := fun x hx => by have := hw x hx; omega
  have e3 : R is_l01Own [tLI w] = some [tLI w] := c_own _ (by omega)
  have e4 := c_l01Inverse w hLt (by omega)
  have li := invL_len w
  have ap : apOk w (invL w) = true := apOk2 (by omega)
  have hwi : Ld n (w ++ invL w) := hw.app hw.inv
  have lwi : (w ++ invL w).length ≤ 16 := by rw [List.length_append]; omega
  by_cases h0 : 2 < n
  · have p0 : decide ((2 : Int) < (n : Int)) = true := decide_eq_true (by omega)
    have w2 : wi64 ((n : Int) - 2) = (n : Int) - 2 := by rw [wrap_i64] <;> omega
    obtain ⟨t, s5, e5, hs5, t0, t1⟩ := c_next s2 hs2 ((n : Int) - 2)
    have t1' := t1 (by omega)
    have w3 : wi64 ((((w ++ invL w).length : Nat) : Int) + 1) = (((w ++ invL w).length : Nat) : Int) + 1 := by rw [wrap_i64] <;> omega
    obtain ⟨k, s6, e6, hs6, k0, k1⟩ := c_next s5 hs5 ((((w ++ invL w).length : Nat) : Int) + 1)
    have k1' := k1 (by omega)
    have q1 : decide (0 ≤ k) = true := decide_eq_true k0
    have q2 : decide (k ≤ (((w ++ invL w).length : Nat) : Int)) = true := decide_eq_true (by omega)
    have e7 : R is_l01Own [tLI ((w ++ invL w).take k.toNat)] = some [tLI ((w ++ invL w).take k.toNat)] := c_own _ (by rw [List.length_take]; omega)
    have v1 : wi64 (1 + t) = 1 + t := by rw [wrap_i64] <;> omega
    have v2 : wi64 (1 + t + 1) = 1 + t + 1 := by rw [wrap_i64] <;> omega
    have v3 : wi64 (0 - (1 + t)) = -(1 + t) := by rw [wrap_i64] <;> omega
    have v4 : wi64 (-(1 + t) - 1) = -(1 + t) - 1 := by rw [wrap_i64] <;> omega
    have tl : ((w ++ invL w).take k.toNat).length ≤ 16 := by rw [List.length_take]; omega
    have dl : ((w ++ invL w).drop k.toNat).length ≤ 16 := by rw [List.length_drop]; omega
    have a1 : apOk ((w ++ invL w).take k.toNat) [1 + t, 1 + t + 1, 1 + t, -(1 + t) - 1, -(1 + t), -(1 + t) - 1] = true := apOk2 (by simp only [List.length_cons, List.length_nil]; omega)
    have a2 : apOk ((w ++ invL w).take k.toNat ++ [1 + t, 1 + t + 1, 1 + t, -(1 + t) - 1, -(1 + t), -(1 + t) - 1]) ((w ++ invL w).drop k.toNat) = true := apOk2 (by simp only [List.length_append, List.length_cons, List.length_nil] at *; omega)
    have hall : Ld n (((w ++ invL w).take k.toNat ++ [1 + t, 1 + t + 1, 1 + t, -(1 + t) - 1, -(1 + t), -(1 + t) - 1]) ++ (w ++ invL w).drop k.toNat) := by
      refine Ld.app (Ld.app (fun x hx => hwi x (List.mem_of_mem_take hx)) (fun x hx => ?_)) (fun x hx => hwi x (List.mem_of_mem_drop hx))
      simp only [List.mem_cons, List.not_mem_nil, or_false] at hx
      omega
    obtain ⟨b, s', L, hs', hb⟩ := last_letter (by omega) (by omega) s6 hs6 _ hall (by simp only [List.length_append, List.length_cons, List.length_nil] at *; omega)
    refine ⟨b, s', ?_, hs', hb⟩
    apply vs_l06Trivial
    simp only [bs_l06Trivial, e1, w1, e2, e3, e4, ap, p0, w2, e5, w3, e6, q1, q2, Bool.and_true, e7, v1, v2, v3, v4, a1, a2, cond_true, Option.bind_some, getTV_here, getTV_next]
    exact L
  · have p0 : decide ((2 : Int) < (n : Int)) = false := decide_eq_false (by omega)
    obtain ⟨b, s', L, hs', hb⟩ := last_letter (by omega) (by omega) s2 hs2 _ hwi (by omega)
    refine ⟨b, s', ?_, hs', hb⟩
    apply vs_l06Trivial
    simp only [bs_l06Trivial, e1, w1, e2, e3, e4, ap, p0, cond_true, cond_false, Option.bind_some, getTV_here, getTV_next]
    exact L
theorem c_DrawMainLetter (a : List Int) (h : Bytes a) : ∃ b, R is_DrawMainLetter [tLU8 a] = some [tPILI b] ∧ Bd b := by
  obtain ⟨s, e, hs⟩ := c_l01From a h.1 h.2
  obtain ⟨r, s2, e2, hs2, _, _⟩ := c_next s hs 2
  by_cases h0 : r = 0
  · have p0 : (r == 0) = true := by simp [h0]
    obtain ⟨b, s', e', _, hb⟩ := c_l06Trivial s2 hs2
    refine ⟨b, ?_, hb⟩
    apply vs_DrawMainLetter
    simp only [bs_DrawMainLetter, e, e2, e', p0, cond_true, Option.bind_some, getTV_here, getTV_next]
  · have p0 : (r == 0) = false := by simp [h0]
    obtain ⟨b, s', e', _, hb⟩ := c_l06Draw s2 hs2
    refine ⟨b, ?_, hb⟩
    apply vs_DrawMainLetter
    simp only [bs_DrawMainLetter, e, e2, e', p0, cond_false, Option.bind_some, getTV_here, getTV_next]
theorem c_DrawIsTrivial (a : List Int) (h : Bytes a) : ∃ b, R is_DrawIsTrivial [tLU8 a] = some [tPILI b] ∧ Bd b := by
  obtain ⟨b, e, hb⟩ := c_DrawMainLetter a h
  refine ⟨b, ?_, hb⟩
  apply vs_DrawIsTrivial
  simp only [bs_DrawIsTrivial, e, Option.bind_some, getTV_here, getTV_next]
end Go.Ev.Yteclcmiopobnaaa
