/- Duals: draws. -/
import Derived.Test.YteclcmiopobnaaaMq6
import Derived.Test.YteclcmiopobnaaaMq3
import Derived.Test.YteclcmiopobnaaaMd5
set_option linter.unusedVariables false
set_option linter.unusedSimpArgs false
namespace Go.Ev.Yteclcmiopobnaaa.P
open Go.Ev.Yteclcmiopobnaaa
open Go.Ev Go.Gar
theorem ld_app {n : Nat} {u w : List Int} (h : Ld n u) (h' : Ld n w) : Ld n (u ++ w) := fun x hx => by
 rcases List.mem_append.1 hx with q | q
 · exact h x q
 · exact h' x q
theorem ld_inv {n : Nat} {w : List Int} (h : Ld n w) : Ld n (invL w) := fun x hx => by
 simp only [invL, List.mem_map, List.mem_reverse] at hx
 obtain ⟨y, hy, rfl⟩ := hx
 have := h y hy
 omega
theorem last_letter {n : Nat} (h2 : 2 ≤ n) (hn : n ≤ 8) (s : Sc) (hs : Src s) (out : List Int) (hw : Ld n out) (hl : out.length ≤ 500) :
  ∃ (b : Int × List Int) (s' : Sc), ((R is_l01Next [tPLU8PIU64 s, tI 3]).bind fun o11 =>
   bif ((gI o11 0) == 0) then
    (R is_l01Pick [tPLU8PIU64 ((gPLU8PIU64 o11 1).1, (((gPLU8PIU64 o11 1).2).1, ((gPLU8PIU64 o11 1).2).2)), tLI [1, (-1)]]).bind fun o12 =>
    (R is_l01Next [tPLU8PIU64 ((gPLU8PIU64 o12 1).1, (((gPLU8PIU64 o12 1).2).1, ((gPLU8PIU64 o12 1).2).2)), tI (wi64 ((n : Int) - 1))]).bind fun o13 =>
    bif (apOk out [(wi64 ((gI o12 0) * (wi64 (1 + (gI o13 0)))))]) then
     some [tPILI ((n : Int), (out ++ [(wi64 ((gI o12 0) * (wi64 (1 + (gI o13 0)))))])), tPLU8PIU64 ((gPLU8PIU64 o13 1).1, (((gPLU8PIU64 o13 1).2).1, ((gPLU8PIU64 o13 1).2).2))]
    else none
   else
    some [tPILI ((n : Int), out), tPLU8PIU64 ((gPLU8PIU64 o11 1).1, (((gPLU8PIU64 o11 1).2).1, ((gPLU8PIU64 o11 1).2).2))]) = some [tPILI b, tPLU8PIU64 s'] ∧ Src s' ∧ Go.Ev.Yteclcmiopobnaaa.Bd b := by
 obtain ⟨r, s1, e1, hs1, _, _⟩ := c_next s hs 3
 by_cases h0 : r = 0
 · have p0 : (r == 0) = true := by simp [h0]
   obtain ⟨k, s2, e2, hs2, m2⟩ := c_pick s1 hs1 [1, -1] (by simp) (by simp)
   have wn : wi64 ((n : Int) - 1) = (n : Int) - 1 := by rw [wrap_i64] <;> omega
   obtain ⟨t, s3, e3, hs3, t0, t1⟩ := c_next s2 hs2 ((n : Int) - 1)
   have t1' := t1 (by omega)
   have w1 : wi64 (1 + t) = 1 + t := by rw [wrap_i64] <;> omega
   obtain ⟨x, hx, hx'⟩ : ∃ x : Int, wi64 (k * (1 + t)) = x ∧ -1000 ≤ x ∧ x ≤ 1000 := by
    simp at m2
    rcases m2 with rfl | rfl
    · exact ⟨1 + t, by rw [Int.one_mul, wrap_i64] <;> omega, by omega, by omega⟩
    · exact ⟨-(1 + t), by rw [Int.neg_mul, Int.one_mul, wrap_i64] <;> omega, by omega, by omega⟩
   have ap : apOk out [x] = true := apOk1 (by omega)
   refine ⟨((n : Int), out ++ [x]), s3, ?_, hs3, ⟨by show -1000 ≤ (n : Int); omega, by show (n : Int) ≤ 1000; omega, by show (out ++ [x]).length ≤ 1000; simp; omega, fun y hy => ?_⟩⟩
   · simp only [e1, e2, e3, p0, wn, w1, hx, ap, cond_true, Option.bind_some, getTV_here, getTV_next]
   · rcases List.mem_append.1 hy with q | q
     · have := hw y q; omega
     · rw [List.mem_singleton.1 q]; omega
 · have p0 : (r == 0) = false := by simp [h0]
   refine ⟨((n : Int), out), s1, ?_, hs1, ⟨by show -1000 ≤ (n : Int); omega, by show (n : Int) ≤ 1000; omega, by show out.length ≤ 1000; omega, fun y hy => by have := hw y hy; omega⟩⟩
   simp only [e1, p0, cond_false, Option.bind_some, getTV_here, getTV_next]
theorem c_l06Trivial (s : Sc) (hs : Src s) : ∃ (b : Int × List Int) (s' : Sc), R is_l06Trivial [tPLU8PIU64 s] = some [tPILI b, tPLU8PIU64 s'] ∧ Src s' ∧ Go.Ev.Yteclcmiopobnaaa.Bd b := by
 obtain ⟨r, s1, e1, hs1, r0, r1⟩ := c_next s hs 4
 have r1' := r1 (by omega)
 obtain ⟨n, hn⟩ : ∃ n : Nat, 2 + r = (n : Int) := ⟨(2 + r).toNat, by omega⟩
 have w1 : wi64 (2 + r) = (n : Int) := by rw [wrap_i64] <;> omega
 obtain ⟨w, s2, e2, hs2, hw, hl⟩ := c_draw s1 hs1 (n : Int) 8 (by omega) (by omega) (by omega) (by omega)
 rw [Int.toNat_natCast] at hw
 have hLt : Lt w := fun x hx => by have := hw x hx; omega
 have e3 : R is_l01Own [tLI w] = some [tLI w] := c_own _ (by omega)
 have e4 := c_l01Inverse w hLt (by omega)
 have li := invL_len w
 have ap : apOk w (invL w) = true := apOk2 (by omega)
 have hwi : Ld n (w ++ invL w) := ld_app hw (ld_inv hw)
 have lwi : (w ++ invL w).length ≤ 16 := by rw [List.length_append]; omega
 by_cases h0 : 2 < n
 · have p0 : decide ((2 : Int) < (n : Int)) = true := decide_eq_true (by omega)
   have w2 : wi64 ((n : Int) - 2) = (n : Int) - 2 := by rw [wrap_i64] <;> omega
   obtain ⟨t, s5, e5, hs5, t0, t1⟩ := c_next s2 hs2 ((n : Int) - 2)
   have t1' := t1 (by omega)
   have w3 : wi64 ((((w ++ invL w).length : Nat) : Int) + 1) = (((w ++ invL w).length : Nat) : Int) + 1 := by rw [wrap_i64] <;> omega
   obtain ⟨k, s6, e6, hs6, k0, k1⟩ := c_next s5 hs5 ((((w ++ invL w).length : Nat) : Int) + 1)
   have k1' := k1 (by omega)
   have q1 : decide (0 ≤ k) = true := decide_eq_true k0
   have q2 : decide (k ≤ (((w ++ invL w).length : Nat) : Int)) = true := decide_eq_true (by omega)
   have e7 : R is_l01Own [tLI ((w ++ invL w).take k.toNat)] = some [tLI ((w ++ invL w).take k.toNat)] := c_own _ (by rw [List.length_take]; omega)
   have v1 : wi64 (1 + t) = 1 + t := by rw [wrap_i64] <;> omega
   have v2 : wi64 (1 + t + 1) = 1 + t + 1 := by rw [wrap_i64] <;> omega
   have v3 : wi64 (0 - (1 + t)) = -(1 + t) := by rw [wrap_i64] <;> omega
   have v4 : wi64 (-(1 + t) - 1) = -(1 + t) - 1 := by rw [wrap_i64] <;> omega
   have tl : ((w ++ invL w).take k.toNat).length ≤ 16 := by rw [List.length_take]; omega
   have dl : ((w ++ invL w).drop k.toNat).length ≤ 16 := by rw [List.length_drop]; omega
   have a1 : apOk ((w ++ invL w).take k.toNat) [1 + t, 1 + t + 1, 1 + t, -(1 + t) - 1, -(1 + t), -(1 + t) - 1] = true := apOk2 (by simp only [List.length_cons, List.length_nil]; omega)
   have a2 : apOk ((w ++ invL w).take k.toNat ++ [1 + t, 1 + t + 1, 1 + t, -(1 + t) - 1, -(1 + t), -(1 + t) - 1]) ((w ++ invL w).drop k.toNat) = true := apOk2 (by simp only [List.length_append, List.length_cons, List.length_nil] at *; omega)
   have hall : Ld n (((w ++ invL w).take k.toNat ++ [1 + t, 1 + t + 1, 1 + t, -(1 + t) - 1, -(1 + t), -(1 + t) - 1]) ++ (w ++ invL w).drop k.toNat) := by
    refine ld_app (ld_app (fun x hx => hwi x (List.mem_of_mem_take hx)) (fun x hx => ?_)) (fun x hx => hwi x (List.mem_of_mem_drop hx))
    simp only [List.mem_cons, List.not_mem_nil, or_false] at hx
    omega
   obtain ⟨b, s', L, hs', hb⟩ := last_letter (by omega) (by omega) s6 hs6 _ hall (by simp only [List.length_append, List.length_cons, List.length_nil] at *; omega)
   refine ⟨b, s', ?_, hs', hb⟩
   apply vs_l06Trivial
   simp only [bs_l06Trivial, e1, w1, e2, e3, e4, ap, p0, w2, e5, w3, e6, q1, q2, Bool.and_true, e7, v1, v2, v3, v4, a1, a2, cond_true, Option.bind_some, getTV_here, getTV_next]
   exact L
 · have p0 : decide ((2 : Int) < (n : Int)) = false := decide_eq_false (by omega)
   obtain ⟨b, s', L, hs', hb⟩ := last_letter (by omega) (by omega) s2 hs2 _ hwi (by omega)
   refine ⟨b, s', ?_, hs', hb⟩
   apply vs_l06Trivial
   simp only [bs_l06Trivial, e1, w1, e2, e3, e4, ap, p0, cond_true, cond_false, Option.bind_some, getTV_here, getTV_next]
   exact L
theorem c_DrawDualForm (a : List Int) (h : Bytes a) : ∃ b, R is_DrawDualForm [tLU8 a] = some [tPILI b] ∧ Go.Ev.Yteclcmiopobnaaa.Bd b := by
 obtain ⟨s, e, hs⟩ := c_l01From a h.1 h.2
 obtain ⟨b, s', e', _, hb⟩ := c_spoil s hs
 refine ⟨b, ?_, hb⟩
 apply vs_DrawDualForm
 simp only [bs_DrawDualForm, e, e', Option.bind_some, getTV_here, getTV_next]
theorem c_l01Two (a : List Int) (h : Bytes a) : ∃ b c, R is_l01Two [tLU8 a] = some [tPILI b, tPILI c] ∧ Go.Ev.Yteclcmiopobnaaa.Bd b ∧ Go.Ev.Yteclcmiopobnaaa.Bd c := by
 obtain ⟨s, e, hs⟩ := c_l01From a h.1 h.2
 obtain ⟨b, s2, e2, hs2, hb⟩ := c_spoil s hs
 obtain ⟨r, s3, e3, hs3, _, _⟩ := c_next s2 hs2 16
 by_cases h0 : r = 0
 · have p0 : (r == 0) = true := by simp [h0]
   obtain ⟨c, s4, e4, _, hc⟩ := c_spoil s3 hs3
   refine ⟨b, c, ?_, hb, hc⟩
   apply vs_l01Two
   simp only [bs_l01Two, e, e2, e3, e4, p0, cond_true, Option.bind_some, getTV_here, getTV_next]
 · have p0 : (r == 0) = false := by simp [h0]
   obtain ⟨k, s4, e4, hs4, m4⟩ := c_pick s3 hs3 [4, 10, 20] (by simp) (by simp)
   simp at m4
   have hb1 := hb.lo
   have hb2 := hb.hi
   obtain ⟨n, hn, n1, n8⟩ : ∃ n : Int, mn (mx b.1 1) 8 = n ∧ 1 ≤ n ∧ n ≤ 8 := by
    refine ⟨_, rfl, ?_, ?_⟩
    · unfold mn mx
      split <;> split <;> omega
    · unfold mn mx
      split <;> split <;> omega
   obtain ⟨w, s5, e5, hs5, hw, hl⟩ := c_draw s4 hs4 n k (by omega) (by omega) (by omega) (by omega)
   obtain ⟨c, s6, e6, _, hc⟩ := c_broken s5 hs5 (n, w) (Go.Ev.Yteclcmiopobnaaa.Bd.mk' hw (by omega) (by omega) (by omega)) (by show w.length ≤ 500; omega)
   refine ⟨b, c, ?_, hb, hc⟩
   apply vs_l01Two
   simp only [bs_l01Two, e, e2, e3, e4, hn, e5, e6, p0, cond_false, Option.bind_some, getTV_here, getTV_next]
theorem c_DrawEqualByBands (a : List Int) (h : Bytes a) : ∃ b c, R is_DrawEqualByBands [tLU8 a] = some [tPILI b, tPILI c] ∧ Go.Ev.Yteclcmiopobnaaa.Bd b ∧ Go.Ev.Yteclcmiopobnaaa.Bd c := by
 obtain ⟨s, e, hs⟩ := c_l01From a h.1 h.2
 obtain ⟨r, s2, e2, hs2, _, _⟩ := c_next s hs 2
 by_cases h0 : r = 0
 · have p0 : (r == 0) = true := by simp [h0]
   obtain ⟨b, s', e', _, hb⟩ := c_l06Trivial s2 hs2
   refine ⟨b, (b.1, []), ?_, hb, ⟨hb.lo, hb.hi, by show (0 : Nat) ≤ 1000; omega, fun x hx => by simp at hx⟩⟩
   apply vs_DrawEqualByBands
   simp only [bs_DrawEqualByBands, e, e2, e', p0, cond_true, Option.bind_some, getTV_here, getTV_next]
 · have p0 : (r == 0) = false := by simp [h0]
   obtain ⟨b, c, e', hb, hc⟩ := c_l01Two a h
   refine ⟨b, c, ?_, hb, hc⟩
   apply vs_DrawEqualByBands
   simp only [bs_DrawEqualByBands, e, e2, e', p0, cond_false, Option.bind_some, getTV_here, getTV_next]
theorem c_drawBraid2 (s : Sc) (hs : Src s) : ∃ (n : Nat) (w : List Int) (s' : Sc), R is_l01DrawBraid [tPLU8PIU64 s] = some [tPILI ((n : Int), w), tPLU8PIU64 s'] ∧ Src s' ∧ 2 ≤ n ∧ n ≤ 6 ∧ Ld n w ∧ w.length ≤ 20 := by
 obtain ⟨r1, s1, h1, hs1, m1⟩ := c_pick s hs [2, 3, 5] (by simp) (by simp)
 obtain ⟨r2, s2, h2, hs2, a2, b2'⟩ := c_next s1 hs1 r1
 have b2 : r2 < r1 := by simp at m1; exact b2' (by omega)
 obtain ⟨r3, s3, h3, hs3, m3⟩ := c_pick s2 hs2 [4, 10, 20] (by simp) (by simp)
 simp at m1 m3
 obtain ⟨n, hn⟩ : ∃ n : Nat, 2 + r2 = (n : Int) := ⟨(2 + r2).toNat, by omega⟩
 have w : wi64 (2 + r2) = (n : Int) := by rw [wrap_i64] <;> omega
 obtain ⟨w4, s4, h4, hs4, l4, n4⟩ := c_draw s3 hs3 (n : Int) r3 (by omega) (by omega) (by omega) (by omega)
 rw [Int.toNat_natCast] at l4
 refine ⟨n, w4, s4, ?_, hs4, by omega, by omega, l4, by omega⟩
 apply vs_l01DrawBraid
 simp only [bs_l01DrawBraid, h1, h2, h3, Option.bind_some, getTV_here, getTV_next, w, h4]
def l8 (f : Nat → Nat) : List Int := (List.range 8).map fun x => ((f x : Nat) : Int)
theorem l8_len (f : Nat → Nat) : (l8 f).length = 8 := by simp [l8]
theorem l8_get {f : Nat → Nat} {x : Nat} (h : x < 8) : List.getD (l8 f) x 0 = (f x : Int) := by
 rw [getD_at (by rw [l8_len]; exact h)]
 simp [l8]
theorem l8_set {f : Nat → Nat} {k v : Nat} (h : k < 8) : List.set (l8 f) k (v : Int) = l8 (fun x => if x = k then v else f x) := by
 apply List.ext_getElem
 · rw [List.length_set, l8_len, l8_len]
 · intro i h1 h2
   rw [List.getElem_set]
   simp only [l8, List.getElem_map, List.getElem_range]
   by_cases e : k = i
   · simp [e]
   · have : ¬ i = k := fun h => e h.symm
     simp [e, this]
theorem l8_congr {f g : Nat → Nat} (e : ∀ i, i < 8 → f i = g i) : l8 f = l8 g := by
 apply List.ext_getElem
 · rw [l8_len, l8_len]
 · intro i h1 h2
   simp only [l8, List.getElem_map, List.getElem_range]
   rw [e i (by rw [l8_len] at h1; exact h1)]
def joinL (g : Nat → Nat) (a b : Nat) (x : Nat) : Nat := if g x = max (g a) (g b) then min (g a) (g b) else g x
theorem joinL_can {n : Nat} {g : Nat → Nat} (hg : Can n g) {a b : Nat} (ha : a < n) (hb : b < n) : Can n (joinL g a b) := by
 intro x hx
 obtain ⟨g1, g2⟩ := hg x hx
 obtain ⟨a1, a2⟩ := hg a ha
 obtain ⟨b1, b2⟩ := hg b hb
 unfold joinL
 by_cases h : g x = max (g a) (g b)
 · rw [if_pos h]
   refine ⟨by omega, ?_⟩
   have hm : g (min (g a) (g b)) = min (g a) (g b) := by
    rcases Nat.le_total (g a) (g b) with q | q
    · rw [Nat.min_eq_left q]; exact a2
    · rw [Nat.min_eq_right q]; exact b2
   rw [hm]
   by_cases h2 : min (g a) (g b) = max (g a) (g b)
   · rw [if_pos h2]
   · rw [if_neg h2]
 · rw [if_neg h]
   refine ⟨g1, ?_⟩
   rw [g2, if_neg h]
theorem mx_nat (a b : Nat) : mx (a : Int) (b : Int) = ((max a b : Nat) : Int) := by
 unfold mx
 split <;> omega
theorem mn_nat (a b : Nat) : mn (a : Int) (b : Int) = ((min a b : Nat) : Int) := by
 unfold mn
 split <;> omega
theorem c_l07Draw_8 (n : Nat) (hn : n ≤ 8) (g : Nat → Nat) (a b : Nat) (ha : a < n) (hb : b < n) (x0 x1 x7 : Int) (x2 x3 : List Int) : ∀ (d i : Nat), i + d = n →
  R is_l07Draw_8 [tI x0, tU64 x1, tLU8 x2, tA8 x3, tAi8 (l8 g), tAi8 (l8 fun x => if x < i then joinL g a b x else g x), tI (n : Int), tI x7, tI (a : Int), tI (b : Int), tI (i : Int)] = some [tI 0, tI x0, tU64 x1, tLU8 x2, tA8 x3, tAi8 (l8 g), tAi8 (l8 fun x => if x < n then joinL g a b x else g x), tI (n : Int), tI x7] := by
 intro d
 induction d with
 | zero =>
  intro i h
  obtain rfl : i = n := by omega
  apply vs_l07Draw_8
  have p1 : decide ((i : Int) < (i : Int)) = false := decide_eq_false (by omega)
  simp only [bs_l07Draw_8, p1, cond_false]
 | succ d ih =>
  intro i h
  have p1 : decide ((i : Int) < (n : Int)) = true := decide_eq_true (by omega)
  have p2 : decide (0 ≤ (i : Int)) = true := decide_eq_true (by omega)
  have p3 : decide ((i : Int) < 8) = true := decide_eq_true (by omega)
  have a2 : decide (0 ≤ (a : Int)) = true := decide_eq_true (by omega)
  have a3 : decide ((a : Int) < 8) = true := decide_eq_true (by omega)
  have b2 : decide (0 ≤ (b : Int)) = true := decide_eq_true (by omega)
  have b3 : decide ((b : Int) < 8) = true := decide_eq_true (by omega)
  have w : wi64 ((i : Int) + 1) = ((i + 1 : Nat) : Int) := by rw [wrap_i64] <;> omega
  have gi : List.getD (l8 fun x => if x < i then joinL g a b x else g x) i 0 = (g i : Int) := by
   rw [l8_get (by omega), if_neg (by omega)]
  apply vs_l07Draw_8
  simp only [bs_l07Draw_8, p1, p2, p3, a2, a3, b2, b3, Bool.and_true, cond_true, Int.toNat_natCast, gi, l8_get (show a < 8 by omega), l8_get (show b < 8 by omega), mx_nat, mn_nat, w, l8_set (show i < 8 by omega)]
  by_cases e : g i = max (g a) (g b)
  · have q : ((g i : Int) == ((max (g a) (g b) : Nat) : Int)) = true := by simp [e]
    rw [q, cond_true]
    have c : (l8 fun x => if x = i then min (g a) (g b) else if x < i then joinL g a b x else g x) = l8 fun x => if x < i + 1 then joinL g a b x else g x := by
     apply l8_congr
     intro x _
     by_cases e1 : x = i
     · subst e1
       rw [if_pos rfl, if_pos (by omega)]
       unfold joinL
       rw [if_pos e]
     · rw [if_neg e1]
       by_cases e2 : x < i
       · rw [if_pos e2, if_pos (by omega)]
       · rw [if_neg e2, if_neg (by omega)]
    rw [c]
    exact ih (i + 1) (by omega)
  · have q : ((g i : Int) == ((max (g a) (g b) : Nat) : Int)) = false := by
     have : ¬ ((g i : Int) = ((max (g a) (g b) : Nat) : Int)) := by omega
     simp only [beq_eq_false_iff_ne, ne_eq]
     exact this
    rw [q, cond_false]
    have c : (l8 fun x => if x < i then joinL g a b x else g x) = l8 fun x => if x < i + 1 then joinL g a b x else g x := by
     apply l8_congr
     intro x _
     by_cases e1 : x = i
     · subst e1
       rw [if_neg (by omega), if_pos (by omega)]
       unfold joinL
       rw [if_neg e]
     · by_cases e2 : x < i
       · rw [if_pos e2, if_pos (by omega)]
       · rw [if_neg e2, if_neg (by omega)]
    rw [c]
    exact ih (i + 1) (by omega)
theorem can_ext {n : Nat} {f g : Nat → Nat} (h : Can n g) (e : ∀ x, x < n → f x = g x) : Can n f := fun x hx => by
 obtain ⟨h1, h2⟩ := h x hx
 rw [e x hx, e (g x) (by omega)]
 exact ⟨h1, h2⟩
theorem c_l07Draw_3 (n : Nat) (h1 : 1 ≤ n) (hn : n ≤ 8) (x3 : List Int) : ∀ (k : Nat) (s : Sc) (g : Nat → Nat), Src s → Can n g → k ≤ 100 → ∃ (s' : Sc) (g' : Nat → Nat) (x3' : List Int), R is_l07Draw_3 [tI s.2.1, tU64 s.2.2, tLU8 s.1, tA8 x3, tAi8 (l8 g), tI (n : Int), tI (k : Int)] = some [tI 0, tI s'.2.1, tU64 s'.2.2, tLU8 s'.1, tA8 x3', tAi8 (l8 g'), tI (n : Int)] ∧ Src s' ∧ Can n g' := by
 intro k
 induction k with
 | zero =>
  intro s g hs hg _
  refine ⟨s, g, x3, ?_, hs, hg⟩
  apply vs_l07Draw_3
  simp [bs_l07Draw_3]
 | succ k ih =>
  intro s g hs hg hk
  obtain ⟨a, s1, e1, hs1, a0, a1⟩ := c_next s hs (n : Int)
  obtain ⟨b, s2, e2, hs2, b0, b1⟩ := c_next s1 hs1 (n : Int)
  have a1' := a1 (by omega)
  have b1' := b1 (by omega)
  obtain ⟨a, rfl⟩ : ∃ x : Nat, a = (x : Int) := ⟨a.toNat, by omega⟩
  obtain ⟨b, rfl⟩ : ∃ x : Nat, b = (x : Int) := ⟨b.toNat, by omega⟩
  have e8 := c_l07Draw_8 n hn g a b (by omega) (by omega) s2.2.1 s2.2.2 ((k + 1 : Nat) : Int) s2.1 x3 n 0 (by omega)
  have c0 : (l8 fun x => if x < 0 then joinL g a b x else g x) = l8 g := l8_congr (fun x _ => if_neg (by omega))
  rw [c0] at e8
  simp only [Int.natCast_zero] at e8
  have ec := L_l07Crossing n hn (fun x => if x < n then joinL g a b x else g x) (l8 fun x => if x < n then joinL g a b x else g x) (fun x hx => l8_get (by omega))
  have p1 : decide ((0 : Int) < ((k + 1 : Nat) : Int)) = true := decide_eq_true (by omega)
  have w : wi64 (((k + 1 : Nat) : Int) - 1) = (k : Int) := by rw [wrap_i64] <;> omega
  have hj : Can n (fun x => if x < n then joinL g a b x else g x) := can_ext (joinL_can hg (a := a) (b := b) (by omega) (by omega)) (fun x hx => if_pos hx)
  cases hc : crs n (fun x => if x < n then joinL g a b x else g x) with
  | false =>
   rw [hc] at ec
   obtain ⟨s', g', x3', e9, hs', hg'⟩ := ih s2 _ hs2 hj (by omega)
   refine ⟨s', g', x3', ?_, hs', hg'⟩
   apply vs_l07Draw_3
   simp only [bs_l07Draw_3, p1, cond_true, e1, e2, e8, ec, w, Option.bind_some, getTV_here, getTV_next, Bool.not_false]
   exact e9
  | true =>
   rw [hc] at ec
   obtain ⟨s', g', x3', e9, hs', hg'⟩ := ih s2 g hs2 hg (by omega)
   refine ⟨s', g', x3', ?_, hs', hg'⟩
   apply vs_l07Draw_3
   simp only [bs_l07Draw_3, p1, cond_true, cond_false, e1, e2, e8, ec, w, Option.bind_some, getTV_here, getTV_next, Bool.not_true]
   exact e9
theorem c_l07Draw (s : Sc) (hs : Src s) (n : Nat) (h1 : 1 ≤ n) (hn : n ≤ 8) : ∃ (r : List Int) (s' : Sc), R is_l07Draw [tPLU8PIU64 s, tI (n : Int)] = some [tA8 r, tPLU8PIU64 s'] ∧ Src s' ∧ B8 r := by
 obtain ⟨k, s1, e1, hs1, k0, k1⟩ := c_next s hs 8
 have k1' := k1 (by omega)
 have hid : Can n (fun x => x) := fun x _ => ⟨Nat.le_refl _, rfl⟩
 obtain ⟨s2, g, x3, e2, hs2, hg⟩ := c_l07Draw_3 n h1 hn (List.replicate 8 0) k.toNat s1 (fun x => x) hs1 hid (by omega)
 rw [show ((k.toNat : Nat) : Int) = k by omega] at e2
 have e3 := L_l07Made n hn g (l8 g) (fun x hx => l8_get (by omega)) hg
 obtain ⟨p, ep, _⟩ := mdf_pm hg
 have el : l8 (fun x => x) = [0, 1, 2, 3, 4, 5, 6, 7] := by decide
 rw [el] at e2
 refine ⟨A8 n (mdf n g), s2, ?_, hs2, by rw [ep]; exact sA_B8 hn p⟩
 apply vs_l07Draw
 simp only [bs_l07Draw, e1, e2, e3, Option.bind_some, getTV_here, getTV_next]
structure Dd (a : Int × Int × List (List Int)) : Prop where
 rows : ∀ x ∈ a.2.2, B8 x
 len : a.2.2.length ≤ 1000
theorem c_DrawWordOfDual (a : List Int) (h : Bytes a) : ∃ b, R is_DrawWordOfDual [tLU8 a] = some [tPIPILA8 b] ∧ Dd b := by
 obtain ⟨s, e, hs⟩ := c_l01From a h.1 h.2
 obtain ⟨n, w, s1, e1, hs1, n2, n6, hw, hl⟩ := c_drawBraid2 s hs
 have h1 : 1 ≤ n := by omega
 have e2 := c_l07Form n h1 (by omega) w hw (by omega)
 have dl := dOf_len h1 w hw (by omega)
 obtain ⟨r, s3, e3, hs3, r0, r1⟩ := c_next s1 hs1 20
 have rows : ∀ x ∈ sL (dOf n h1 w).2, B8 x := fun x hx => by
  obtain ⟨p, _, rfl⟩ := List.mem_map.1 hx
  exact sA_B8 (by omega) p
 have key : ∃ (b : Int × Int × List (List Int)) (s' : Sc), R is_l07DrawDual [tPLU8PIU64 s] = some [tPIPILA8 b, tPLU8PIU64 s'] ∧ Dd b := by
  simp only [enc] at e2
  by_cases q0 : r = 0
  · have p0 : (r == 0) = true := by simp [q0]
    obtain ⟨t, s4, e4, _, ht⟩ := c_l07Draw s3 hs3 n h1 (by omega)
    have a1 : apOk [] (sL (dOf n h1 w).2) = true := apOk0 (by rw [sL_len]; omega)
    have a2 : apOk (sL (dOf n h1 w).2) [t] = true := apOk1 (by rw [sL_len]; omega)
    refine ⟨((n : Int), (dOf n h1 w).1, sL (dOf n h1 w).2 ++ [t]), s4, ?_, ⟨fun x hx => ?_, by show (sL (dOf n h1 w).2 ++ [t]).length ≤ 1000; rw [List.length_append, sL_len]; simp; omega⟩⟩
    · apply vs_l07DrawDual
      simp only [bs_l07DrawDual, e1, e2, e3, e4, p0, a1, a2, cond_true, Option.bind_some, getTV_here, getTV_next]
    · rcases List.mem_append.1 hx with q | q
      · exact rows x q
      · rw [List.mem_singleton.1 q]; exact ht
  · have p0 : (r == 0) = false := by simp [q0]
    have dd : ∀ x y : Int, Dd (x, y, sL (dOf n h1 w).2) := fun x y => ⟨rows, by show (sL (dOf n h1 w).2).length ≤ 1000; rw [sL_len]; omega⟩
    by_cases q1 : r = 1
    · have p1 : (r == 1) = true := by simp [q1]
      obtain ⟨t, s4, e4, _, _⟩ := c_pick s3 hs3 [401, (-401), 60, (-60)] (by simp) (by simp)
      refine ⟨((n : Int), t, sL (dOf n h1 w).2), s4, ?_, dd _ _⟩
      apply vs_l07DrawDual
      simp only [bs_l07DrawDual, e1, e2, e3, e4, p0, p1, cond_true, cond_false, Option.bind_some, getTV_here, getTV_next]
    · have p1 : (r == 1) = false := by simp [q1]
      by_cases q2 : r = 2
      · have p2 : (r == 2) = true := by simp [q2]
        obtain ⟨t, s4, e4, _, _⟩ := c_pick s3 hs3 [0, 9, (wi64 ((n : Int) + 1))] (by simp) (by simp)
        refine ⟨(t, (dOf n h1 w).1, sL (dOf n h1 w).2), s4, ?_, dd _ _⟩
        apply vs_l07DrawDual
        simp only [bs_l07DrawDual, e1, e2, e3, e4, p0, p1, p2, cond_true, cond_false, Option.bind_some, getTV_here, getTV_next]
      · have p2 : (r == 2) = false := by simp [q2]
        refine ⟨((n : Int), (dOf n h1 w).1, sL (dOf n h1 w).2), s3, ?_, dd _ _⟩
        apply vs_l07DrawDual
        simp only [bs_l07DrawDual, e1, e2, e3, p0, p1, p2, cond_false, Option.bind_some, getTV_here, getTV_next]
 obtain ⟨b, s', e4, hb⟩ := key
 refine ⟨b, ?_, hb⟩
 apply vs_DrawWordOfDual
 simp only [bs_DrawWordOfDual, e, e4, Option.bind_some, getTV_here, getTV_next]
end Go.Ev.Yteclcmiopobnaaa.P
