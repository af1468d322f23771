/- WordOfDual: the law. -/
import Derived.Test.YteclcmiopobnaaaMq0
import Derived.Test.YteclcmiopobnaaaMq1
import Derived.Test.YteclcmiopobnaaaWd
set_option linter.unusedVariables false
set_option linter.unusedSimpArgs false
namespace Go.Ev.Yteclcmiopobnaaa.P
open Go.Ev.Yteclcmiopobnaaa
open Go.Ev
def reps (l : List Int) : Nat → List Int
 | 0 => []
 | k + 1 => l ++ reps l k
theorem reps_len (l : List Int) : ∀ k, (reps l k).length = k * l.length
 | 0 => by simp [reps]
 | k + 1 => by simp only [reps, List.length_append, reps_len l k, Nat.add_mul]; omega
theorem c_s_WD_8 (x0 x1 x3 x7 : Int) (x2 : List (List Int)) (x4 own : List Int) (hown : own.length ≤ 20000) : ∀ (k : Nat) (out : List Int), k ≤ 1000 → out.length + k * 20000 ≤ 100000000 →
  R is_WordOfDual_8 [tI x0, tI x1, tLA8 x2, tI x3, tLI x4, tLI out, tLI own, tI x7, tI (k : Int)] = some [tI 0, tI x0, tI x1, tLA8 x2, tI x3, tLI x4, tLI (out ++ reps own k), tI x7] := by
 intro k
 induction k with
 | zero =>
  intro out _ _
  apply vs_WordOfDual_8
  simp [bs_WordOfDual_8, reps]
 | succ k ih =>
  intro out hk ho
  apply vs_WordOfDual_8
  have p1 : decide ((0 : Int) < ((k + 1 : Nat) : Int)) = true := decide_eq_true (by omega)
  have w : wi64 (((k + 1 : Nat) : Int) - 1) = (k : Int) := by rw [wrap_i64] <;> omega
  have ap : apOk out own = true := apOk2 (by omega)
  simp only [bs_WordOfDual_8, p1, cond_true, ap, w]
  rw [ih _ (by omega) (by rw [List.length_append]; omega), List.append_assoc]
  rfl
theorem c_i_WD_8 (x0 x1 x3 x5 x7 : Int) (x2 : List (List Int)) (x4 own : List Int) (hown : own.length ≤ 20000) (m : Nat) (hm : m ≤ 1000) : ∀ (k i : Nat) (out : List Int), i + k = m → out.length + k * 20000 ≤ 100000000 →
  R ii_WordOfDual_8 [tI x0, tI x1, tLA8 x2, tI x3, tLI x4, tI x5, tLI out, tI x7, tLI own, tI (m : Int), tI (i : Int)] = some [tI 0, tI x0, tI x1, tLA8 x2, tI x3, tLI x4, tI x5, tLI (out ++ reps own k)] := by
 intro k
 induction k with
 | zero =>
  intro i out hi _
  apply vi_WordOfDual_8
  have p1 : decide ((i : Int) < ((m : Nat) : Int)) = false := decide_eq_false (by omega)
  simp only [bi_WordOfDual_8, p1, cond_false, reps, List.append_nil]
 | succ k ih =>
  intro i out hi ho
  apply vi_WordOfDual_8
  have p1 : decide ((i : Int) < ((m : Nat) : Int)) = true := decide_eq_true (by omega)
  have w : wi64 ((i : Int) + 1) = ((i + 1 : Nat) : Int) := by rw [wrap_i64] <;> omega
  simp only [bi_WordOfDual_8, p1, cond_true, w, c_joined (x5, out) (x7, own) (by show out.length < _; omega) (by show own.length < _; omega), Option.bind_some, getTV_here]
  rw [ih (i + 1) _ (by omega) (by rw [List.length_append]; omega), List.append_assoc]
  rfl
theorem word_both (a : List Int) (n : Nat) (hn : n ≤ 8) (h : isPt a (n : Int) = true) : ∃ w : List Int, w.length ≤ 12800 ∧ R is_l07Word [tA8 a, tI (n : Int)] = some [tLI w] ∧ R ii_wordOfPart [tA8 a, tI (n : Int)] = some [tLI w] := by
 obtain ⟨k, g, e, h1, h2, h3, h4, rfl⟩ := isPt_ok h
 obtain rfl : n = k := by omega
 exact ⟨wPart n g, wPart_len hn g, c_l07Word n hn g h3, c_wordOfPart n hn g h3⟩
theorem WD_12 (n : Nat) (hn : n ≤ 8) (L : List (List Int)) (hL : ∀ x ∈ L, isPt x (n : Int) = true) (hl : L.length ≤ 400) (x1 x3 : Int) (x4 : List Int) : ∀ (d j : Nat), j + d = L.length → ∃ w : List Int, w.length ≤ 12800 * d ∧ ∀ out : List Int, out.length + 12800 * d ≤ 100000000 →
  R is_WordOfDual_12 [tI (n : Int), tI x1, tLA8 L, tI x3, tLI x4, tLI out, tI (n : Int), tI (j : Int)] = some [tI 0, tI x3, tLI x4, tLI (out ++ w), tI (n : Int)] ∧
  R ii_WordOfDual_12 [tI (n : Int), tI x1, tLA8 L, tI x3, tLI x4, tI (n : Int), tLI out, tI ((L.length : Nat) : Int), tI (j : Int)] = some [tI 0, tI x3, tLI x4, tI (n : Int), tLI (out ++ w)] := by
 intro d
 induction d with
 | zero =>
  intro j hj
  have p1 : decide ((j : Int) < ((L.length : Nat) : Int)) = false := decide_eq_false (by omega)
  refine ⟨[], by simp, fun out _ => ⟨vs_WordOfDual_12 _ _ _ _ _ _ _ _ ?_, vi_WordOfDual_12 _ _ _ _ _ _ _ _ _ ?_⟩⟩
  · simp only [bs_WordOfDual_12, p1, cond_false, List.append_nil]
  · simp only [bi_WordOfDual_12, p1, cond_false, List.append_nil]
 | succ d ih =>
  intro j hj
  have hjl : j < L.length := by omega
  have p1 : decide ((j : Int) < ((L.length : Nat) : Int)) = true := decide_eq_true (by omega)
  have p2 : decide ((0 : Int) ≤ (j : Int)) = true := decide_eq_true (by omega)
  have w : wi64 ((j : Int) + 1) = ((j + 1 : Nat) : Int) := by rw [wrap_i64] <;> omega
  have gd : List.getD L j (List.replicate 8 0) = L[j] := by simp [List.getD_eq_getElem?_getD, List.getElem?_eq_getElem hjl]
  obtain ⟨v, hv, v1, v2⟩ := word_both L[j] n hn (hL _ (List.getElem_mem hjl))
  obtain ⟨u, hu, hu2⟩ := ih (j + 1) (by omega)
  refine ⟨v ++ u, by rw [List.length_append]; omega, fun out ho => ?_⟩
  have ap : apOk out v = true := apOk2 (by omega)
  obtain ⟨k1, k2⟩ := hu2 (out ++ v) (by rw [List.length_append]; omega)
  refine ⟨vs_WordOfDual_12 _ _ _ _ _ _ _ _ ?_, vi_WordOfDual_12 _ _ _ _ _ _ _ _ _ ?_⟩
  · simp only [bs_WordOfDual_12, p1, p2, cond_true, Bool.and_true, Int.toNat_natCast, gd, v1, Option.bind_some, getTV_here, ap, w, k1, List.append_assoc]
  · simp only [bi_WordOfDual_12, p1, p2, cond_true, Bool.and_true, Int.toNat_natCast, gd, v2, Option.bind_some, getTV_here, w, c_joined ((n : Int), out) ((n : Int), v) (by show out.length < _; omega) (by show v.length < _; omega), k2, List.append_assoc]
theorem whole_mdf (n : Nat) : sA (whP n) = A8 n (mdf n (fun _ => 0)) := by
 apply A8_congr
 intro x hx
 rw [whP_f hx]
 rcases mdf_spec (g := fun _ => 0) hx with ⟨k, k1, k2, k3, k4, k5⟩ | ⟨k1, k2⟩
 · rw [k5]
   have : k = x + 1 := by
    apply Classical.byContradiction
    intro h
    exact k4 (x + 1) (by omega) (by omega) rfl
   unfold sc
   rw [if_neg (by omega), this]
 · rw [k2]
   have : x + 1 = n := by
    apply Classical.byContradiction
    intro h
    exact k1 (x + 1) (by omega) (by omega) rfl
   unfold sc
   rw [if_pos this]
theorem can0 (n : Nat) : Can n (fun _ => 0) := fun x _ => ⟨Nat.zero_le _, rfl⟩
theorem dnL_mem {b x : Int} : ∀ {d : Nat}, x ∈ dnL b d → b + 1 ≤ x ∧ x ≤ b + d
 | 0, h => by simp [dnL] at h
 | d + 1, h => by
  simp only [dnL] at h
  rcases List.mem_cons.1 h with rfl | h
  · omega
  · have := dnL_mem h
    omega
theorem upL_mem {x : Int} : ∀ {d : Nat} {y : Int}, x ∈ upL y d → -(y + d) < x ∧ x ≤ -y
 | 0, _, h => by simp [upL] at h
 | d + 1, y, h => by
  simp only [upL] at h
  rcases List.mem_cons.1 h with rfl | h
  · omega
  · have := upL_mem h
    omega
theorem bandL_Lt {p b : Int} (hb : 0 ≤ b) (h : b < p) (hp : p ≤ 7) : Lt (bandL p b) := by
 intro x hx
 unfold bandL at hx
 rcases List.mem_append.1 hx with hx | hx
 · have := dnL_mem hx
   omega
 · have := upL_mem hx
   omega
theorem wb_Lt {b : List Int} (hb : Blk b) : ∀ i, i < b.length → Lt (wb b i)
 | 0, _ => by intro x hx; simp [wb] at hx
 | i + 1, h => by
  obtain ⟨k1, k2, k3⟩ := hb.2.2 i h
  intro x hx
  simp only [wb] at hx
  rcases List.mem_append.1 hx with hx | hx
  · exact bandL_Lt k1 k2 k3 x hx
  · exact wb_Lt hb i (by omega) x hx
theorem wbs_Lt : ∀ {l : List (List Int)}, (∀ b ∈ l, Blk b) → Lt (wbs l)
 | [], _ => by intro x hx; simp [wbs] at hx
 | b :: r, h => by
  have hb := h b (by simp)
  have := List.length_pos_iff.2 hb.1
  intro x hx
  simp only [wbs] at hx
  rcases List.mem_append.1 hx with hx | hx
  · exact wb_Lt hb _ (by omega) x hx
  · exact wbs_Lt (fun b hb => h b (by simp [hb])) x hx
theorem wPart_Lt {n : Nat} (hn : n ≤ 8) (g : Nat → Nat) : Lt (wPart n g) := wbs_Lt (bks_Blk hn)
theorem both_WordOfDual (a : Int × Int × List (List Int)) (hL : ∀ x ∈ a.2.2, B8 x) (hl : a.2.2.length ≤ 1048576) : ∃ (v : Int × List Int) (y : Int), v.2.length ≤ 200 ∧ R is_WordOfDual [tPIPILA8 a] = some [tPILI v, tI y] ∧ R ii_WordOfDual [tPIPILA8 a] = some [tPILI v, tI y] := by
 obtain ⟨r, r1, r2, r3⟩ := dual_strong a hL hl
 obtain ⟨a1, a2, a3⟩ := a
 cases r with
 | false =>
  refine ⟨(0, []), 1, by simp, vs_WordOfDual _ ?_, vi_WordOfDual _ ?_⟩
  · simp only [bs_WordOfDual, r1, Option.bind_some, getTV_here, Bool.not_false, cond_true]
  · simp only [bi_WordOfDual, r2, Option.bind_some, getTV_here, Bool.not_false, cond_true]
 | true =>
  obtain ⟨h1, h2, h3, h4, h5, h6⟩ := r3 rfl
  simp only at h1 h2 h3 h4 h5 h6 r1 r2
  obtain ⟨n, rfl⟩ : ∃ n : Nat, a1 = n := ⟨a1.toNat, by omega⟩
  have hn : n ≤ 8 := by omega
  have w1 := c_l07Word n hn (fun _ => 0) (can0 n)
  have w2 := c_wordOfPart n hn (fun _ => 0) (can0 n)
  rw [← whole_mdf] at w1 w2
  have hwl := wPart_len hn (fun _ => 0)
  have hwt := wPart_Lt hn (fun _ => 0)
  generalize wPart n (fun _ => 0) = ww at w1 w2 hwl hwt
  have hx : mx a2 (wi64 (0 - a2)) = ((a2.natAbs : Nat) : Int) := by
   rw [wrap_i64 (by omega) (by omega)]
   unfold mx
   split <;> omega
  have hsz := cz_size a2 (by omega) (by omega)
  have hmm : a2.natAbs ≤ 400 := by omega
  have main : ∀ own : List Int, own.length ≤ 20000 → ∃ out : List Int,
    (∀ x7 : Int, R is_WordOfDual_8 [tI (n : Int), tI a2, tLA8 a3, tI 0, tLI [], tLI [], tLI own, tI x7, tI ((a2.natAbs : Nat) : Int)] = some [tI 0, tI (n : Int), tI a2, tLA8 a3, tI 0, tLI [], tLI (reps own a2.natAbs), tI x7]) ∧
    R is_WordOfDual_12 [tI (n : Int), tI a2, tLA8 a3, tI 0, tLI [], tLI (reps own a2.natAbs), tI (n : Int), tI 0] = some [tI 0, tI 0, tLI [], tLI out, tI (n : Int)] ∧
    (∀ x5 x7 : Int, R ii_WordOfDual_8 [tI (n : Int), tI a2, tLA8 a3, tI 0, tLI [], tI x5, tLI [], tI x7, tLI own, tI ((a2.natAbs : Nat) : Int), tI 0] = some [tI 0, tI (n : Int), tI a2, tLA8 a3, tI 0, tLI [], tI x5, tLI (reps own a2.natAbs)]) ∧
    R ii_WordOfDual_12 [tI (n : Int), tI a2, tLA8 a3, tI 0, tLI [], tI (n : Int), tLI (reps own a2.natAbs), tI ((a3.length : Nat) : Int), tI 0] = some [tI 0, tI 0, tLI [], tI (n : Int), tLI out] := by
   intro own hown
   have hrl := reps_len own a2.natAbs
   have hmul : a2.natAbs * own.length ≤ 400 * 20000 := Nat.mul_le_mul hmm hown
   obtain ⟨u, hu, hu2⟩ := WD_12 n hn a3 h6 h5 a2 0 [] a3.length 0 (by omega)
   obtain ⟨k1, k2⟩ := hu2 (reps own a2.natAbs) (by omega)
   refine ⟨reps own a2.natAbs ++ u, fun x7 => ?_, k1, fun x5 x7 => ?_, k2⟩
   · exact c_s_WD_8 n a2 0 x7 a3 [] own hown a2.natAbs [] (by omega) (by simp; omega)
   · exact c_i_WD_8 n a2 0 x5 x7 a3 [] own hown a2.natAbs (by omega) a2.natAbs 0 [] (by omega) (by simp; omega)
  by_cases hneg : a2 < 0
  · have hinv := c_l01Inverse ww hwt (by omega)
    have hrev := c_reversed ((n : Int), ww) (by show ww.length < _; omega)
    have hlt : Lt ww.reverse := fun x hx => hwt x (List.mem_reverse.1 hx)
    have hlet := c_letterBy ((n : Int), ww.reverse) hlt (by simp; omega)
    have hil : (invL ww).length ≤ 20000 := by rw [invL_len]; omega
    obtain ⟨out, m1, m2, m3, m4⟩ := main (invL ww) hil
    have hinvd : (ww.reverse.map fun x => -x) = invL ww := rfl
    by_cases hbig : (200 : Int) < ((out.length : Nat) : Int)
    · refine ⟨(0, []), 3, by simp, vs_WordOfDual _ ?_, vi_WordOfDual _ ?_⟩
      · simp only [bs_WordOfDual, r1, Option.bind_some, getTV_here, getTV_next, Bool.not_true, cond_false, c_l07Whole n hn, w1, decide_eq_true hneg, cond_true, hinv, hx, m1, m2, decide_eq_true hbig]
      · simp only [bi_WordOfDual, r2, Option.bind_some, getTV_here, getTV_next, Bool.not_true, cond_false, c_wholePart n hn, w2, decide_eq_true hneg, cond_true, hrev, hlet, hinvd, hsz, m3, m4, decide_eq_true hbig]
    · refine ⟨((n : Int), out), 0, by show out.length ≤ 200; omega, vs_WordOfDual _ ?_, vi_WordOfDual _ ?_⟩
      · simp only [bs_WordOfDual, r1, Option.bind_some, getTV_here, getTV_next, Bool.not_true, cond_false, c_l07Whole n hn, w1, decide_eq_true hneg, cond_true, hinv, hx, m1, m2, decide_eq_false hbig]
      · simp only [bi_WordOfDual, r2, Option.bind_some, getTV_here, getTV_next, Bool.not_true, cond_false, c_wholePart n hn, w2, decide_eq_true hneg, cond_true, hrev, hlet, hinvd, hsz, m3, m4, decide_eq_false hbig]
  · obtain ⟨out, m1, m2, m3, m4⟩ := main ww (by omega)
    by_cases hbig : (200 : Int) < ((out.length : Nat) : Int)
    · refine ⟨(0, []), 3, by simp, vs_WordOfDual _ ?_, vi_WordOfDual _ ?_⟩
      · simp only [bs_WordOfDual, r1, Option.bind_some, getTV_here, getTV_next, Bool.not_true, cond_false, c_l07Whole n hn, w1, decide_eq_false hneg, hx, m1, m2, decide_eq_true hbig, cond_true]
      · simp only [bi_WordOfDual, r2, Option.bind_some, getTV_here, getTV_next, Bool.not_true, cond_false, c_wholePart n hn, w2, decide_eq_false hneg, hsz, m3, m4, decide_eq_true hbig, cond_true]
    · refine ⟨((n : Int), out), 0, by show out.length ≤ 200; omega, vs_WordOfDual _ ?_, vi_WordOfDual _ ?_⟩
      · simp only [bs_WordOfDual, r1, Option.bind_some, getTV_here, getTV_next, Bool.not_true, cond_false, c_l07Whole n hn, w1, decide_eq_false hneg, hx, m1, m2, decide_eq_false hbig]
      · simp only [bi_WordOfDual, r2, Option.bind_some, getTV_here, getTV_next, Bool.not_true, cond_false, c_wholePart n hn, w2, decide_eq_false hneg, hsz, m3, m4, decide_eq_false hbig]
end Go.Ev.Yteclcmiopobnaaa.P
