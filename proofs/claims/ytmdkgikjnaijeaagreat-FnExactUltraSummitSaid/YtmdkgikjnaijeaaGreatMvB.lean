/- Ultra summit sets, with rows of one's own: the law UltraSummit. -/
import Derived.Test.YtmdkgikjnaijeaaGreatWg
set_option linter.unusedVariables false
set_option linter.unusedSimpArgs false
namespace Go.Ev.YtmdkgikjnaijeaaGreat
open Go.Ev Go.Gar
theorem zHy {α : Type} {call : Oracle} {pred : Nat} {t : Ty} {k : List t.den → Option α} (p : t.den → Bool) : ∀ (r acc : List t.den), (∀ z ∈ r, call pred [⟨t, z⟩] = some [⟨.bool, !(p z)⟩]) → delsK call pred t k r acc = k (acc ++ r.filter p)
 | [], acc, _ => by simp [delsK]
 | x :: r, acc, h => by
  have hx := h x (by simp); have ih := fun acc => zHy (k := k) p r acc (fun z hz => h z (by simp [hz]))
  simp only [delsK, hx, Option.bind_some, predOut, ih]
  cases hp : p x with
  | true => simp [hp]
  | false => simp [hp]
theorem zR4 (p : VN → Bool) (ys : List VN) (hl : ys.length < 1000000) (hp : ∀ z ∈ ys, R jE [zA z] = some [tB (!(p z))]) : R zu [zB ys] = some [zB (ys.filter p)] := by
 apply zAS; have hlim : ys.length < lim := by simp only [lim]; omega
 have h := zHy (call := R) (pred := jE) (t := .pair (.int .i64) (.pair (.int .i64) (.slice (.arr .u8 8)))) (k := fun zs => some [zB zs]) p ys [] hp; show delE R jE (.pair (.int .i64) (.pair (.int .i64) (.slice (.arr .u8 8)))) ys = _; unfold delE; rw [if_pos hlim, h, List.nil_append]
theorem zIE (a : VN) (ha : Rows8 a.2.2) : ∃ (u : List VN) (c : Int), u.length ≤ 120 ∧ (∀ b ∈ u, Len8 b.2.2 ∧ b.2.2.length ≤ 100000) ∧ R zDA [zA a] = some [zB u, tI c] ∧ R zBE [zA a] = some [zB u, tI c] := by
 have eV : ∀ x : VN, (x.1, x.2.1, x.2.2) = x := fun x => rfl; obtain ⟨l, c, h1, h2, h3⟩ := zUu a ha
 rcases h3 with ⟨hc, rfl⟩ | ⟨rfl, n, v, q1, q4, q3, rfl, g, hlim⟩
 · have hb : (c != 0) = true := by simp [hc]
   refine ⟨[], c, by simp, fun z hz => by simp at hz, zFD _ ?_, zFI _ ?_⟩
   · simp only [zBM, eV, h1, Option.bind_some, getTV_here, getTV_next, hb, cond_true]
   · simp only [zBP, eV, h2, Option.bind_some, getTV_here, getTV_next, hb, cond_true]
 · have hn : n ≤ 8 := by omega
   have g0 := g.sets0 q3; have hO : Orbs (n := n) l := ⟨g.orb hn q3, g0.len⟩; have hll := g0.len; have e0 : ((0 : Int) != 0) = false := rfl; have h6 := zVI q1 hn hO l.length 0 [] (by omega) (by simp); simp only [List.nil_append, List.drop_zero, Int.natCast_zero] at h6; have hd := zR4 (bkB n) l (by omega) (zV0 q1 hn hO)
   refine ⟨l.filter (bkB n), 0, Nat.le_trans (List.length_filter_le _ _) hll, fun z hz => ?_, zFD _ ?_, zFI _ ?_⟩
   · obtain ⟨y, rfl, ho, _⟩ := hO.cyc z (List.mem_filter.1 hz).1; have := ho.len; exact ⟨(zRB hn _).len8, by rw [(zJt _).2]; omega⟩
   · simp only [zBM, eV, h1, Option.bind_some, getTV_here, getTV_next, e0, cond_false, h6]
   · simp only [zBP, eV, h2, Option.bind_some, getTV_here, getTV_next, e0, cond_false, hd]
theorem law_FnExactUltraSummit (a : Int × Int × List (List Int)) (h : Fit (.pair (.int .i64) (.pair (.int .i64) (.slice (.arr .u8 8)))) a) : R iw_FnExactUltraSummit [zA a] = some [tB true] := by
 obtain ⟨hl, hw⟩ := zQN h; apply zEC
 by_cases hb : (1048576 : Int) < a.2.2.length
 · simp [ka, zKZ a 1048576 hl (by omega) (by omega), hb]
 · have hs : a.2.2.length < 1000000000 := by omega
   have e : ¬ (1048576 - (a.2.2.length : Int) < 0) := by omega
   have e1 : ¬ (1 + 8 * (a.2.2.length : Int) < 0) := by omega
   obtain ⟨l, c, hn, hr, hss, hii⟩ := zIE a hw; have ht := zTo l (fun b hb => (hr b hb).2); have hsh : ShV l := ⟨by omega, fun b hb => ⟨(hr b hb).1, by have := (hr b hb).2; omega⟩⟩; have hk : (1 : Int) + totV l + 2 * l.length < 1000000000 := by
    have : 8 * 100000 * l.length ≤ 8 * 100000 * 120 := Nat.mul_le_mul_left _ hn; omega
   have e2 : ¬ (1 + (totV l : Int) + 2 * (l.length : Int) < 0) := by omega
   have hj : ∀ x4 x5 : Int, R kg [tLA8 a.2.2, tI a.1, tI a.2.1, zB l, tI x4, tI x5, tI c] = some [tI 0, tLA8 a.2.2, tI x4, tI x5, tB true] := by
    intro x4 x5; apply zDN
    simp [kj, zKX a hw.len8 hs, hss, hii, zKd a _ hw.len8 hw.len8 hs, zOZ l hsh,
     zMw a 1 hw.len8 (by omega) (by omega), zLO l 1 (by omega) hk hsh, zLY l 1 (by omega) hk hsh, e1, e2]
   simp [ka, zKZ a 1048576 hl (by omega) (by omega), hb, e, zKX a hw.len8 hs, hss, hii, hj]
end Go.Ev.YtmdkgikjnaijeaaGreat
