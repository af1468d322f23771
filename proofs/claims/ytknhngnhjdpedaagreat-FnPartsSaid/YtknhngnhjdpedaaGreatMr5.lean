/- The law FnParts. -/
import Derived.Test.YtknhngnhjdpedaaGreatWd
import Derived.Test.YtknhngnhjdpedaaGreatWb
set_option linter.unusedVariables false
set_option linter.unusedSimpArgs false
namespace Go.Ev.YtknhngnhjdpedaaGreat
open Go.Ev Go.Gar
theorem zOL {n : Nat} (hn : n ≤ 8) (code : List Int) (s : Pm n) (o : List Int) (ho : o.length = n) (hv : ∀ y, y < n → List.getD o y 0 = ((s.f y : Nat) : Int)) : ∀ (d i : Nat), i + d = n → R zA8 [tLU8 code, tA8 (sA s), tLI o, tI (n : Int), tI (i : Int)] = some [tI 0, tLU8 code] := by
 intro d
 induction d with
 | zero =>
  intro i h; apply zEr; have p1 : decide ((i : Int) < (n : Int)) = false := decide_eq_false (by omega); simp only [zBG, p1, cond_false]
 | succ d ih =>
  intro i h; apply zEr; have p1 : decide ((i : Int) < (n : Int)) = true := decide_eq_true (by omega); have p2 : decide (0 ≤ (i : Int)) = true := decide_eq_true (by omega); have p3 : decide ((i : Int) < 8) = true := decide_eq_true (by omega); have w1 : wi64 ((i : Int) + 1) = ((i + 1 : Nat) : Int) := by rw [zB] <;> omega
  have hs : s.f i < n := (zO1 s).2 (by omega); have w2 : wi64 ((s.f i : Nat) : Int) = ((s.f i : Nat) : Int) := by rw [zB] <;> omega
  simp only [zBG, p1, p2, p3, ho, cond_true, Bool.and_self, Int.toNat_natCast, hv i (by omega), zGb (show i < n by omega) hn, w2, bne_self_eq_false, cond_false, w1, ih (i + 1) (by omega)]
theorem zOK (code : List Int) (l : List (List Int)) (hl : l.length < 10000000) : ∀ (d i : Nat), i + d = l.length → R zA7 [tLU8 code, tLA8 l, tLA8 l, tI (i : Int)] = some [tI 0, tLU8 code] := by
 intro d
 induction d with
 | zero =>
  intro i h; apply zEq; have p1 : decide ((i : Int) < ((l.length : Nat) : Int)) = false := decide_eq_false (by omega); simp only [zBF, p1, cond_false]
 | succ d ih =>
  intro i h; apply zEq; have p1 : decide ((i : Int) < ((l.length : Nat) : Int)) = true := decide_eq_true (by omega); have p2 : decide (0 ≤ (i : Int)) = true := decide_eq_true (by omega); have w1 : wi64 ((i : Int) + 1) = ((i + 1 : Nat) : Int) := by rw [zB] <;> omega
  simp only [zBF, p1, p2, cond_true, Bool.and_self, bne_self_eq_false, cond_false, w1, ih (i + 1) (by omega)]
theorem zMY (code : List Int) (hb : ∀ x ∈ code, 0 ≤ x ∧ x ≤ 255) (hl : code.length ≤ 4096) : R zAY [tLU8 code] = some [tI 0, tB true] := by
 obtain ⟨L, m, d1, hL⟩ := zPx code hb hl; have e1 := zDQ L hL.1 hL.2 m; have e2 := zG2 L hL.1 hL.2 m; obtain ⟨k, d2⟩ := zPy code hb hl; obtain ⟨l, c, hll, e3, e4⟩ := zQz k; have e5 := zOK code l hll l.length 0 (by omega); simp only [Int.natCast_zero] at e5; obtain ⟨x, y, z, d3⟩ := zOO code hb hl; have e6 := zOQ x y z; have e7 := zOP x y z; have e8 : R zHl [jE (vBand x y z).1, jE (vBand x y z).1] = some [tB true] := by
  have hl := zOh x y z; apply zOX; simp only [zIE, zOF _ _ (show (vBand x y z).1.2.length < 1000000000 by omega), beq_self_eq_true, decide_true, cond_true, Option.bind_some, getTV_here]
 obtain ⟨a, q, d4, ha⟩ := zOM code hb hl; obtain ⟨r1, r2, f1, f2⟩ := zMb a ha q; obtain ⟨r3, r4, f3, f4⟩ := zIH a ha q; obtain ⟨r5, r6, f5, f6⟩ := zP2 a ha q; apply zIa; have b0 : ((0 : Int) == 0) = true := rfl; simp only [zCO, d1, e1, e2, d2, e3, e4, e5, d3, e6, e7, e8, d4, f1, f2, f3, f4, f5, f6, b0, bne_self_eq_false, beq_self_eq_true, cond_true, cond_false, Option.bind_some, getTV_here, getTV_next]
theorem law_FnParts (a : List Int) (h : Fit (.slice (.int .u8)) a) : R iw_FnParts [tLU8 a] = some [tB true] := by
 obtain ⟨hl, hb⟩ := zPc h; apply zNW
 by_cases hB : 4096 < ((a.length : Nat) : Int)
 · simp [zCe, zSS, hB]
 · have hlen : a.length ≤ 4096 := by omega
   have J := zMY a hb hlen; obtain ⟨p, q, k, d1, hp, hq⟩ := zON a hb hlen; have e5 := zAC p hp k; have e6 : R zHn [tA8 p, tI k] = some [tB (isPt p k)] := by
    apply zOY; simp only [zIF, zCN p hp, Option.bind_some, getTV_here]
   have n0 : ((0 : Int) != 0) = false := rfl; have b0 : ((0 : Int) == 0) = true := rfl; have b1 : ((1 : Int) == 0) = false := rfl
   rcases zQy p q hp hq k with ⟨m1, m2, j1, j2⟩ | ⟨n, s, t, h1, hn, rfl, hs, ht, rfl, rfl⟩
   · simp only [zCe, zSS, decide_eq_false hB, d1, m1, m2, j1, j2, e5, e6, b1, bne_self_eq_false, cond_false, cond_true, J, Option.bind_some, getTV_here, getTV_next]
   · have m1 := zL2 h1 hn hs ht; have m2 := zSD h1 hn hs ht; have j1 := zPW h1 hn hs ht; have j2 := zPP h1 hn hs ht; have hm := zCu h1 hs ht; have hj := zJs h1 hs ht; have k1 := zL2 h1 hn hm hs; rw [zPE h1 hs ht] at k1; have k2 := zPW h1 hn hj ht; rw [zPK h1 hs ht] at k2; have k3 := zL2 h1 hn hj hs; rw [zPJ h1 hs ht] at k3; have i1 := zDP h1 hn hm; have i2 := zDP h1 hn hj; have c1 := zFP h1 hn hs; have r1 := zL1 h1 hn hs; have r2 := zL1 h1 hn (zJt h1 hs); have t1 := zSF h1 hn hs; have r3 := zL1 h1 hn (zPS hs); rw [zQ0 h1] at r3; obtain ⟨g, hg⟩ := id hs; have bl : R zBh [tA8 (sA s), tI (n : Int)] = some [tLLI (bks n g n 0), tI 0] := by
      have e := zDv n hn g hg.can; rw [← zE6 hg] at e; apply zHP; simp only [zBn, zDP h1 hn hs, e, Option.bind_some, getTV_here, Bool.not_true, cond_false]
     have hlb := zIJ n g n 0; have pb := zDQ (bks n g n 0) (by omega) (fun b hb => by have := (zGJ hn b hb).2.1; omega) (n : Int); rw [zQN h1 hn hg] at pb; obtain ⟨w, o, o1, o2, w1, w2⟩ := zO6 h1 hn hs; have lp := zOL hn a s o o1 o2 n 0 (by omega); simp only [Int.natCast_zero] at lp; have hbl := zQ1 h1 s; have hb1 := zMd h1 s; have hb2 := zMd h1 (s⁻¹ * whP n); have ws : wi64 (((n - blk s : Nat) : Int) + ((n - blk (s⁻¹ * whP n) : Nat) : Int)) = wi64 ((n : Int) - 1) := by
      congr 1; omega
     simp only [zCe, zSS, decide_eq_false hB, d1, m1, m2, j1, j2, e5, e6, n0, b0, bne_self_eq_false, cond_false, cond_true, k1, k2, k3, i1, i2, c1, r1, r2, t1, r3, bl, pb, w1, w2, lp, ws, J, Bool.not_true, Option.bind_some, getTV_here, getTV_next]
end Go.Ev.YtknhngnhjdpedaaGreat
