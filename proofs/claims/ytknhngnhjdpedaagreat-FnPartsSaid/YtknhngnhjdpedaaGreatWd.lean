/- Texts merged: Mr1 Mr2 Mr3 Mr4. -/
import Derived.Test.YtknhngnhjdpedaaGreatWb
import Derived.Test.YtknhngnhjdpedaaGreatWc
set_option linter.unusedVariables false
set_option linter.unusedSimpArgs false
namespace Go.Ev.YtknhngnhjdpedaaGreat
open Go.Ev Go.Gar
theorem zTg {n : Nat} (hn : n ≤ 8) {g : Nat → Nat} {s : Pm n} (hg : Can n g) (hc : crs n g = false) (e : A8 n (mdf n g) = sA s) : Pt s g := ⟨hg, hc, fun x hx => by
 have h1 := jQ (f := mdf n g) hx hn; have h2 := zGb (s := s) hx hn; rw [e, h2] at h1; omega⟩
theorem zLw {n : Nat} (h1 : 1 ≤ n) {s : Pm n} (h : isP s) (hn : n ≤ 8) : isPt (sA s) (n : Int) = true := by
 obtain ⟨g, hg⟩ := h
 refine zNK ⟨by omega, by omega, g, hg.can, ?_, ?_⟩
 · rw [Int.toNat_natCast]; exact hg.nc
 · rw [Int.toNat_natCast]; exact zE6 hg
theorem zFv (a : List Int) (k : Int) : isPt a k = false ∨ (isPt a k = true ∧ ∃ (n : Nat) (s : Pm n), 1 ≤ n ∧ n ≤ 8 ∧ k = n ∧ isP s ∧ a = sA s) := by
 rcases zF2 a k with h | ⟨h, n, g, s, h1, h2, h3, h4, h5, h6, h7⟩
 · exact .inl h
 · exact .inr ⟨h, n, s, h1, h2, h3, ⟨g, zTg h2 h4 h5 (h6.symm.trans h7)⟩, h7⟩
section
variable {n : Nat} (h1 : 1 ≤ n) (hn : n ≤ 8) {s t : Pm n} (hs : isP s) (ht : isP t)
include h1 hn hs
theorem zDP : R zj [tA8 (sA s), tI (n : Int)] = some [tB true] := by rw [zAC _ (zOs hn s), zLw h1 hs hn]
theorem zPQ : R zBA [tA8 (sA s), tI (n : Int)] = some [tB true] := by rw [zCN _ (zOs hn s), zLw h1 hs hn]
include ht
theorem zL2 : R kT [tA8 (sA s), tA8 (sA t), tI (n : Int)] = some [tA8 (sA (meetP s t)), tI 0] := by
 apply zCJ; simp only [jO, zDP h1 hn hs, zDP h1 hn ht, zSQ n h1 hn hs ht, Option.bind_some, getTV_here, Bool.not_true, cond_false]
theorem zPO : R zCV [tA8 (sA s), tA8 (sA t), tI (n : Int)] = some [tI 0] := by
 apply zHF; simp only [zDf, zPQ h1 hn hs, zPQ h1 hn ht, Option.bind_some, getTV_here, Bool.not_true, cond_false]
theorem zSD : R zAa [tA8 (sA s), tA8 (sA t), tI (n : Int)] = some [tA8 (sA (meetP s t)), tI 0] := by
 have c0 : ((0 : Int) != 0) = false := rfl; apply zCI; simp only [jN, zPO h1 hn hs ht, zJI n h1 hn hs ht, Option.bind_some, getTV_here, c0, cond_false]
end
noncomputable def joinP {n : Nat} (s t : Pm n) : Pm n := whP n * (meetP (s⁻¹ * whP n) (t⁻¹ * whP n))⁻¹
theorem zJt {n : Nat} (h1 : 1 ≤ n) {s : Pm n} (hs : isP s) : isP (s⁻¹ * whP n) := (latP n h1).S_K hs
theorem zCu {n : Nat} (h1 : 1 ≤ n) {s t : Pm n} (hs : isP s) (ht : isP t) : isP (meetP s t) := (latP n h1).S_meet hs ht
theorem zJs {n : Nat} (h1 : 1 ≤ n) {s t : Pm n} (hs : isP s) (ht : isP t) : isP (joinP s t) := zHA h1 (zCu h1 (zJt h1 hs) (zJt h1 ht))
theorem zRe {n : Nat} (s t : Pm n) : (joinP s t)⁻¹ * whP n = meetP (s⁻¹ * whP n) (t⁻¹ * whP n) := by
 unfold joinP; rw [zt, zEW, Grp.assoc, Grp.inv_mul, Grp.mul_one]
section
variable {n : Nat} (h1 : 1 ≤ n) {s t : Pm n} (hs : isP s) (ht : isP t)
include h1 hs ht
omit ht in
theorem zPF {x : Pm n} (hx : isP x) (l : leP x s) : meetP s x = x := by
 have hm := zCu h1 hs hx; exact (latP n h1).anti hm hx ((latP n h1).meet_r hs hx) ((latP n h1).le_meet hs hx hx l ((latP n h1).refl hx))
theorem zSC : leP s (joinP s t) := by
 obtain ⟨_, hs'⟩ := hs; obtain ⟨_, hj⟩ := zJs h1 ⟨_, hs'⟩ ht; refine zCm hs' hj (pt_D n) (le_D hs') (le_D hj) ?_; rw [zRe]; exact (latP n h1).meet_l (zJt h1 ⟨_, hs'⟩) (zJt h1 ht)
theorem zPJ : meetP (joinP s t) s = s := zPF h1 (zJs h1 hs ht) hs (zSC h1 hs ht)
theorem zPE : meetP (meetP s t) s = meetP s t := by
 have hm := zCu h1 hs ht; have hmm := zCu h1 hm hs; exact (latP n h1).anti hmm hm ((latP n h1).meet_l hm hs) ((latP n h1).le_meet hm hs hm ((latP n h1).refl hm) ((latP n h1).meet_l hs ht))
theorem zPK : joinP (joinP s t) t = joinP s t := by
 have hk := zJt h1 hs; have hk' := zJt h1 ht; have hm := zCu h1 hk hk'; have hmm := zCu h1 hm hk'
 have e : meetP (meetP (s⁻¹ * whP n) (t⁻¹ * whP n)) (t⁻¹ * whP n) = meetP (s⁻¹ * whP n) (t⁻¹ * whP n) :=
  (latP n h1).anti hmm hm ((latP n h1).meet_l hm hk') ((latP n h1).le_meet hm hk' hm ((latP n h1).refl hm) ((latP n h1).meet_r hk hk'))
 show whP n * (meetP ((joinP s t)⁻¹ * whP n) (t⁻¹ * whP n))⁻¹ = _; rw [zRe, e]
 rfl
end
section
variable {n : Nat} (h1 : 1 ≤ n) (hn : n ≤ 8) {s t : Pm n} (hs : isP s) (ht : isP t)
include h1 hn hs ht
theorem zPP : R jH [tA8 (sA s), tA8 (sA t), tI (n : Int)] = some [tA8 (sA (joinP s t)), tI 0] := by
 have c0 : ((0 : Int) != 0) = false := rfl; apply zAV; simp only [kV, zPO h1 hn hs ht, zAB n hn, zJI n h1 hn (zJt h1 hs) (zJt h1 ht), zF8 n hn, zIC n hn, zH6 n hn, Option.bind_some, getTV_here, c0, cond_false]
 rfl
theorem zPW : R jJ [tA8 (sA s), tA8 (sA t), tI (n : Int)] = some [tA8 (sA (joinP s t)), tI 0] := by
 have hs' := hs; have ht' := ht; obtain ⟨g, hg⟩ := hs; obtain ⟨g', hg'⟩ := ht; have e := zE6 hg; have e' := zE6 hg'; obtain ⟨r, r8, ⟨mm, x1, x2, j1, j2, j3, kk, j4, j5⟩, y, G, j6, j7⟩ := zPL n h1 hn g g' hg.can hg'.can hg.nc hg'.nc; rw [← e] at j1; rw [← e'] at j2 j6; have c0 : ((0 : Int) != 0) = false := rfl; have hR : R jH [tA8 (sA s), tA8 (sA t), tI (n : Int)] = some [tA8 r, tI 0] := by
  apply zAV; simp only [kV, zPO h1 hn hs' ht', Option.bind_some, getTV_here, c0, cond_false, j1, j2, j3, zF8 n hn, j4, j5]
 rw [zPP h1 hn hs' ht'] at hR; have er : sA (joinP s t) = r := by
  simp only [Option.some.injEq, List.cons.injEq, TV.mk.injEq, heq_eq_eq, true_and, and_true] at hR; exact hR
 have e3 := zCd n hn g hg.can; rw [← e] at e3; apply zCK; simp only [jP, zDP h1 hn hs', zDP h1 hn ht', Option.bind_some, getTV_here, getTV_next, Bool.not_true, cond_false, e3, j6, j7, er]
end
theorem zQy (a b : List Int) (ha : B8 a) (hb : B8 b) (k : Int) :
  (R kT [tA8 a, tA8 b, tI k] = some [tA8 (List.replicate 8 0), tI 1] ∧ R zAa [tA8 a, tA8 b, tI k] = some [tA8 (List.replicate 8 0), tI 1] ∧
   R jJ [tA8 a, tA8 b, tI k] = some [tA8 (List.replicate 8 0), tI 1] ∧ R jH [tA8 a, tA8 b, tI k] = some [tA8 (List.replicate 8 0), tI 1]) ∨
  ∃ (n : Nat) (s t : Pm n), 1 ≤ n ∧ n ≤ 8 ∧ k = n ∧ isP s ∧ isP t ∧ a = sA s ∧ b = sA t := by
 have c1 : ((1 : Int) != 0) = true := rfl
 rcases zFv a k with h | ⟨h, n, s, h1, hn, rfl, hs, rfl⟩
 · left; have e2 : R zCV [tA8 a, tA8 b, tI k] = some [tI 1] := by
    apply zHF; simp only [zDf, zCN a ha, h, Option.bind_some, getTV_here, Bool.not_false, cond_true]
   refine ⟨?_, ?_, ?_, ?_⟩
   · apply zCJ; simp only [jO, zAC a ha, h, Option.bind_some, getTV_here, Bool.not_false, cond_true]
   · apply zCI; simp only [jN, e2, Option.bind_some, getTV_here, c1, cond_true]
   · apply zCK; simp only [jP, zAC a ha, h, Option.bind_some, getTV_here, Bool.not_false, cond_true]
   · apply zAV; simp only [kV, e2, Option.bind_some, getTV_here, c1, cond_true]
 · rcases zFv b n with h' | ⟨h', m, t, _, _, hm, ht, rfl⟩
   · left; have e2 : R zCV [tA8 (sA s), tA8 b, tI (n : Int)] = some [tI 1] := by
      apply zHF; simp only [zDf, zPQ h1 hn hs, zCN b hb, h', Option.bind_some, getTV_here, Bool.not_true, Bool.not_false, cond_true, cond_false]
     refine ⟨?_, ?_, ?_, ?_⟩
     · apply zCJ; simp only [jO, zDP h1 hn hs, zAC b hb, h', Option.bind_some, getTV_here, Bool.not_true, Bool.not_false, cond_true, cond_false]
     · apply zCI; simp only [jN, e2, Option.bind_some, getTV_here, c1, cond_true]
     · apply zCK; simp only [jP, zDP h1 hn hs, zAC b hb, h', Option.bind_some, getTV_here, Bool.not_true, Bool.not_false, cond_true, cond_false]
     · apply zAV; simp only [kV, e2, Option.bind_some, getTV_here, c1, cond_true]
   · right; obtain rfl : n = m := by omega
     exact ⟨n, s, t, h1, hn, rfl, hs, ht, rfl, rfl⟩
end Go.Ev.YtknhngnhjdpedaaGreat
namespace Go.Ev.YtknhngnhjdpedaaGreat
open Go.Ev Go.Gar
theorem zO1 {n : Nat} (s : Pm n) {x : Nat} : s.f x < n ↔ x < n := by
 constructor
 · intro h
   by_cases hx : x < n
   · exact hx
   · rw [s.out x (by omega)] at h; exact h
 · intro h
   by_cases hx : s.f x < n
   · exact hx
   · have := s.out (s.f x) (by omega); have := s.inj this; omega
theorem zNM {n : Nat} (s : Pm n) (P : Nat → Bool) : (List.range n).countP (fun z => P (s.f z)) = (List.range n).countP P := by
 have e : (List.range n).countP (fun z => P (s.f z)) = ((List.range n).map s.f).countP P := by rw [List.countP_map]; rfl
 rw [e]; apply List.Perm.countP_eq; rw [List.perm_iff_count]; intro a; have nd : ((List.range n).map s.f).Nodup := by
  exact List.pairwise_map.2 (List.nodup_range.imp (fun h e => h (s.inj e)))
 rw [nd.count, List.nodup_range.count]; have : a ∈ (List.range n).map s.f ↔ a ∈ List.range n := by
  rw [List.mem_map, List.mem_range]
  constructor
  · rintro ⟨z, hz, rfl⟩; exact (zO1 s).2 (List.mem_range.1 hz)
  · intro h; exact ⟨s.g a, List.mem_range.2 ((zO1 s).1 (by rw [s.fg]; exact h)), s.fg a⟩
 simp only [this]
def blk {n : Nat} (s : Pm n) : Nat := (List.range n).countP fun z => decide (s.f z ≤ z)
theorem zTK {n : Nat} {s : Pm n} {g : Nat → Nat} (h : Pt s g) : (List.range n).countP (fun x => decide (g x = x)) = blk s := by
 unfold blk; rw [← zNM s (fun x => decide (g x = x))]; apply List.countP_congr; intro z hz; have hz := List.mem_range.1 hz; simp only [decide_eq_true_eq]; rw [h.f z hz]
 rcases zP (g := g) hz with ⟨k, k1, k2, k3, _, k5⟩ | ⟨_, k2⟩
 · rw [k5]; have := (h.can z hz).1
   constructor
   · intro e; omega
   · intro e; omega
 · rw [k2]; have := h.can z hz; exact ⟨fun _ => this.1, fun _ => this.2⟩
theorem zQ1 {n : Nat} (h1 : 1 ≤ n) (s : Pm n) : blk (s⁻¹ * whP n) + blk s = n + 1 := by
 have e1 : blk (s⁻¹ * whP n) = (List.range n).countP fun p => decide (sc n p ≤ s.f p) := by
  unfold blk; rw [← zNM s (fun z => decide ((s⁻¹ * whP n).f z ≤ z))]; apply List.countP_congr; intro p hp; have hp := List.mem_range.1 hp; have : (s⁻¹ * whP n).f (s.f p) = sc n p := by
   show (whP n).f (s.g (s.f p)) = _; rw [s.gf, zIZ hp]
  rw [this]
 obtain ⟨m, rfl⟩ : ∃ m, n = m + 1 := ⟨n - 1, by omega⟩; have e2 : (List.range (m + 1)).countP (fun p => decide (sc (m + 1) p ≤ s.f p)) = (List.range (m + 1)).countP (fun p => decide (p < s.f p)) + 1 := by
  rw [List.range_succ, List.countP_append, List.countP_append]; have a1 : (List.range m).countP (fun p => decide (sc (m + 1) p ≤ s.f p)) = (List.range m).countP (fun p => decide (p < s.f p)) := by
   apply List.countP_congr; intro p hp; have hp := List.mem_range.1 hp; have : sc (m + 1) p = p + 1 := by unfold sc; rw [if_neg (by omega)]
   rw [this]; simp only [decide_eq_true_eq]; omega
  have a2 : sc (m + 1) m = 0 := by unfold sc; rw [if_pos rfl]
  have a3 : s.f m < m + 1 := (zO1 s).2 (by omega); have a4 : ¬ m < s.f m := by omega
  rw [a1]; simp [a2, a4]
 have e3 : (List.range (m + 1)).countP (fun p => decide (p < s.f p)) + blk s = m + 1 := by
  have := List.length_eq_countP_add_countP (fun p => decide (p < s.f p)) (l := List.range (m + 1)); rw [List.length_range] at this; have e4 : (List.range (m + 1)).countP (fun p => decide ¬ (decide (p < s.f p)) = true) = blk s := by
   unfold blk; apply List.countP_congr; intro p _; simp
  rw [← e4]; omega
 rw [e1, e2]; omega
theorem zQ0 {n : Nat} (h1 : 1 ≤ n) (s : Pm n) : blk ((whP n)⁻¹ * (s * whP n)) = blk s := by
 have a := zQ1 h1 s; have b := zQ1 h1 (s⁻¹ * whP n); rw [zJb] at b; omega
theorem zMd {n : Nat} (h1 : 1 ≤ n) (s : Pm n) : 1 ≤ blk s ∧ blk s ≤ n := by
 have a := zQ1 h1 s; have l1 : ∀ t : Pm n, blk t ≤ n := fun t => by
  have := List.countP_le_length (p := fun z => decide (t.f z ≤ z)) (l := List.range n); rwa [List.length_range] at this
 have := l1 s; have := l1 (s⁻¹ * whP n); omega
theorem zIK (n : Nat) (g : Nat → Nat) : ∀ d x, (bks n g d x).length = (List.range' x d).countP fun y => decide (g y = y)
 | 0, x => by simp [bks]
 | d + 1, x => by
  rw [List.range'_succ, List.countP_cons, bks]
  split
  · rename_i e; rw [List.length_cons, zIK n g d (x + 1), if_pos (decide_eq_true e)]
  · rename_i e; rw [zIK n g d (x + 1), if_neg (by simpa using e)]
    rfl
theorem zL1 {n : Nat} (h1 : 1 ≤ n) (hn : n ≤ 8) {s : Pm n} (hs : isP s) : R zBg [tA8 (sA s), tI (n : Int)] = some [tI ((n - blk s : Nat) : Int), tI 0] := by
 have hs' := hs; obtain ⟨g, hg⟩ := hs; have e := zDv n hn g hg.can; rw [← zE6 hg] at e; have l : (bks n g n 0).length = blk s := by
  rw [zIK, ← zTK hg, List.range_eq_range']
 have hb := zMd h1 s; have w : wi64 ((n : Int) - ((blk s : Nat) : Int)) = ((n - blk s : Nat) : Int) := by rw [zB] <;> omega
 apply zHN; simp only [zDk, zDP h1 hn hs', e, l, w, Option.bind_some, getTV_here, Bool.not_true, cond_false]
theorem zFP {n : Nat} (h1 : 1 ≤ n) (hn : n ≤ 8) {s : Pm n} (hs : isP s) : R zk [tA8 (sA s), tI (n : Int)] = some [tA8 (sA (s⁻¹ * whP n)), tI 0] := by
 apply zBX; simp only [kK, zDP h1 hn hs, zG1 n hn, Option.bind_some, getTV_here, Bool.not_true, cond_false]
theorem zTL {g : Nat → Nat} {x d y : Nat} (z : Nat) : ((z : Int)) ∈ bk g x d y ↔ y ≤ z ∧ z < y + d ∧ g z = x := by
 constructor
 · intro h; obtain ⟨k, k1, k2, k3, k4⟩ := zFc h; obtain rfl : z = k := by omega
   exact ⟨k2, k3, k4⟩
 · induction d generalizing y with
   | zero => intro h; omega
   | succ d ih =>
    rintro ⟨h1, h2, h3⟩; rw [bk]
    by_cases e : z = y
    · subst e; rw [if_pos h3]; exact List.mem_cons_self
    · have := ih (y := y + 1) ⟨by omega, by omega, h3⟩
      split
      · exact List.mem_cons_of_mem _ this
      · exact this
theorem zO4 (n x : Nat) (b : List Int) (hb0 : List.getD b 0 0 = (x : Int)) : ∀ (suf pre : List Int), b = pre ++ suf → b.Pairwise (· < ·) → (∀ y ∈ suf, 0 ≤ y ∧ y ≤ (n : Int) - 1) → ∀ (G : Nat → Nat) (S : Nat → Bool), (∀ y ∈ suf, S y.toNat = false) →
  pbk n b suf.length pre.length G S = some (fun z : Nat => if ((z : Int)) ∈ suf then x else G z, fun z : Nat => if ((z : Int)) ∈ suf then true else S z)
 | [], pre, hb, hs, hr, G, S, hS => by simp [pbk]
 | y :: suf, pre, hb, hs, hr, G, S, hS => by
  have gy : List.getD b pre.length 0 = y := by rw [hb]; simp [List.getD_eq_getElem?_getD]
  obtain ⟨r1, r2⟩ := hr y List.mem_cons_self; have hlt : ¬ (0 < pre.length ∧ y ≤ List.getD b (pre.length - 1) 0) := by
   rintro ⟨q1, q2⟩; rw [hb] at hs; have h3 := (List.pairwise_append.1 hs).2.2; have hl : pre.length - 1 < pre.length := by omega
   have e : List.getD b (pre.length - 1) 0 = pre[pre.length - 1] := by
    rw [hb, List.getD_eq_getElem?_getD, List.getElem?_append_left hl, List.getElem?_eq_getElem hl]
    rfl
   rw [e] at q2; have := h3 _ (List.getElem_mem hl) y List.mem_cons_self; omega
  have hny : y ∉ suf := by
   rw [hb] at hs; have h2 := (List.pairwise_append.1 hs).2.1; intro hm; have := List.rel_of_pairwise_cons h2 hm; omega
  rw [List.length_cons, pbk, gy, if_pos ⟨r1, r2⟩, hS y List.mem_cons_self, if_neg (by simp), if_neg hlt, hb0]; have ih := zO4 n x b hb0 suf (pre ++ [y]) (by rw [hb]; simp) hs (fun z hz => hr z (List.mem_cons_of_mem _ hz)) (putG G y.toNat x) (putS S y.toNat) (fun z hz => by
   unfold putS; rw [if_neg (by
    intro e; have := hr z (List.mem_cons_of_mem _ hz); have : z = y := by omega
    exact hny (this ▸ hz))]
   exact hS z (List.mem_cons_of_mem _ hz))
  rw [List.length_append, List.length_singleton] at ih; rw [Int.toNat_natCast, ih]; congr 1
  refine Prod.ext (funext fun z => ?_) (funext fun z => ?_)
  · show (if _ then x else putG G y.toNat x z) = (if ((z : Int)) ∈ y :: suf then x else G z); unfold putG
    by_cases h : ((z : Int)) ∈ suf
    · rw [if_pos h, if_pos (List.mem_cons_of_mem _ h)]
    · rw [if_neg h]
      by_cases e : z = y.toNat
      · rw [if_pos e, if_pos (by rw [List.mem_cons]; left; omega)]
      · rw [if_neg e, if_neg (by rw [List.mem_cons]; rintro (q | q); · omega
                                 · exact h q)]
  · show (if _ then true else putS S y.toNat z) = (if ((z : Int)) ∈ y :: suf then true else S z); unfold putS
    by_cases h : ((z : Int)) ∈ suf
    · rw [if_pos h, if_pos (List.mem_cons_of_mem _ h)]
    · rw [if_neg h]
      by_cases e : z = y.toNat
      · rw [if_pos e, if_pos (by rw [List.mem_cons]; left; omega)]
      · rw [if_neg e, if_neg (by rw [List.mem_cons]; rintro (q | q); · omega
                                 · exact h q)]
def gx (n : Nat) (g : Nat → Nat) (x z : Nat) : Nat := if z < n ∧ g z < x then g z else z
def sx (n : Nat) (g : Nat → Nat) (x z : Nat) : Bool := decide (z < n ∧ g z < x)
theorem zO3 {n : Nat} {g : Nat → Nat} (hg : Can n g) : ∀ (d x : Nat), x + d = n → pbs n (bks n g d x) (gx n g x) (sx n g x) = some (gx n g n, sx n g n)
 | 0, x, h => by
  obtain rfl : x = n := by omega
  rfl
 | d + 1, x, h => by
  have ih := zO3 hg d (x + 1) (by omega); rw [bks]
  split
  · rename_i e; have hmem : ∀ z : Nat, ((z : Int)) ∈ bk g x (n - x) x ↔ z < n ∧ g z = x := fun z => by
     rw [zTL]
     constructor
     · rintro ⟨_, a, b⟩; exact ⟨by omega, b⟩
     · rintro ⟨a, b⟩; have := (hg z a).1; exact ⟨by omega, by omega, b⟩
    have hx : ((x : Int)) ∈ bk g x (n - x) x := (hmem x).2 ⟨by omega, e⟩; have hne : bk g x (n - x) x ≠ [] := fun h0 => by rw [h0] at hx; simp at hx
    have h0 : List.getD (bk g x (n - x) x) 0 0 = (x : Int) := by
     rw [show n - x = d + 1 by omega, bk, if_pos e]
     rfl
    have hin : ∀ y ∈ bk g x (n - x) x, ∃ k : Nat, y = (k : Int) ∧ k < n ∧ g k = x := fun y hy => by
     obtain ⟨k, k1, k2, k3, k4⟩ := zFc hy; exact ⟨k, k1, by omega, k4⟩
    have run := zO4 n x (bk g x (n - x) x) h0 (bk g x (n - x) x) [] rfl zFb (fun y hy => by
     obtain ⟨k, rfl, k2, _⟩ := hin y hy; omega) (gx n g x) (sx n g x) (fun y hy => by
     obtain ⟨k, rfl, k2, k3⟩ := hin y hy; unfold sx; rw [Int.toNat_natCast, decide_eq_false]; omega)
    rw [List.length_nil] at run; rw [pbs, if_neg hne, run, Option.bind_some]; have e1 : (fun z : Nat => if ((z : Int)) ∈ bk g x (n - x) x then x else gx n g x z) = gx n g (x + 1) := funext fun z => by
     unfold gx
     by_cases hz : ((z : Int)) ∈ bk g x (n - x) x
     · have := (hmem z).1 hz; rw [if_pos hz, if_pos (by omega)]; exact this.2.symm
     · rw [if_neg hz]; have : ¬ (z < n ∧ g z = x) := fun q => hz ((hmem z).2 q)
       by_cases q : z < n ∧ g z < x
       · rw [if_pos q, if_pos (by omega)]
       · rw [if_neg q, if_neg (by omega)]
    have e2 : (fun z : Nat => if ((z : Int)) ∈ bk g x (n - x) x then true else sx n g x z) = sx n g (x + 1) := funext fun z => by
     unfold sx
     by_cases hz : ((z : Int)) ∈ bk g x (n - x) x
     · have := (hmem z).1 hz; rw [if_pos hz, decide_eq_true (by omega)]
     · rw [if_neg hz]; have : ¬ (z < n ∧ g z = x) := fun q => hz ((hmem z).2 q); rw [decide_eq_decide]; omega
    show pbs n _ (fun z : Nat => if ((z : Int)) ∈ bk g x (n - x) x then x else gx n g x z) (fun z : Nat => if ((z : Int)) ∈ bk g x (n - x) x then true else sx n g x z) = _; rw [e1, e2]; exact ih
  · rename_i e; have no : ∀ z, z < n → g z ≠ x := fun z hz q => e (by rw [← q]; exact (hg z hz).2)
    have e1 : gx n g x = gx n g (x + 1) := funext fun z => by
     unfold gx
     by_cases q : z < n ∧ g z < x
     · rw [if_pos q, if_pos (by omega)]
     · rw [if_neg q, if_neg (fun q' => by have := no z q'.1; omega)]
    have e2 : sx n g x = sx n g (x + 1) := funext fun z => by
     unfold sx; rw [decide_eq_decide]
     constructor
     · intro q; omega
     · intro q; have := no z q.1; omega
    rw [e1, e2]; exact ih
theorem zQN {n : Nat} (h1 : 1 ≤ n) (hn : n ≤ 8) {s : Pm n} {g : Nat → Nat} (h : Pt s g) : vPOB (bks n g n 0) (n : Int) = (sA s, 0) := by
 have e := zO3 h.can n 0 (by omega); have a0 : gx n g 0 = id := funext fun z => if_neg (by omega)
 have a1 : sx n g 0 = fun _ => false := funext fun z => decide_eq_false (by omega)
 rw [a0, a1] at e; have c : ∀ x, x < n → gx n g n x = g x := fun x hx => if_pos ⟨hx, by have := (h.can x hx).1; omega⟩
 unfold vPOB; rw [if_pos (by omega), Int.toNat_natCast, e]; simp only; rw [zH1 c, h.nc, if_neg (by simp), zE6 h]; congr 1; exact zF (fun x hx => zFK c hx)
end Go.Ev.YtknhngnhjdpedaaGreat
namespace Go.Ev.YtknhngnhjdpedaaGreat
open Go.Ev Go.Gar
def ax {n : Nat} (g : Nat → Int) (b : Bn n) : Nat → Int := Quotient.liftOn b (fun u => u.1.foldl xch g) (fun a b h => zSg h g)
theorem zTO {n : Nat} (g : Nat → Int) (w : List Int) (h : ∀ x ∈ w, Lr n x) : ax g (Bn.mk w h) = w.foldl xch g := rfl
theorem zTN {n : Nat} (g : Nat → Int) : ax g (1 : Bn n) = g := rfl
theorem zNT {n : Nat} (g : Nat → Int) (a b : Bn n) : ax g (a * b) = ax (ax g a) b := by
 induction a using Quotient.inductionOn
 induction b using Quotient.inductionOn
 rename_i a b; show (a.1 ++ b.1).foldl xch g = _; rw [List.foldl_append]
 rfl
theorem zTP {n : Nat} (g : Nat → Int) (a : Bn n) : ax (ax g a) a⁻¹ = g := by rw [← zNT, Grp.mul_inv, zTN]
theorem zSs (p i : Nat) : Pm.sf p i = trf p (p + 1) i := by
 unfold Pm.sf trf
 by_cases h : i = p
 · simp [h]
 · by_cases h' : i = p + 1 <;> simp [h, h']
theorem zSa {n p : Nat} (h : p + 1 < n) (g : Nat → Int) : ax g (sg n p) = fun i => g (trf p (p + 1) i) := by
 rw [zLm h, zTO]; funext i; show g (Pm.sf (((p + 1 : Nat) : Int).natAbs - 1) i) = _; rw [show ((p + 1 : Nat) : Int).natAbs - 1 = p by omega, zSs]
theorem zTM {n p : Nat} (h : p + 1 < n) (g : Nat → Int) : ax g (sg n p)⁻¹ = fun i => g (trf p (p + 1) i) := by
 have e := zTP (fun i => g (trf p (p + 1) i)) (sg n p); rw [zSa h] at e; have : (fun i => g (trf p (p + 1) (trf p (p + 1) i))) = g := funext fun i => by rw [zJU]
 rw [this] at e; exact e
theorem zTQ {n s : Nat} : ∀ (d : Nat), s + d + 1 < n → ∀ g : Nat → Int, ax g (bd n s d) = fun i => g (trf s (s + d + 1) i)
 | 0, h, g => zSa h g
 | d + 1, h, g => by
  rw [bd, zNT, zNT, zSa (by omega), zTQ d (by omega), zTM (by omega)]; funext i; show g _ = g _; congr 1; unfold trf
  repeat' split
  all_goals omega
theorem zTp {n a b : Nat} (h : a < b) (hb : b < n) (g : Nat → Int) : ax g (Bdb n a b) = fun i => g (trf a b i) := by
 unfold Bdb; rw [zTQ _ (by omega), show a + (b - a - 1) + 1 = b by omega]
theorem zSZ {n : Nat} : ∀ (k : Nat), k ≤ n → ∀ (x : Pm n), Sup k x → ∀ g : Nat → Int, ax g (th n k x) = fun i => g (x.g i)
 | 0, _, x, hx, g => by
  funext i; show g i = _; rw [hx.g (Nat.zero_le i)]
 | k + 1, hk, x, hx, g => by
  rw [th]
  split
  · rename_i hj; have hs : Sup k (tau n (x.g k) k * x) := fun z hz => by
     show x.f ((tau n (x.g k) k).f z) = z; rw [zSo (by omega) (by omega)]
     by_cases e : z = k
     · subst e; rw [zOm, x.fg]
     · rw [zLc (by omega) e]; exact hx z (by omega)
    rw [zNT, zTp hj (by omega), zSZ k (by omega) _ hs]; funext i; show g (trf (x.g k) k ((tau n (x.g k) k).g (x.g i))) = _; rw [zSn (by omega) (by omega), zJU]
  · rename_i hj; have hk' : x.g k = k := by
     have := hx.g_lt (z := k) (by omega); omega
    exact zSZ k (by omega) x (hx.down hk') g
theorem zPZ {n : Nat} (hn : n ≤ 8) {s : Pm n} {g : Nat → Nat} (h : Pt s g) : (wPart n g).foldl xch (fun x => (x : Int)) = fun i => ((s.g i : Nat) : Int) := by
 have e := zQh h; rw [zTF _ (zJM hn g)] at e; have := zTO (n := n) (fun x => (x : Int)) (wPart n g) (zJM hn g); rw [← this, e, zSZ n (Nat.le_refl _) s (zSq s)]
theorem zOU {p b : Int} (h : b < p) : ((bandL p b).length : Int) = 2 * (p - b) - 1 := by
 unfold bandL; rw [List.length_append, zF5, zLb]; omega
theorem zOV {b : List Int} (hb : Blk b) : ∀ i, i < b.length → ((wb b i).length : Int) ≤ 2 * (List.getD b i 0 - List.getD b 0 0)
 | 0, _ => by simp [wb]
 | i + 1, h => by
  have h1 := zOV hb i (by omega); obtain ⟨_, k2, _⟩ := hb.2.2 i h; have h2 := zOU k2; simp only [wb, List.length_append]; omega
theorem zSW {b : List Int} (hb : Blk b) (hn : ∀ z ∈ b, 0 ≤ z ∧ z ≤ 7) : (wb b (b.length - 1)).length ≤ 14 := by
 have h0 : 0 < b.length := List.length_pos_iff.2 hb.1; have h1 := zOV hb (b.length - 1) (by omega); have g : ∀ i, i < b.length → 0 ≤ List.getD b i 0 ∧ List.getD b i 0 ≤ 7 := fun i hi => by
  rw [List.getD_eq_getElem?_getD, List.getElem?_eq_getElem hi]; exact hn _ (List.getElem_mem hi)
 have := g (b.length - 1) (by omega); have := g 0 h0; omega
theorem zMp : ∀ {l : List (List Int)}, (∀ b ∈ l, Blk b ∧ ∀ z ∈ b, 0 ≤ z ∧ z ≤ 7) → (wbs l).length ≤ 14 * l.length
 | [], _ => by simp [wbs]
 | b :: r, h => by
  have h1 := zSW (h b List.mem_cons_self).1 (h b List.mem_cons_self).2; have h2 := zMp (l := r) (fun c hc => h c (List.mem_cons_of_mem _ hc)); simp only [wbs, List.length_append, List.length_cons]; omega
theorem zNV {n : Nat} (hn : n ≤ 8) (g : Nat → Nat) : (wPart n g).length ≤ 112 := by
 have h1 := zMp (l := bks n g n 0) (fun b hb => ⟨zGJ hn b hb, fun z hz => by
  obtain ⟨k, k1, k2, k3, rfl⟩ := zII hb; obtain ⟨j, rfl, j2, j3, _⟩ := zFc hz; omega⟩)
 have h2 := zIJ n g n 0; unfold wPart; omega
theorem zPi {n : Nat} (hn : n ≤ 8) (s : Pm n) : ∀ (d i : Nat) (o : List Int), i + d = n → o.length = n → ∃ o' : List Int, o'.length = n ∧ (∀ y, y < n → List.getD o' y 0 = if i ≤ s.f y then ((s.f y : Nat) : Int) else List.getD o y 0) ∧
  R zCx [tLI o, tLI (Lf n fun x => ((s.g x : Nat) : Int)), tI (n : Int), tI (i : Int)] = some [tI 0, tLI o'] := by
 intro d
 induction d with
 | zero =>
  intro i o h ho
  refine ⟨o, ho, fun y hy => ?_, ?_⟩
  · have := (show s.f y < n from by
     by_cases hx : s.f y < n
     · exact hx
     · have := s.out (s.f y) (by omega); have := s.inj this; omega)
    rw [if_neg (by omega)]
  · apply zHL; have p1 : decide ((i : Int) < (n : Int)) = false := decide_eq_false (by omega); simp only [zDG, p1, cond_false]
 | succ d ih =>
  intro i o h ho; have hgi : s.g i < n := by
   by_cases hx : s.g i < n
   · exact hx
   · have := s.out (s.g i) (by omega); rw [s.fg] at this; omega
  obtain ⟨o', h1, h2, h3⟩ := ih (i + 1) (List.set o (s.g i) (i : Int)) (by omega) (by rw [List.length_set]; exact ho)
  refine ⟨o', h1, fun y hy => ?_, ?_⟩
  · rw [h2 y hy]
    by_cases e : y = s.g i
    · subst e; rw [s.fg, if_neg (by omega), if_pos (Nat.le_refl _), List.getD_eq_getElem?_getD, List.getElem?_set_self (by omega)]
      rfl
    · have hne : s.f y ≠ i := fun q => e (by rw [← q, s.gf])
      have : List.getD (List.set o (s.g i) (i : Int)) y 0 = List.getD o y 0 := by
       rw [List.getD_eq_getElem?_getD, List.getElem?_set_ne (fun q => e q.symm), ← List.getD_eq_getElem?_getD]
      rw [this]
      by_cases q : i ≤ s.f y
      · rw [if_pos (by omega), if_pos q]
      · rw [if_neg (by omega), if_neg q]
  · apply zHL; have p1 : decide ((i : Int) < (n : Int)) = true := decide_eq_true (by omega); have p2 : decide (0 ≤ (i : Int)) = true := decide_eq_true (by omega); have w1 : wi64 ((i : Int) + 1) = ((i + 1 : Nat) : Int) := by rw [zB] <;> omega
    have q1 : decide (0 ≤ ((s.g i : Nat) : Int)) = true := decide_eq_true (by omega); have q2 : decide (((s.g i : Nat) : Int) < (n : Int)) = true := decide_eq_true (by omega); simp only [zDG, p1, p2, cond_true, Bool.and_true, zEK, ho, Int.toNat_natCast, zQE (show i < n by omega), q1, q2, w1, h3]
theorem zO6 {n : Nat} (h1 : 1 ≤ n) (hn : n ≤ 8) {s : Pm n} (hs : isP s) : ∃ (w o : List Int), o.length = n ∧ (∀ y, y < n → List.getD o y 0 = ((s.f y : Nat) : Int)) ∧ R zCz [tA8 (sA s), tI (n : Int)] = some [jE ((n : Int), w), tI 0] ∧ R zHs [jE ((n : Int), w)] = some [tLI o, tI 0] := by
 have hs' := hs; obtain ⟨g, hg⟩ := hs; have cw := zK9 n hn g hg.can; rw [← zE6 hg] at cw; obtain ⟨o, o1, o2, o3⟩ := zPi hn s n 0 (List.replicate n 0) (by omega) (by simp)
 refine ⟨wPart n g, o, o1, fun y hy => by rw [o2 y hy, if_pos (Nat.zero_le _)], ?_, ?_⟩
 · apply zJR; simp only [zDI, zDP h1 hn hs', cw, Option.bind_some, getTV_here, Bool.not_true, cond_false]
 · have hL := zJM hn g; have hl := zNV hn g; have hb : R zDt [jE ((n : Int), wPart n g)] = some [tB true] := by
    rw [zPw ((n : Int), wPart n g) (by show (wPart n g).length < _; omega)]; have : isBr ((n : Int), wPart n g) = true := by
     simp only [isBr, Bool.and_eq_true, decide_eq_true_eq, List.all_eq_true, okL]; refine ⟨⟨⟨by omega, by omega⟩, by omega⟩, fun x hx => ?_⟩; have := hL x hx; unfold Lr at this; simp; omega
    rw [this]
   have f := zQo n hn (wPart n g) hL (by omega); rw [zPZ hn hg] at f; have mk : mkOk (n : Int) = true := by
    have h2 : ((n : Int) ≤ (lim : Int)) := by simp only [lim]; omega
    simp [mkOk, h2]
   simp only [Int.natCast_zero] at o3; have E : R zHq [jE ((n : Int), wPart n g)] = some [tLI o] := by
    apply zOc; simp only [zIN, mk, cond_true, f, zEK, Int.toNat_natCast, o3, Option.bind_some, getTV_here, getTV_next]
   apply zOf; simp only [zIQ, hb, E, Option.bind_some, getTV_here, Bool.not_true, cond_false]
end Go.Ev.YtknhngnhjdpedaaGreat
namespace Go.Ev.YtknhngnhjdpedaaGreat
open Go.Ev Go.Gar
theorem zJH (s : Sc) (hs : Src s) : ∃ (a : List Int) (k : Int) (s' : Sc), R zCp [zD s] = some [tA8 a, tI k, zD s'] ∧ Src s' ∧ B8 a := by
 obtain ⟨c, s1, e1, hs1, m1⟩ := zH5 s hs [4, 6, 8] (by simp) (by simp); obtain ⟨r, s2, e2, hs2, r0, r1⟩ := zAu s1 hs1 c; have hc : 4 ≤ c ∧ c ≤ 8 := by simp at m1; omega
 have r1' := r1 (by omega); obtain ⟨n, hn⟩ : ∃ n : Nat, 1 + r = (n : Int) := ⟨(1 + r).toNat, by omega⟩; have w1 : wi64 (1 + r) = (n : Int) := by rw [zB] <;> omega
 obtain ⟨a, s3, e3, hs3, ha⟩ := zLE s2 hs2 n (by omega) (by omega); obtain ⟨d, s4, e4, hs4, d0, d1⟩ := zAu s3 hs3 20
 by_cases h0 : d = 0
 · have p0 : (d == 0) = true := by simp [h0]
   obtain ⟨j, s5, e5, hs5, j0, j1⟩ := zAu s4 hs4 8; have j1' := j1 (by omega); obtain ⟨v, s6, e6, hs6, m6⟩ := zH5 s5 hs5 [0, 1, 2, 8, 255] (by simp) (by simp); have hv : 0 ≤ v ∧ v ≤ 255 := by simp at m6; omega
   have w6 : wu8 v = v := zAz (by omega) (by omega); have q1 : decide (0 ≤ j) = true := decide_eq_true j0; have q2 : decide (j < 8) = true := decide_eq_true (by omega)
   refine ⟨List.set a j.toNat v, n, s6, ?_, hs6, by rw [List.length_set]; exact ha.1, fun y hy => ?_⟩
   · apply zCi; simp only [zAR, e1, e2, e3, e4, e5, e6, w1, w6, p0, q1, q2, Bool.and_self, cond_true, Option.bind_some, getTV_here, getTV_next]
   · rcases List.mem_or_eq_of_mem_set hy with h | h
     · exact ha.2 y h
     · omega
 · have p0 : (d == 0) = false := by simp [h0]
   by_cases h1 : d = 1
   · have p1 : (d == 1) = true := by simp [h1]
     have w2 : wi64 ((n : Int) - 1) = (n : Int) - 1 := by rw [zB] <;> omega
     obtain ⟨v, s6, e6, hs6, m6⟩ := zH5 s4 hs4 [0, 9, (n : Int) - 1, -1] (by simp) (by simp); refine ⟨a, v, s6, ?_, hs6, ha⟩; apply zCi; simp only [zAR, e1, e2, e3, e4, e6, w1, w2, p0, p1, cond_true, cond_false, Option.bind_some, getTV_here, getTV_next]
   · have p1 : (d == 1) = false := by simp [h1]
     by_cases h2 : d = 2
     · have p2 : (d == 2) = true := by simp [h2]
       refine ⟨[2, 3, 0, 1, 0, 0, 0, 0], 4, s4, ?_, hs4, rfl, fun y hy => by simp at hy; omega⟩; apply zCi; simp only [zAR, e1, e2, e3, e4, w1, p0, p1, p2, cond_true, cond_false, Option.bind_some, getTV_here, getTV_next]
     · have p2 : (d == 2) = false := by simp [h2]
       refine ⟨a, n, s4, ?_, hs4, ha⟩; apply zCi; simp only [zAR, e1, e2, e3, e4, w1, p0, p1, p2, cond_true, cond_false, Option.bind_some, getTV_here, getTV_next]
section
variable (code : List Int) (hb : ∀ x ∈ code, 0 ≤ x ∧ x ≤ 255) (hl : code.length ≤ 4096)
include hb hl
theorem zON : ∃ (a b : List Int) (k : Int), R jq [tLU8 code] = some [tA8 a, tA8 b, tI k] ∧ B8 a ∧ B8 b := by
 obtain ⟨s, e, hs⟩ := zDe code hb hl; obtain ⟨a, k, s1, e1, hs1, ha⟩ := zJH s hs; obtain ⟨n, hn, n1, n8⟩ : ∃ n : Nat, mn (mx k 1) 8 = (n : Int) ∧ 1 ≤ n ∧ n ≤ 8 := by
  have h1 : 1 ≤ mn (mx k 1) 8 ∧ mn (mx k 1) 8 ≤ 8 := by
   unfold mn mx
   repeat' split
   all_goals omega
  exact ⟨(mn (mx k 1) 8).toNat, by omega, by omega, by omega⟩
 obtain ⟨b, s2, e2, hs2, hb2⟩ := zLE s1 hs1 n n1 n8; refine ⟨a, b, k, ?_, ha, hb2⟩; have ep : R zF0 [tLU8 code] = some [tA8 a, tA8 b, tI k] := by
  apply zNZ; simp only [zGC, e, e1, hn, e2, Option.bind_some, getTV_here, getTV_next]
 apply zEv; simp only [zAE, ep, Option.bind_some, getTV_here, getTV_next]
theorem zOM : ∃ (a : List Int) (k : Int), R zCr [tLU8 code] = some [tA8 a, tI k] ∧ B8 a := by
 obtain ⟨s, e, hs⟩ := zDe code hb hl; obtain ⟨a, k, s1, e1, hs1, ha⟩ := zJH s hs; refine ⟨a, k, ?_, ha⟩; apply zJN; simp only [zC9, e, e1, Option.bind_some, getTV_here, getTV_next]
omit hb hl in
theorem zRU (s : Sc) (hs : Src s) (m : Int) (h0 : 0 ≤ m) (h1 : m ≤ 1000) : ∃ (r : Int) (s' : Sc), R zDr [zD s, tI m] = some [tI r, zD s'] ∧ Src s' ∧ -4611686018427387904 ≤ r ∧ r ≤ 1099511627776 := by
 have w : wi64 (m + 1) = m + 1 := by rw [zB] <;> omega
 obtain ⟨d, s1, e1, hs1, d0, d1⟩ := zAu s hs 14
 by_cases h : d = 0
 · have p : (d == 0) = true := by simp [h]
   obtain ⟨v, s2, e2, hs2, m2⟩ := zH5 s1 hs1 [-1, m + 1, 1099511627776, -4611686018427387904] (by simp) (by simp)
   refine ⟨v, s2, ?_, hs2, ?_⟩
   · apply zIp; simp only [zDx, e1, w, p, e2, cond_true, Option.bind_some, getTV_here, getTV_next]
   · simp at m2; omega
 · have p : (d == 0) = false := by simp [h]
   obtain ⟨v, s2, e2, hs2, v0, v1⟩ := zAu s1 hs1 (m + 1); have v1' := v1 (by omega); refine ⟨v, s2, ?_, hs2, by omega, by omega⟩; apply zIp; simp only [zDx, e1, w, p, e2, cond_false, Option.bind_some, getTV_here, getTV_next]
theorem zPy : ∃ (k : Int), R zBf [tLU8 code] = some [tI k] := by
 obtain ⟨s, e, hs⟩ := zDe code hb hl; obtain ⟨r, s1, e1, hs1, _⟩ := zRU s hs 6 (by omega) (by omega); refine ⟨wi64 (1 + r), ?_⟩; apply zHI; simp only [zBl, e, e1, Option.bind_some, getTV_here, getTV_next]
theorem zOO : ∃ (n p b : Int), R zCs [tLU8 code] = some [tI n, tI p, tI b] := by
 obtain ⟨s, e, hs⟩ := zDe code hb hl; obtain ⟨r, s1, e1, hs1, _⟩ := zRU s hs 6 (by omega) (by omega); obtain ⟨d, s2, e2, hs2, _⟩ := zAu s1 hs1 20; obtain ⟨f, s3, e3, hs3, _⟩ := zAu s2 hs2 (wi64 ((mn (mx (wi64 (2 + r)) 1) 8) + (wi64 (Int.tdiv d 19)))); obtain ⟨g, s4, e4, hs4, _⟩ := zAu s3 hs3 12; obtain ⟨i, s5, e5, hs5, _⟩ := zAu s4 hs4 (wi64 (f + (wi64 (Int.tdiv g 11)))); obtain ⟨j, s6, e6, hs6, _⟩ := zAu s5 hs5 30; refine ⟨wi64 (2 + r), f, wi64 (i - (wi64 (Int.tdiv j 29))), ?_⟩; apply zJO; simp only [zDA, e, e1, e2, e3, e4, e5, e6, Option.bind_some, getTV_here, getTV_next]
end
def Rw (l : List (List Int)) : Prop := l.length < 1000000000 ∧ ∀ b ∈ l, b.length < 1000000000
theorem Rw.of {l : List (List Int)} (h : ∀ b ∈ l, b.length ≤ 8) (h' : l.length ≤ 100) : Rw l := ⟨by omega, fun b hb => by have := h b hb; omega⟩
def isR (o : List TV) : Prop := ∃ (l : List (List Int)) (m : Int), o = [tLLI l, tI m] ∧ Rw l
theorem zSO (n : Int) (s : Sc) (hs : Src s) : ∀ (out : List (List Int)), (∀ b ∈ out, 1 ≤ b.length ∧ b.length ≤ 8) → out.length ≤ 100 → ∃ o, dpbT R zJ zl n s out = some o ∧ isR o
 | [], _, _ => ⟨_, rfl, [], n, rfl, Rw.of (fun b hb => by simp at hb) (by simp)⟩
 | b :: r, ho, hl => by
  obtain ⟨x, s1, e1, hs1, _⟩ := zAu s hs 14; have hb := ho b List.mem_cons_self; have hr : ∀ c ∈ r, c.length ≤ 8 := fun c hc => (ho c (List.mem_cons_of_mem _ hc)).2; have hall : ∀ c : List Int, c.length ≤ 8 → ∀ d ∈ c :: r, d.length ≤ 8 := fun c hc d hd => by
   rcases List.mem_cons.1 hd with rfl | h
   · exact hc
   · exact hr d h
  unfold dpbT; rw [show R zJ [⟨SrcT, s⟩, ⟨.int .i64, (14 : Int)⟩] = some [tI x, zD s1] from e1]; simp only [Option.bind_some, getTV_here, getTV_next]
  split
  · obtain ⟨v, s2, e2, _, _⟩ := zH5 s1 hs1 [-1, n, 1] (by simp) (by simp); rw [show R zl [⟨SrcT, s1⟩, ⟨.slice (.int .i64), [(-1 : Int), n, (1 : Int)]⟩] = some [tI v, zD s2] from e2]; simp only [Option.bind_some, getTV_here]; rw [if_neg (by omega)]; exact ⟨_, rfl, _, _, rfl, Rw.of (hall _ (by rw [List.length_set]; exact hb.2)) (by simpa using hl)⟩
  · split
    · exact ⟨_, rfl, _, _, rfl, Rw.of (hall _ (by simp)) (by simpa using hl)⟩
    · split
      · obtain ⟨v, s2, e2, _, _⟩ := zH5 s1 hs1 [0, 9, wi64 (n - 1)] (by simp) (by simp); rw [show R zl [⟨SrcT, s1⟩, ⟨.slice (.int .i64), [(0 : Int), (9 : Int), IntKind.wrap .i64 (n - 1)]⟩] = some [tI v, zD s2] from e2]; simp only [Option.bind_some, getTV_here]; exact ⟨_, rfl, _, _, rfl, Rw.of (hall _ hb.2) (by simpa using hl)⟩
      · split
        · obtain ⟨v, s2, e2, _, _⟩ := zH5 s1 hs1 [4, 5, 8] (by simp) (by simp); rw [show R zl [⟨SrcT, s1⟩, ⟨.slice (.int .i64), [(4 : Int), (5 : Int), (8 : Int)]⟩] = some [tI v, zD s2] from e2]; simp only [Option.bind_some, getTV_here]; exact ⟨_, rfl, _, _, rfl, Rw.of (fun c hc => by simp at hc; rcases hc with rfl | rfl <;> simp) (by simp)⟩
        · exact ⟨_, rfl, _, _, rfl, Rw.of (hall _ hb.2) (by simpa using hl)⟩
theorem zPx (code : List Int) (hb : ∀ x ∈ code, 0 ≤ x ∧ x ≤ 255) (hl : code.length ≤ 4096) : ∃ (l : List (List Int)) (m : Int), R jX [tLU8 code] = some [tLLI l, tI m] ∧ Rw l := by
 obtain ⟨s, e, hs⟩ := zDe code hb hl; obtain ⟨r, s1, e1, hs1, r0, r1⟩ := zAu s hs 8; have r1' := r1 (by omega); obtain ⟨n, hn⟩ : ∃ n : Nat, 1 + r = (n : Int) := ⟨(1 + r).toNat, by omega⟩; have w1 : IntKind.wrap .i64 (1 + r) = (n : Int) := by
  show wi64 (1 + r) = _; rw [zB] <;> omega
 obtain ⟨g, s2, e2, hs2, hg⟩ := zJJ s1 hs1 n (by omega) (by omega); have e3 := zIB n (by omega) g hg; have hlen : (bks n g n 0).length ≤ 8 := by have := zIJ n g n 0; omega
 have hbk : ∀ b ∈ bks n g n 0, 1 ≤ b.length ∧ b.length ≤ 8 := fun b hb => by
  have := zGJ (show n ≤ 8 by omega) b hb; have := List.length_pos_iff.2 this.1; exact ⟨this, (zGJ (show n ≤ 8 by omega) b hb).2.1⟩
 have main : ∀ (r : List (List Int)) (s : Sc) (out : List (List Int)), Src s → (∀ b ∈ r, 1 ≤ b.length ∧ b.length ≤ 8) → (∀ b ∈ out, 1 ≤ b.length ∧ b.length ≤ 8) → r.length + out.length ≤ 100 →
   ∃ o, dpbL R zJ (fun s out => dpbT R zJ zl (n : Int) s out) r s out = some o ∧ isR o := by
  intro r
  induction r with
  | nil => intro s out hs _ ho hl; exact zSO n s hs out ho (by simpa using hl)
  | cons b r ih =>
   intro s out hs hr ho hl; have hb := hr b List.mem_cons_self; have hr' : ∀ c ∈ r, 1 ≤ c.length ∧ c.length ≤ 8 := fun c hc => hr c (List.mem_cons_of_mem _ hc); have ho' : ∀ c ∈ out ++ [b], 1 ≤ c.length ∧ c.length ≤ 8 := fun c hc => by
    rcases List.mem_append.1 hc with h | h
    · exact ho c h
    · rw [List.mem_singleton.1 h]; exact hb
   rw [List.length_cons] at hl; unfold dpbL
   cases decide (1 < b.length) with
   | true => exact ih s (out ++ [b]) hs hr' ho' (by rw [List.length_append, List.length_singleton]; omega)
   | false =>
    obtain ⟨x, s1, e1, hs1, _⟩ := zAu s hs 2; rw [show R zJ [⟨SrcT, s⟩, ⟨.int .i64, (2 : Int)⟩] = some [tI x, zD s1] from e1]; simp only [Option.bind_some, getTV_here, getTV_next]
    cases decide (x = (0 : Int)) with
    | true => exact ih s1 (out ++ [b]) hs1 hr' ho' (by rw [List.length_append, List.length_singleton]; omega)
    | false => exact ih s1 out hs1 hr' ho (by omega)
 obtain ⟨o, q1, l, m, rfl, q2⟩ := main (bks n g n 0) s2 [] hs2 hbk (fun b hb => by simp at hb) (by simp; omega); refine ⟨l, m, ?_, q2⟩; apply zEM; show dpbE R jh zJ zAL jf zl code = _; unfold dpbE; rw [show R jh [⟨.slice (.int .u8), code⟩] = some [zD s] from e]; simp only [Option.bind_some, getTV_here, getTV_next]; rw [show R zJ [⟨SrcT, s⟩, ⟨.int .i64, (8 : Int)⟩] = some [tI r, zD s1] from e1]; simp only [Option.bind_some, getTV_here, getTV_next, w1]; rw [show R zAL [⟨SrcT, s1⟩, ⟨.int .i64, (n : Int)⟩] = some [tA8 (A8 n (mdf n g)), zD s2] from e2]; simp only [Option.bind_some, getTV_here, getTV_next]; rw [show R jf [⟨.arr .u8 8, A8 n (mdf n g)⟩, ⟨.int .i64, (n : Int)⟩] = some [tLLI (bks n g n 0)] from e3]; simp only [Option.bind_some, getTV_here]; rw [if_pos (by simp only [lim]; omega)]; exact q1
theorem zIH (a : List Int) (ha : B8 a) (k : Int) : ∃ (r : List Int) (c : Int), R jY [tA8 a, tI k] = some [tA8 r, tI c] ∧ R zk [tA8 a, tI k] = some [tA8 r, tI c] := by
 rcases zFv a k with h1 | ⟨h1, n, s, q1, q2, rfl, hs, rfl⟩
 · refine ⟨List.replicate 8 0, 1, ?_, ?_⟩
   · apply zBW; simp only [kI, zCN a ha, h1, Option.bind_some, getTV_here, Bool.not_false, cond_true]
   · apply zBX; simp only [kK, zAC a ha, h1, Option.bind_some, getTV_here, Bool.not_false, cond_true]
 · refine ⟨sA (s⁻¹ * whP n), 0, ?_, ?_⟩
   · apply zBW; simp only [kI, zCN _ ha, h1, Option.bind_some, getTV_here, Bool.not_true, cond_false, zAB n q2]
   · exact zFP q1 q2 hs
theorem zKX (n : Nat) (q1 : 1 ≤ n) (q2 : n ≤ 8) (g : Nat → Nat) (hg : Can n g) (h1 : isPt (A8 n (mdf n g)) (n : Int) = true) (ha : B8 (A8 n (mdf n g))) :
  R zBC [tA8 (A8 n (mdf n g)), tI (n : Int)] = some [tA8 (A8 n (st n (mdf n g) n)), tI 0] ∧ R kw [tA8 (A8 n (mdf n g)), tI (n : Int)] = some [tA8 (A8 n (st n (mdf n g) n)), tI 0] := by
 have hf : ∀ x, x < n → mdf n g x < n := fun x hx => zIy hg hx; have h3 := zML n q1 q2 (mdf n g) hf (List.replicate 8 0) 0 (Nat.zero_le _); have h4 := zLA n q1 q2 (mdf n g) hf (List.replicate 8 0) 0 (Nat.zero_le _); rw [zRo q1] at h3 h4; simp only [Int.natCast_zero] at h3 h4; have h0 : ¬ (n : Int) = 0 := by omega
 have hmod : Int.tmod (wi64 (Int.tmod 1 (n : Int) + (n : Int))) (n : Int) = ((1 % n : Nat) : Int) := by
  have h1 := Nat.mod_lt 1 (show n > 0 by omega); have e0 : Int.tmod 1 (n : Int) = ((1 % n : Nat) : Int) := tmn 1 n; have e : wi64 (((1 % n : Nat) : Int) + (n : Int)) = ((1 % n + n : Nat) : Int) := by rw [zB] <;> omega
  rw [e0, e, tmn, Nat.add_mod_right, Nat.mod_mod]
 constructor
 · have e1 : R zFz [tA8 (A8 n (mdf n g)), tI (n : Int), tI 1] = some [tA8 (A8 n (st n (mdf n g) n))] := by
    apply zNX; simp only [zGA, h3, Option.bind_some, getTV_here, getTV_next]
   apply zEu; simp only [zBJ, zCN _ ha, h1, Option.bind_some, getTV_here, Bool.not_true, cond_false, e1]
 · have e1 : R zEX [tA8 (A8 n (mdf n g)), tI (n : Int), tI 1] = some [tA8 (A8 n (st n (mdf n g) n))] := by
    apply zLV; simp only [zEj, ja, decide_eq_false h0, Bool.not_false, cond_true, hmod, h4, Option.bind_some, getTV_here, getTV_next]
   apply zE0; simp only [zBO, zAC _ ha, h1, Option.bind_some, getTV_here, Bool.not_true, cond_false, e1]
theorem zP2 (a : List Int) (ha : B8 a) (k : Int) : ∃ (r : List Int) (c : Int), R zBC [tA8 a, tI k] = some [tA8 r, tI c] ∧ R kw [tA8 a, tI k] = some [tA8 r, tI c] := by
 rcases zF2 a k with h1 | ⟨h1, n, g, s, q1, q2, rfl, hg, _, rfl, _⟩
 · refine ⟨List.replicate 8 0, 1, ?_, ?_⟩
   · apply zEu; simp only [zBJ, zCN a ha, h1, Option.bind_some, getTV_here, Bool.not_false, cond_true]
   · apply zE0; simp only [zBO, zAC a ha, h1, Option.bind_some, getTV_here, Bool.not_false, cond_true]
 · exact ⟨_, 0, zKX n q1 q2 g hg h1 ha⟩
theorem zSF {n : Nat} (h1 : 1 ≤ n) (hn : n ≤ 8) {s : Pm n} (hs : isP s) : R kw [tA8 (sA s), tI (n : Int)] = some [tA8 (sA ((whP n)⁻¹ * (s * whP n))), tI 0] := by
 have hp := zLw h1 hs hn; have hb := zOs hn s; obtain ⟨g, hg⟩ := hs; rw [zE6 hg] at hp hb ⊢; rw [(zKX n h1 hn g hg.can hp hb).2]; have : A8 n (st n (mdf n g) n) = sA ((whP n)⁻¹ * (s * whP n)) := by
  apply zF; intro y hy; show st n (mdf n g) n y = (whP n).f (s.f ((whP n).g y)); have hfm : ∀ x, x < n → s.f x < n := fun x hx => (zO1 s).2 hx
  by_cases e : y = 0
  · subst e; have hw : (whP n).g 0 = n - 1 := by
     have : (whP n).f (n - 1) = 0 := by rw [zIZ (by omega)]; unfold sc; rw [if_pos (by omega)]
     rw [← this, (whP n).gf]
    unfold st; rw [if_pos rfl, if_pos rfl, hw, zIZ (hfm _ (by omega)), hg.f _ (by omega)]
  · have hw : (whP n).g y = y - 1 := by
     have : (whP n).f (y - 1) = y := by rw [zIZ (by omega)]; unfold sc; rw [if_neg (by omega)]; omega
     rw [← this, (whP n).gf]; omega
    unfold st; rw [if_neg e, if_pos (by omega), hw, zIZ (hfm _ (by omega)), hg.f _ (by omega)]
 rw [this]
theorem zQz (k : Int) : ∃ (l : List (List Int)) (c : Int), l.length < 10000000 ∧ R zCt [tI k] = some [tLA8 l, tI c] ∧ R zC2 [tI k] = some [tLA8 l, tI c] := by
 by_cases hk : 1 ≤ k ∧ k ≤ 7
 · obtain ⟨n, rfl⟩ : ∃ n : Nat, k = (n : Int) := ⟨k.toNat, by omega⟩; have hn : n ≤ 7 := by omega
   have ll := zQ5 hn; exact ⟨allP n, 0, by omega, zMJ n (by omega) hn, zOR n (by omega) hn⟩
 · have e1 : (decide ((1 : Int) ≤ k) && decide (k ≤ 7)) = false := by
    rw [Bool.and_eq_false_iff]
    by_cases h1 : (1 : Int) ≤ k
    · right; exact decide_eq_false (by omega)
    · left; exact decide_eq_false h1
   refine ⟨[], 2, by simp, ?_, ?_⟩
   · apply zHJ; simp only [zDB, zEg, e1, Option.bind_some, getTV_here, Bool.not_false, cond_true]
   · apply zHQ; simp only [zDL, zC6, e1, Option.bind_some, getTV_here, Bool.not_false, cond_true]
end Go.Ev.YtknhngnhjdpedaaGreat
