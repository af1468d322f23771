/- Conjugate braids have the same summit lengths and the same super and ultra summit sets, which have the summit: the law. -/
import Derived.Test.YtfkpbhbghbhmgaaGreatWg
import Derived.Test.YtfkpbhbghbhmgaaGreatWf
import Derived.Test.YtfkpbhbghbhmgaaGreatWd
set_option linter.unusedVariables false
set_option linter.unusedSimpArgs false
namespace Go.Ev.YtfkpbhbghbhmgaaGreat
open Go.Ev Go.Gar
open Classical in
theorem bkB_t {n : Nat} (hn : n ≤ 8) {y : Nm n} (h : Bk y) : bkB n (enc y) = true := by
 rw [bkB_enc hn]; exact decide_eq_true h
open Classical in
theorem bkB_f {n : Nat} (hn : n ≤ 8) {y : Nm n} (h : ¬ Bk y) : bkB n (enc y) = false := by
 rw [bkB_enc hn]; exact decide_eq_false h
theorem c_US_10 {n : Nat} (h1 : 1 ≤ n) (hn : n ≤ 8) {ys : List VN} (hO : Orbs (n := n) ys) {v : Nm n} {i : Nat} (hi : i < ys.length) (hv : ys[i] = enc v) (out : List VN) : ∀ (d k : Nat), k + d = ys.length →
  ∃ u : Nm n, R is_UltraSummit_10 [tLPIPILA8 ys, tLPIPILA8 out, tI (enc (orb v (k + 1))).1, tI (enc (orb v (k + 1))).2.1, tLA8 (enc (orb v (k + 1))).2.2, tI (i : Int), tI (k : Int)] =
   some [tI 0, tLPIPILA8 ys, tLPIPILA8 out, tI (enc u).1, tI (enc u).2.1, tLA8 (enc u).2.2, tI (i : Int)] ∧ OkN u 1000 ∧ (u = v ↔ ∃ j, k ≤ j ∧ j ≤ ys.length ∧ orb v (j + 1) = v) := by
 have eV : ∀ x : VN, (x.1, x.2.1, x.2.2) = x := fun x => rfl; have hmem : enc v ∈ ys := by rw [← hv]; exact List.getElem_mem hi
 have hm := hO.mem hn hmem; have hlen := hO.len; intro d
 induction d with
 | zero =>
  intro k hk
  refine ⟨orb v (k + 1), ?_, hO.ok hn (hm _), ?_⟩
  · apply vs_UltraSummit_10; have : ¬ ((k : Int) < (ys.length : Int)) := by omega
    simp only [bs_UltraSummit_10, decide_eq_false this, cond_false]
  · constructor
    · exact fun h => ⟨k, Nat.le_refl _, by omega, h⟩
    · rintro ⟨j, h3, h4, h5⟩; have : j = k := by omega
      subst this; exact h5
 | succ d ih =>
  intro k hk; have hok := hO.ok hn (hm (k + 1)); have hl1 := hok.len; have hlt : ((k : Int) < (ys.length : Int)) := by omega
  have hi' : ((i : Int) < (ys.length : Int)) := by omega
  have hs := c_l03Like (enc (orb v (k + 1))) (enc v) (by rw [(enc_2 _).2]; omega); have w : wi64 ((k : Int) + 1) = ((k + 1 : Nat) : Int) := by rw [wrap_i64] <;> omega
  by_cases e1 : orb v (k + 1) = v
  · have e1' : enc (orb v (k + 1)) = enc v := by rw [e1]
    refine ⟨orb v (k + 1), ?_, hok, fun _ => ⟨k, Nat.le_refl _, by omega, e1⟩, fun _ => e1⟩; apply vs_UltraSummit_10; simp (disch := omega) only [bs_UltraSummit_10, decide_eq_true hlt, decide_eq_true hi', decide_eq_true, cond_true, Bool.and_true, Int.toNat_natCast, getDV hi, hv, eV, hs, decide_eq_true e1', Option.bind_some, getTV_here, Bool.not_true, cond_false]
  · have e1' : ¬ enc (orb v (k + 1)) = enc v := fun h => e1 (enc_inj hn h); have hcy : R is_l04Cycle [tPIPILA8 (enc (orb v (k + 1)))] = some [tPIPILA8 (enc (orb v (k + 1 + 1)))] := c_l04Cycle n h1 hn (orb v (k + 1)) (hok.mono (by omega)); obtain ⟨u, g1, g2, g3⟩ := ih (k + 1) (by omega)
    refine ⟨u, ?_, g2, ?_⟩
    · apply vs_UltraSummit_10; simp (disch := omega) only [bs_UltraSummit_10, decide_eq_true hlt, decide_eq_true hi', decide_eq_true, cond_true, Bool.and_true, Int.toNat_natCast, getDV hi, hv, eV, hs, decide_eq_false e1', Option.bind_some, getTV_here, Bool.not_false, hcy, w, g1]
    · rw [g3]
      constructor
      · rintro ⟨j, h3, h4, h5⟩; exact ⟨j, by omega, h4, h5⟩
      · rintro ⟨j, h3, h4, h5⟩
        by_cases hj : j = k
        · subst hj; exact absurd h5 e1
        · exact ⟨j, by omega, h4, h5⟩
theorem c_US_6 {n : Nat} (h1 : 1 ≤ n) (hn : n ≤ 8) {ys : List VN} (hO : Orbs (n := n) ys) : ∀ (d j : Nat) (out : List VN), j + d = ys.length → out.length ≤ j →
  R is_UltraSummit_6 [tLPIPILA8 ys, tLPIPILA8 out, tI (j : Int)] = some [tI 0, tLPIPILA8 (out ++ (ys.drop j).filter (bkB n))] := by
 have eV : ∀ x : VN, (x.1, x.2.1, x.2.2) = x := fun x => rfl; have hlen := hO.len; intro d
 induction d with
 | zero =>
  intro j out hj _; apply vs_UltraSummit_6; have : ¬ ((j : Int) < (ys.length : Int)) := by omega
  rw [List.drop_of_length_le (by omega), List.filter_nil, List.append_nil]; simp only [bs_UltraSummit_6, decide_eq_false this, cond_false]
 | succ d ih =>
  intro j out hj ho; have hjy : j < ys.length := by omega
  have hlt : ((j : Int) < (ys.length : Int)) := by omega
  obtain ⟨v, hv, hok, _⟩ := hO.cyc _ (List.getElem_mem hjy); have hcy : R is_l04Cycle [tPIPILA8 (enc v)] = some [tPIPILA8 (enc (orb v (0 + 1)))] := c_l04Cycle n h1 hn v (hok.mono (by omega)); obtain ⟨u, g1, g2, g3⟩ := c_US_10 h1 hn hO hjy hv out ys.length 0 (by omega); simp only [Int.natCast_zero] at g1; have hul := g2.len; have hs := c_l03Like (enc u) (enc v) (by rw [(enc_2 _).2]; omega); have hmem : enc v ∈ ys := by rw [← hv]; exact List.getElem_mem hjy
  have hb : u = v ↔ Bk v := by
   rw [g3]
   constructor
   · rintro ⟨j, _, _, h⟩; exact ⟨j, h⟩
   · intro h; obtain ⟨k, h3, h4⟩ := bk_short hn (hO.mem hn hmem) h; exact ⟨k, by omega, by omega, h4⟩
  have w : wi64 ((j : Int) + 1) = ((j + 1 : Nat) : Int) := by rw [wrap_i64] <;> omega
  have ap : apOk out [enc v] = true := apOk1 (by omega); rw [List.drop_eq_getElem_cons hjy, hv]; apply vs_UltraSummit_6
  by_cases e : u = v
  · have e' : enc u = enc v := by rw [e]
    have hbk : bkB n (enc v) = true := bkB_t hn (hb.1 e); have := ih (j + 1) (out ++ [enc v]) (by omega) (by simp; omega); rw [List.filter_cons_of_pos (by rw [hbk]), List.append_cons]; simp (disch := omega) only [bs_UltraSummit_6, decide_eq_true hlt, decide_eq_true, cond_true, Bool.and_true, Int.toNat_natCast, getDV hjy, hv, eV, hcy, g1, Option.bind_some, getTV_here, getTV_next, hs, decide_eq_true e', ap, w, this]
  · have e' : ¬ enc u = enc v := fun h => e (enc_inj hn h); have hbk : bkB n (enc v) = false := bkB_f hn (fun h => e (hb.2 h)); have := ih (j + 1) out (by omega) (by omega); rw [List.filter_cons_of_neg (by rw [hbk]; simp)]; simp (disch := omega) only [bs_UltraSummit_6, decide_eq_true hlt, decide_eq_true, cond_true, cond_false, Bool.and_true, Int.toNat_natCast, getDV hjy, hv, eV, hcy, g1, Option.bind_some, getTV_here, getTV_next, hs, decide_eq_false e', w, this]
theorem bk_ex {n : Nat} (hn : n ≤ 8) {ys : List VN} (hO : Orbs (n := n) ys) {v : Nm n} (hv : enc v ∈ ys) : ∃ y : Nm n, enc y ∈ ys ∧ Bk y := by
 apply Classical.byContradiction; intro hno; have hm := hO.mem hn hv; have hnd := range_nodup (fun i => enc (orb v i)) (ys.length + 1) (fun a b hab hb e => hno ⟨orb v a, hm a, b - a - 1, by
  have e' : orb v a = orb v b := enc_inj hn e; rw [← orb_add, show a + (b - a - 1 + 1) = b by omega, ← e']⟩)
 have := hnd.length_le_of_subset (l₂ := ys) (fun z hz => by
  obtain ⟨i, _, rfl⟩ := List.mem_map.1 hz; exact hm i)
 rw [List.length_map, List.length_range] at this; omega
theorem us_all (a : VN) (ha : Rows8 a.2.2) : ∃ (l u : List VN) (c : Int), R is_SuperSummit [tPIPILA8 a] = some [tLPIPILA8 l, tI c] ∧ R ii_SuperSummit [tPIPILA8 a] = some [tLPIPILA8 l, tI c] ∧
  R is_UltraSummit [tPIPILA8 a] = some [tLPIPILA8 u, tI c] ∧ R ii_UltraSummit [tPIPILA8 a] = some [tLPIPILA8 u, tI c] ∧ l.length ≤ 120 ∧ u.length ≤ 120 ∧ (∀ z ∈ l, z.2.2.length < 1000000) ∧ (∀ z ∈ u, z.2.2.length < 1000000) ∧
  ((c ≠ 0 ∧ l = []) ∨ (c = 0 ∧ u ≠ [] ∧ ∃ (n : Nat) (v : Nm n), 1 ≤ n ∧ n ≤ 4 ∧ OkN v 200 ∧ a = enc v ∧ SetsX v l ∧ (limV (enc (sumN v))).2 = 0)) := by
 have eV : ∀ x : VN, (x.1, x.2.1, x.2.2) = x := fun x => rfl; obtain ⟨l, c, h1, h2, h3⟩ := ss_all a ha
 rcases h3 with ⟨hc, rfl⟩ | ⟨rfl, n, v, q1, q4, q3, rfl, g, hlim⟩
 · have hb : (c != 0) = true := by simp [hc]
   refine ⟨[], [], c, h1, h2, vs_UltraSummit _ ?_, vi_UltraSummit _ ?_, by simp, by simp, fun z hz => by simp at hz, fun z hz => by simp at hz, .inl ⟨hc, rfl⟩⟩
   · simp only [bs_UltraSummit, eV, h1, Option.bind_some, getTV_here, getTV_next, hb, cond_true]
   · simp only [bi_UltraSummit, eV, h2, Option.bind_some, getTV_here, getTV_next, hb, cond_true]
 · have hn : n ≤ 8 := by omega
   have g0 := g.sets0 q3; have hO : Orbs (n := n) l := ⟨g.orb hn q3, g0.len⟩; have hll := g0.len; have hle : ∀ z ∈ l, z.2.2.length < 1000000 := fun z hz => by
    obtain ⟨y, rfl, ho, _⟩ := hO.cyc z hz; have := ho.len; rw [(enc_2 _).2]; omega
   have e0 : ((0 : Int) != 0) = false := rfl; have h6 := c_US_6 q1 hn hO l.length 0 [] (by omega) (by simp); simp only [List.nil_append, List.drop_zero, Int.natCast_zero] at h6; have hd := c_DeleteFunc (bkB n) l (by omega) (c_UK1 q1 hn hO)
   refine ⟨l, l.filter (bkB n), 0, h1, h2, vs_UltraSummit _ ?_, vi_UltraSummit _ ?_, hll, Nat.le_trans (List.length_filter_le _ _) hll, hle, fun z hz => hle z (List.mem_filter.1 hz).1, .inr ⟨rfl, ?_, n, v, q1, q4, q3, rfl, g, hlim⟩⟩
   · simp only [bs_UltraSummit, eV, h1, Option.bind_some, getTV_here, getTV_next, e0, cond_false, h6]
   · simp only [bi_UltraSummit, eV, h2, Option.bind_some, getTV_here, getTV_next, e0, cond_false, hd]
   · obtain ⟨y, y1, y2⟩ := bk_ex hn hO (g.here q3); intro e; have : enc y ∈ l.filter (bkB n) := List.mem_filter.2 ⟨y1, bkB_t hn y2⟩; rw [e] at this; simp at this
theorem c_normals9_4 (a : List VN) (hl : a.length < 1000000) (h : ∀ z ∈ a, z.2.2.length < 1000000) : ∀ i, i ≤ a.length → R iw_normals9_4 [tLPIPILA8 a, tLPIPILA8 a, tI (i : Int)] = some [tI 0] := by
 have eV : ∀ x : VN, (x.1, x.2.1, x.2.2) = x := fun x => rfl
 refine up_loop _ ?_ (fun i hi ih => ?_)
 · apply vw_normals9_4; simp [bw_normals9_4]
 · apply vw_normals9_4; have hz := h a[i] (List.getElem_mem hi); have hn := c_normal9 a[i] a[i] (by omega); rw [decide_eq_true rfl] at hn; have w : wi64 ((i : Int) + 1) = ((i + 1 : Nat) : Int) := by rw [wrap_i64] <;> omega
   simp (disch := omega) only [bw_normals9_4, decide_eq_true, cond_true, cond_false, Bool.and_true, Int.toNat_natCast, getDV hi, eV, hn, Option.bind_some, getTV_here, Bool.not_true, w, ih]
theorem c_normals9 (a : List VN) (hl : a.length < 1000000) (h : ∀ z ∈ a, z.2.2.length < 1000000) : R iw_normals9 [tLPIPILA8 a, tLPIPILA8 a] = some [tB true] := by
 have := c_normals9_4 a hl h 0 (Nat.zero_le _); simp only [Int.natCast_zero] at this; apply vw_normals9; simp only [bw_normals9, bne_self_eq_false, cond_false, this, Option.bind_some, getTV_here, beq_self_eq_true, cond_true]
theorem c_FnSummits_41 (s : VN) (l u r : List VN) (e : Int) (hl : l.length < 1000000) (h : ∀ z ∈ l, z.2.2.length < 1000000) : ∀ (d i : Nat) (b : Bool), i + d = l.length →
  R iw_FnSummits_41 [tI s.1, tI s.2.1, tLA8 s.2.2, tLPIPILA8 l, tLPIPILA8 u, tLPIPILA8 r, tI e, tB b, tI (i : Int)] = some [tI 0, tLPIPILA8 l, tLPIPILA8 u, tLPIPILA8 r, tI e, tB (b || decide (s ∈ l.drop i))] := by
 have eV : ∀ x : VN, (x.1, x.2.1, x.2.2) = x := fun x => rfl; intro d
 induction d with
 | zero =>
  intro i b hi; apply vw_FnSummits_41; have : ¬ ((i : Int) < (l.length : Int)) := by omega
  rw [List.drop_of_length_le (by omega)]; simp only [bw_FnSummits_41, decide_eq_false this, cond_false, List.not_mem_nil, decide_false, Bool.or_false]
 | succ d ih =>
  intro i b hi; have hil : i < l.length := by omega
  have hlt : ((i : Int) < (l.length : Int)) := by omega
  have w : wi64 ((i : Int) + 1) = ((i + 1 : Nat) : Int) := by rw [wrap_i64] <;> omega
  have hz := h l[i] (List.getElem_mem hil); have hn := c_normal9 l[i] s (by omega); rw [List.drop_eq_getElem_cons hil]; apply vw_FnSummits_41
  cases b with
  | true =>
   have := ih (i + 1) true (by omega); simp only [Bool.true_or] at this ⊢; simp (disch := omega) only [bw_FnSummits_41, decide_eq_true hlt, cond_true, w, this]
  | false =>
   have := ih (i + 1) (decide (l[i] = s)) (by omega); have e : (decide (l[i] = s) || decide (s ∈ l.drop (i + 1))) = decide (s ∈ l[i] :: l.drop (i + 1)) := by
    rw [Bool.eq_iff_iff]; simp only [Bool.or_eq_true, decide_eq_true_eq, List.mem_cons]; exact ⟨fun h => h.elim (fun g => .inl g.symm) .inr, fun h => h.elim (fun g => .inl g.symm) .inr⟩
   rw [e] at this; simp (disch := omega) only [bw_FnSummits_41, decide_eq_true hlt, decide_eq_true, cond_true, cond_false, Bool.and_true, Int.toNat_natCast, getDV hil, eV, hn, Option.bind_some, getTV_here, w, this, Bool.false_or]
theorem sum_all (a : VN) (ha : Rows8 a.2.2) : ∃ (r : VN) (e : Int), R is_SummitOf [tPIPILA8 a] = some [tPIPILA8 r, tI e] ∧ R ii_SummitOf [tPIPILA8 a] = some [tPIPILA8 r, tI e] ∧ r.2.2.length ≤ 200 ∧
  ((e = 1 ∧ isNm a = false) ∨ e = 3 ∨ (e = 0 ∧ ∃ (n : Nat) (v : Nm n), 1 ≤ n ∧ n ≤ 8 ∧ OkN v 200 ∧ OkN (sumN v) 200 ∧ a = enc v ∧ r = enc (sumN v))) := by
 rcases nm_cases a with h1 | ⟨_, n, v, q1, q2, q3, rfl⟩
 · have := c_SummitOf_bad ha h1; exact ⟨_, _, this.1, this.2, by simp, .inl ⟨rfl, h1⟩⟩
 · have h := c_SummitOf_ok q1 q2 q3; have ho := sumN_ok q1 q3
   rcases lim_enc (sumN v) ho.P ho.one with ⟨e, k⟩ | e
   · rw [e] at h; exact ⟨_, _, h.1, h.2, by simp only [enc, sL_len]; exact k.len, .inr (.inr ⟨rfl, n, v, q1, q2, q3, k, rfl, rfl⟩)⟩
   · rw [e] at h; exact ⟨_, _, h.1, h.2, by simp, .inr (.inl rfl)⟩
theorem slen_all (a : VN) (ha : Rows8 a.2.2) : ∃ (l : List Int) (e : Int), R is_SummitLengths [tPIPILA8 a] = some [tLI l, tI e] ∧ R ii_SummitLengths [tPIPILA8 a] = some [tLI l, tI e] ∧ l.length ≤ 2 ∧
  (isNm a = false → l = []) ∧ ∀ (n : Nat) (v : Nm n), 1 ≤ n → n ≤ 8 → OkN v 200 → a = enc v → l = [(enc (sumN v)).2.1, ((enc (sumN v)).2.2.length : Int)] := by
 rcases nm_cases a with h1 | ⟨h1, n, v, q1, q2, q3, rfl⟩
 · have := c_SummitLengths_bad ha h1; refine ⟨_, _, this.1, this.2, by simp, fun _ => rfl, fun n v h2 h3 h4 h5 => ?_⟩; rw [h5, isNm_enc h2 h3 h4] at h1; simp at h1
 · have h := c_SummitLengths_ok q1 q2 q3; refine ⟨_, _, h.1, h.2, by simp, fun h2 => by rw [h1] at h2; simp at h2, fun n' v' h2 h3 h4 h5 => ?_⟩; have en : n = n' := by
    have := congrArg Prod.fst h5; simp only [enc] at this; omega
   subst en; rw [enc_inj q2 h5]
theorem ac_all (a b : VN) (ha : Rows8 a.2.2) (hb : Rows8 b.2.2) : ∃ (r : Bool) (c : Int), R is_AreConjugate [tPIPILA8 a, tPIPILA8 b] = some [tB r, tI c] ∧ R ii_AreConjugate [tPIPILA8 a, tPIPILA8 b] = some [tB r, tI c] := by
 rcases both_cases a b with h1 | ⟨h1, n, v, w, q1, q2, q3, q4, rfl, rfl⟩
 · have := c_AreConjugate_bad ha hb h1; exact ⟨_, _, this.1, this.2⟩
 · exact c_AreConjugate_ok q1 q2 q3 q4 h1
theorem conjI {n : Nat} (hn1 : 1 ≤ n) (hn : n ≤ 8) {v w : Nm n} (hv : OkN v 200) (hw : OkN w 200) :
  (OkN (prod (prod (invN w) v) w) 200 ∧ R ii_ConjugateBy [tPIPILA8 (enc v), tPIPILA8 (enc w)] = some [tPIPILA8 (enc (prod (prod (invN w) v) w)), tI 0]) ∨ R ii_ConjugateBy [tPIPILA8 (enc v), tPIPILA8 (enc w)] = some [tPIPILA8 NoV, tI 3] := by
 have h := both_enc hn1 hn hv hw; have hr : Rows8 (enc v).2.2 := sL_rows hn v.2; have hr' : Rows8 (enc w).2.2 := sL_rows hn w.2; have hi := invN_ok hn1 hw; have hp := prod_ok hn1 hi hv; have hq := prod_ok hn1 hp hw; have e2 := c_product n hn1 hn (invN w) v (hi.mono (by omega)) (hv.mono (by omega)); have e4 := c_product n hn1 hn (prod (invN w) v) w (hp.mono (by omega)) (hw.mono (by omega))
 rcases lim_enc (prod (invN w) v) hp.P hp.one with ⟨hl, _⟩ | hl
 · rcases lim_enc (prod (prod (invN w) v) w) hq.P hq.one with ⟨hl2, hk⟩ | hl2
   · refine .inl ⟨hk, ?_⟩; apply vi_ConjugateBy; simp [bi_ConjugateBy, c_areSameCount _ _ hr hr', h, c_inverse n hn1 hn w hw, e2, c_limited, hl, e4, hl2]
   · right; apply vi_ConjugateBy; simp [bi_ConjugateBy, c_areSameCount _ _ hr hr', h, c_inverse n hn1 hn w hw, e2, c_limited, hl, e4, hl2]
 · right; apply vi_ConjugateBy; simp [bi_ConjugateBy, c_areSameCount _ _ hr hr', h, c_inverse n hn1 hn w hw, e2, c_limited, hl]
theorem conj_CJ {n : Nat} (h1 : 1 ≤ n) {v w : Nm n} (hw : OkN w 200) : CJ v (prod (prod (invN w) v) w) := by
 by_cases h2 : 2 ≤ n
 · exact .inr ⟨w, hw.P, prod_assoc h2 _ _ _⟩
 · exact .inl (by omega)
theorem c_DrawSummitOf (a : List Int) (h : Bytes a) : ∃ b, R is_DrawSummitOf [tLU8 a] = some [tPIPILA8 b] ∧ Ne b := by
 obtain ⟨s, e, hs⟩ := c_l01From a h.1 h.2; obtain ⟨b, s', e', _, hb⟩ := c_l04Draw s hs; refine ⟨b, ?_, hb⟩; apply vs_DrawSummitOf; simp only [bs_DrawSummitOf, e, e', Option.bind_some, getTV_here, getTV_next]
theorem c_DrawAreConjugate (a : List Int) (h : Bytes a) : ∃ b c, R is_DrawAreConjugate [tLU8 a] = some [tPIPILA8 b, tPIPILA8 c] ∧ Ne b ∧ Ne c := by
 obtain ⟨b, c, e, hb, hc⟩ := c_l04Pair a h; refine ⟨b, c, ?_, hb, hc⟩; apply vs_DrawAreConjugate; simp only [bs_DrawAreConjugate, e, Option.bind_some, getTV_here, getTV_next]
theorem law_FnSummits (a : List Int) (h : Fit (.slice (.int .u8)) a) : R iw_FnSummits [tLU8 a] = some [tB true] := by
 obtain ⟨hl, hb⟩ := fit_bytes h; apply vw_FnSummits
 by_cases hB : 4096 < ((a.length : Nat) : Int)
 · simp [bw_FnSummits, c_big, hB]
 · have hy : Bytes a := ⟨hb, by omega⟩; have eV : ∀ x : VN, (x.1, x.2.1, x.2.2) = x := fun x => rfl; obtain ⟨x, d1, hx⟩ := c_DrawSummitOf a hy; obtain ⟨p, q, d2, hp, hq⟩ := c_DrawAreConjugate a hy; obtain ⟨s, e1, m1, m2, ml, hm⟩ := sum_all x hx.rows; obtain ⟨ln, e2, n1, n2, nl, hn1, hn2⟩ := slen_all x hx.rows; obtain ⟨l, u, c, k1, k2, k3, k4, ll, lu, zl, zu, hk⟩ := us_all x hx.rows; obtain ⟨r, e3, c1, c2⟩ := ac_all p q hp.rows hq.rows; have t1 := c_normal9 s s (by omega); have t2 := c_likeInts ln ln (by omega); have t3 := c_normals9 l (by omega) zl; have t4 := c_normals9 u (by omega) zu; rw [decide_eq_true rfl] at t1 t2
   have st : ∀ o, (bif (e1 != 0) then (bif (e1 == 3) then some [tB true] else some [tB (((List.length ln : Nat) : Int) == 0)]) else
     ((R iw_roll [tLU8 a, tU64 9905]).bind fun o18 =>
     (R iw_letters9 [tPLU8PIU64 (gPLU8PIU64 o18 0), tI x.1, tI 3]).bind fun o19 =>
     (R ii_NormalOf [tPILI (x.1, gLI o19 0)]).bind fun o20 =>
     (R ii_ConjugateBy [tPIPILA8 x, tPIPILA8 (gPIPILA8 o20 0)]).bind fun o21 =>
     bif ((gI o20 1) != 0) then some [tB false] else
     bif ((gI o21 1) != 0) then some [tB true] else
     (R ii_SummitLengths [tPIPILA8 (gPIPILA8 o21 0)]).bind fun o22 =>
     bif ((gI o22 1) != 0) then some [tB false] else
     (R iw_likeInts [tLI (gLI o22 0), tLI ln]).bind fun o23 =>
     bif (!(gB o23 0)) then some [tB false] else
     bif decide (0 < ((List.length ln : Nat) : Int)) then
      bif (s.2.1 != (List.getD ln 0 0)) then some [tB false] else
      bif decide (1 < ((List.length ln : Nat) : Int)) then
       bif (((List.length s.2.2 : Nat) : Int) != (List.getD ln 1 0)) then some [tB false] else
       bif (c != 0) then some [tB true] else
       (R ii_SuperSummit [tPIPILA8 (gPIPILA8 o21 0)]).bind fun o24 =>
       (R iw_FnSummits_41 [tI s.1, tI s.2.1, tLA8 s.2.2, tLPIPILA8 l, tLPIPILA8 u, tLPIPILA8 (gLPIPILA8 o24 0), tI (gI o24 1), tB false, tI 0]).bind fun o27 =>
       bif ((gI o27 4) == 0) then
        (R iw_normals9 [tLPIPILA8 (gLPIPILA8 o27 3), tLPIPILA8 (gLPIPILA8 o27 1)]).bind fun o28 =>
        bif (gB o28 0) then
         bif (gB o27 5) then some [tB (decide (0 < ((List.length (gLPIPILA8 o27 2) : Nat) : Int)))] else some [tB false]
        else some [tB false]
       else some [tB false]
      else none
     else none)) = some o → bw_FnSummits R a = some o := by
    intro o ho; simp only [bw_FnSummits, eV, c_big, decide_eq_false hB, cond_false, d1, d2, m1, m2, n1, n2, k1, k2, k3, k4, c1, c2, t1, t2, t3, t4, Option.bind_some, getTV_here, getTV_next, bne_self_eq_false, Bool.not_true]; exact ho
   apply st
   rcases hm with ⟨rfl, hnm⟩ | rfl | ⟨rfl, n, v, q1, q8, hv, hsv, rfl, rfl⟩
   · rw [hn1 hnm]
     rfl
   · rfl
   · have hln := hn2 n v q1 q8 hv rfl; obtain ⟨sc, r1, hs⟩ := c_roll a hy.1 hy.2 9905; obtain ⟨w, sc', r2, _, hL, hll⟩ := c_letters9 sc hs n (by omega) 3 (by omega); have eN : (enc v).1 = (n : Int) := rfl; have r2' : R iw_letters9 [tPLU8PIU64 sc, tI (enc v).1, tI 3] = some [tLI w, tPLU8PIU64 sc'] := r2; have r3 : R ii_NormalOf [tPILI ((enc v).1, w)] = some [tPIPILA8 (enc (nOf n w)), tI 0] := normalOf_ok q1 q8 hL (by omega); have hg := nOf_okN q1 hL (by omega); have z0 : ((0 : Int) != 0) = false := rfl; have z3 : ((3 : Int) != 0) = true := rfl
     rcases conjI q1 q8 hv hg with ⟨hw, r4⟩ | r4
     · have hcj : CJ v (prod (prod (invN (nOf n w)) v) (nOf n w)) := conj_CJ q1 hg; obtain ⟨s1, s2, _⟩ := hcj.sum q1 q8 hv hw; generalize prod (prod (invN (nOf n w)) v) (nOf n w) = b at hw r4 hcj s1 s2; have r5 := (c_SummitLengths_ok q1 q8 hw).2; have eln : [(enc (sumN b)).2.1, ((enc (sumN b)).2.2.length : Int)] = ln := by
        rw [hln, (enc_2 _).1, (enc_2 _).2, (enc_2 _).1, (enc_2 _).2, s1, s2]
       rw [eln] at r5; have hlen : decide (0 < ((List.length ln : Nat) : Int)) = true := by rw [hln]; rfl
       have hlen1 : decide (1 < ((List.length ln : Nat) : Int)) = true := by rw [hln]; rfl
       have hg0 : ((enc (sumN v)).2.1 != (List.getD ln 0 0)) = false := by
        rw [hln]; exact bne_self_eq_false _
       have hg1 : (((List.length (enc (sumN v)).2.2 : Nat) : Int) != (List.getD ln 1 0)) = false := by
        rw [hln]; exact bne_self_eq_false _
       by_cases hc : c = 0
       · subst hc
         rcases hk with ⟨hk, _⟩ | ⟨_, hu, n', v', p1, p4, hv', ev, g, hlim⟩
         · exact absurd rfl hk
         · have en : n = n' := by
            have := congrArg Prod.fst ev; simp only [enc] at this; omega
           subst en; obtain rfl := enc_inj q8 ev; have gb := g.conj p4 hv hw hcj; have hlb : (limV (enc (sumN b))).2 = 0 := by
            rw [← hlim]; exact limV_same (by rw [(enc_2 _).1, (enc_2 _).1, s1]) (by rw [(enc_2 _).2, (enc_2 _).2, s2])
           rcases ss_go p1 p4 hw (gb.sets0 hw) (gb.here hw) with ⟨_, _, r6⟩ | ⟨w1, _, _⟩
           · have r7 := c_FnSummits_41 (enc (sumN v)) l u l 0 (by omega) zl l.length 0 false (by omega); rw [List.drop_zero, decide_eq_true (g.here hv)] at r7; simp only [Int.natCast_zero, Bool.false_or] at r7; have hul : decide (0 < ((List.length u : Nat) : Int)) = true := by
              have : u.length ≠ 0 := fun h => hu (List.length_eq_zero_iff.1 h); exact decide_eq_true (by omega)
             simp only [z0, cond_false, r1, r2', r3, r4, r5, t2, hlen, hlen1, hg0, hg1, r6, r7, t3, Option.bind_some, getTV_here, getTV_next, Bool.not_true, cond_true, beq_self_eq_true, hul]
           · exact absurd hlb w1
       · have hcb : (c != 0) = true := by simp [hc]
         simp only [z0, cond_false, r1, r2', r3, r4, r5, t2, hlen, hlen1, hg0, hg1, hcb, Option.bind_some, getTV_here, getTV_next, Bool.not_true, cond_true]
     · simp only [z0, z3, cond_false, cond_true, r1, r2', r3, r4, Option.bind_some, getTV_here, getTV_next]
end Go.Ev.YtfkpbhbghbhmgaaGreat
