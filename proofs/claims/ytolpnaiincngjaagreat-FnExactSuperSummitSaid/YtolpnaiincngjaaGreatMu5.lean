/- Super summit sets: the reference's search; both lists. -/
import Derived.Test.YtolpnaiincngjaaGreatMu4
set_option linter.unusedVariables false
set_option linter.unusedSimpArgs false
namespace Go.Ev.YtolpnaiincngjaaGreat
open Go.Ev Go.Gar
abbrev Asc (l : List VN) : Prop := l.Pairwise (fun a b => ¬ befV b a = true)
open Classical in
theorem c_l04Set_7 (n : Nat) (h2 : 2 ≤ n) (hn : n ≤ 8) (first x : Nm n) (hf : OkN first 1000) (S : List (Pm n)) (hS : S.length < 1000000) (a : Nat) (x0 : Int) : ∀ (m k : Nat), k + m = S.length → ∀ (q : List (Nm n)) (l : List VN), Good first q → q[a]? = some x → l.Perm (q.map enc) → Asc l →
    (∀ q', addG first x (S.drop k) q = some q' → ∃ l' : List VN, l'.Perm (q'.map enc) ∧ Asc l' ∧
      R is_l04Set_7 [tI x0, tI first.1, tLA8 (sL first.2), tLPIPILA8 l, tLPIPILA8 (q.map enc), tLA8 (sL S), tI (a : Int), tI (k : Int)] = some [tI 0, tI x0, tI first.1, tLA8 (sL first.2), tLPIPILA8 l', tLPIPILA8 (q'.map enc), tLA8 (sL S), tI (a : Int)]) ∧
    (addG first x (S.drop k) q = none → R is_l04Set_7 [tI x0, tI first.1, tLA8 (sL first.2), tLPIPILA8 l, tLPIPILA8 (q.map enc), tLA8 (sL S), tI (a : Int), tI (k : Int)] = some [tI 1, tLPIPILA8 [], tB false]) := by
  intro m
  induction m with
  | zero =>
    intro k hk q l hq hx hp hs
    rw [List.drop_of_length_le (by omega)]
    refine ⟨fun q' h => ?_, fun h => by simp [addG] at h⟩
    simp only [addG, Option.some.injEq] at h
    subst h
    refine ⟨l, hp, hs, ?_⟩
    apply vs_l04Set_7
    have : ¬ ((k : Int) < (S.length : Int)) := by omega
    simp only [bs_l04Set_7, sL_len, decide_eq_false this, cond_false]
  | succ m ih =>
    intro k hk q l hq hx hp hs
    have hkS : k < S.length := by omega
    have ha := (List.getElem?_eq_some_iff.1 hx).1
    have hxm : x ∈ q := List.mem_of_getElem? hx
    have hll := hq.len
    rw [List.drop_eq_getElem_cons hkS, addG]
    have hok : OkN x 100000 := ((hq.ss x hxm).ok h2 hf).mono (by omega)
    have hcj := c_l04Conjugate n h2 hn x hok S[k]
    have w : wi64 ((k : Int) + 1) = ((k + 1 : Nat) : Int) := by rw [wrap_i64] <;> omega
    have eV : ∀ x : VN, (x.1, x.2.1, x.2.2) = x := fun x => rfl
    have hlt : ((k : Int) < (S.length : Int)) := by omega
    have hlt2 : ((a : Int) < (q.length : Int)) := by omega
    have hfl := hf.len
    -- one round
    have st : ∀ o, (bif (!decide ((conj1 x S[k]).1 = first.1)) then R is_l04Set_7 [tI x0, tI first.1, tLA8 (sL first.2), tLPIPILA8 l, tLPIPILA8 (q.map enc), tLA8 (sL S), tI (a : Int), tI ((k + 1 : Nat) : Int)]
        else bif (!decide ((((conj1 x S[k]).2.length : Nat) : Int) = ((first.2.length : Nat) : Int))) then R is_l04Set_7 [tI x0, tI first.1, tLA8 (sL first.2), tLPIPILA8 l, tLPIPILA8 (q.map enc), tLA8 (sL S), tI (a : Int), tI ((k + 1 : Nat) : Int)]
        else (R is_l04Insert [tLPIPILA8 l, tPIPILA8 (enc (conj1 x S[k]))]).bind fun o7 =>
          bif (gB o7 1) then
            bif decide (120 < ((List.length (gLPIPILA8 o7 0) : Nat) : Int)) then some [tI 1, tLPIPILA8 [], tB false]
            else bif (apOk (q.map enc) [enc (conj1 x S[k])]) then R is_l04Set_7 [tI x0, tI first.1, tLA8 (sL first.2), tLPIPILA8 (gLPIPILA8 o7 0), tLPIPILA8 (q.map enc ++ [enc (conj1 x S[k])]), tLA8 (sL S), tI (a : Int), tI ((k + 1 : Nat) : Int)] else none
          else R is_l04Set_7 [tI x0, tI first.1, tLA8 (sL first.2), tLPIPILA8 l, tLPIPILA8 (q.map enc), tLA8 (sL S), tI (a : Int), tI ((k + 1 : Nat) : Int)]) = some o →
        R is_l04Set_7 [tI x0, tI first.1, tLA8 (sL first.2), tLPIPILA8 l, tLPIPILA8 (q.map enc), tLA8 (sL S), tI (a : Int), tI (k : Int)] = some o := by
      intro o ho
      apply vs_l04Set_7
      simp (disch := omega) only [bs_l04Set_7, decide_eq_true hlt, decide_eq_true hlt2, decide_eq_true, sL_len, List.length_map, cond_true, Bool.and_true, Int.toNat_natCast, map_getV hx, eV, sL_get hkS, hcj, Option.bind_some, getTV_here, bne_dec, w]
      simp only [(enc_2 _).1, (enc_2 _).2]
      exact ho
    by_cases e1 : (conj1 x S[k]).1 = first.1
    · by_cases e2 : (conj1 x S[k]).2.length = first.2.length
      · have e2' : (((conj1 x S[k]).2.length : Nat) : Int) = ((first.2.length : Nat) : Int) := by omega
        have hss : SS first (conj1 x S[k]) := (hq.ss x hxm).conj h2 hf e1 e2
        have hL : ∀ z ∈ l, Cls (n : Int) first.1 first.2.length z := fun z hz => by
          obtain ⟨u, hu, rfl⟩ := List.mem_map.1 (hp.mem_iff.1 hz)
          exact (hq.ss u hu).cls
        have hlen : l.length = q.length := by rw [hp.length_eq, List.length_map]
        have hins := c_l04Insert (enc (conj1 x S[k])) hss.cls (by omega) l hL (by omega) hs
        have hmem : enc (conj1 x S[k]) ∈ l ↔ conj1 x S[k] ∈ q := hp.mem_iff.trans (enc_mem hn)
        simp only [e1, e2', decide_true, Bool.not_true, cond_false, hins, Option.bind_some] at st
        by_cases e3 : conj1 x S[k] ∈ q
        · rw [if_neg (fun h => h.2.2 e3)]
          simp only [if_pos (hmem.2 e3), getTV_here, getTV_next, cond_false] at st
          obtain ⟨i1, i2⟩ := ih (k + 1) (by omega) q l hq hx hp hs
          refine ⟨fun q' h => ?_, fun h => st _ (i2 h)⟩
          obtain ⟨l', j1, j2, j3⟩ := i1 q' h
          exact ⟨l', j1, j2, st _ j3⟩
        · rw [if_pos ⟨e1, e2, e3⟩]
          simp only [if_neg (fun h => e3 (hmem.1 h)), getTV_here, getTV_next, cond_true, insO_len, hlen] at st
          by_cases e4 : q.length = 120
          · rw [if_pos e4]
            refine ⟨fun q' h => by simp at h, fun _ => st _ ?_⟩
            have : ((120 : Int) < ((q.length + 1 : Nat) : Int)) := by omega
            simp only [decide_eq_true this, cond_true]
          · rw [if_neg e4]
            have h120 : ¬ ((120 : Int) < ((q.length + 1 : Nat) : Int)) := by omega
            have ap : apOk (q.map enc) [enc (conj1 x S[k])] = true := apOk1 (by rw [List.length_map]; omega)
            have eapp : q.map enc ++ [enc (conj1 x S[k])] = (q ++ [conj1 x S[k]]).map enc := by simp
            simp only [decide_eq_false h120, cond_false, ap, cond_true, eapp] at st
            have hp' : (insO befV l (enc (conj1 x S[k]))).Perm ((q ++ [conj1 x S[k]]).map enc) := by
              rw [← eapp]
              refine (insO_perm befV l _).trans ?_
              refine (List.Perm.cons _ hp).trans ?_
              exact (List.perm_append_comm (l₁ := [enc (conj1 x S[k])]))
            obtain ⟨i1, i2⟩ := ih (k + 1) (by omega) _ _ (hq.add h2 hf hxm e1 e2 e3 e4) (by rw [List.getElem?_append_left ha]; exact hx) hp' (insO_sorted (ordV _ _ _) hss.cls hL hs)
            refine ⟨fun q' h => ?_, fun h => st _ (i2 h)⟩
            obtain ⟨l', j1, j2, j3⟩ := i1 q' h
            exact ⟨l', j1, j2, st _ j3⟩
      · have e2' : ¬ (((conj1 x S[k]).2.length : Nat) : Int) = ((first.2.length : Nat) : Int) := by omega
        rw [if_neg (fun h => e2 h.2.1)]
        simp only [e1, e2', decide_true, decide_false, Bool.not_true, Bool.not_false, cond_false, cond_true] at st
        obtain ⟨i1, i2⟩ := ih (k + 1) (by omega) q l hq hx hp hs
        refine ⟨fun q' h => ?_, fun h => st _ (i2 h)⟩
        obtain ⟨l', j1, j2, j3⟩ := i1 q' h
        exact ⟨l', j1, j2, st _ j3⟩
    · rw [if_neg (fun h => e1 h.1)]
      simp only [e1, decide_false, Bool.not_false, cond_true] at st
      obtain ⟨i1, i2⟩ := ih (k + 1) (by omega) q l hq hx hp hs
      refine ⟨fun q' h => ?_, fun h => st _ (i2 h)⟩
      obtain ⟨l', j1, j2, j3⟩ := i1 q' h
      exact ⟨l', j1, j2, st _ j3⟩
theorem c_l04Set_4 (n : Nat) (h2 : 2 ≤ n) (hn : n ≤ 8) (first : Nm n) (hf : OkN first 1000) (S : List (Pm n)) (hS : S.length < 1000000) (x0 : Int) : ∀ (f a : Nat) (q : List (Nm n)) (l : List VN), Good first q → 121 ≤ f + a → a ≤ q.length → l.Perm (q.map enc) → Asc l →
    (∀ q', bfsG first S f a q = some q' → ∃ l' : List VN, l'.Perm (q'.map enc) ∧ Asc l' ∧
      R is_l04Set_4 [tI x0, tI first.1, tLA8 (sL first.2), tLPIPILA8 l, tLPIPILA8 (q.map enc), tLA8 (sL S), tI (a : Int)] = some [tI 0, tLPIPILA8 l']) ∧
    (bfsG first S f a q = none → R is_l04Set_4 [tI x0, tI first.1, tLA8 (sL first.2), tLPIPILA8 l, tLPIPILA8 (q.map enc), tLA8 (sL S), tI (a : Int)] = some [tI 1, tLPIPILA8 [], tB false]) := by
  intro f
  induction f with
  | zero =>
    intro a q l hq hfa ha hp hs
    have := hq.len
    omega
  | succ f ih =>
    intro a q l hq hfa ha hp hs
    rw [bfsG]
    have hll := hq.len
    cases hx : q[a]? with
    | none =>
      have : q.length ≤ a := by simpa using hx
      have hn' : ¬ ((a : Int) < (q.length : Int)) := by omega
      refine ⟨fun q' h => ?_, fun h => by simp at h⟩
      simp only [Option.some.injEq] at h
      subst h
      refine ⟨l, hp, hs, ?_⟩
      apply vs_l04Set_4
      simp only [bs_l04Set_4, List.length_map, decide_eq_false hn', cond_false]
    | some x =>
      have hal := (List.getElem?_eq_some_iff.1 hx).1
      have hlt : ((a : Int) < (q.length : Int)) := by omega
      obtain ⟨h7a, h7b⟩ := c_l04Set_7 n h2 hn first x hf S hS a x0 S.length 0 (by omega) q l hq hx hp hs
      simp only [Int.natCast_zero, List.drop_zero] at h7a h7b
      have w : wi64 ((a : Int) + 1) = ((a + 1 : Nat) : Int) := by rw [wrap_i64] <;> omega
      simp only
      cases hg : addG first x S q with
      | none =>
        refine ⟨fun q' h => by simp at h, fun _ => ?_⟩
        apply vs_l04Set_4
        simp only [bs_l04Set_4, List.length_map, decide_eq_true hlt, cond_true, h7b hg, Option.bind_some, getTV_here, getTV_next]
        rfl
      | some q1 =>
        obtain ⟨l1, p1, p2, p3⟩ := h7a q1 hg
        obtain ⟨g1, ⟨T, g2⟩, g3⟩ := addG_some h2 hf S q q1 hq (List.mem_of_getElem? hx) hg
        obtain ⟨i1, i2⟩ := ih (a + 1) q1 l1 g1 (by omega) (by rw [g2]; simp; omega) p1 p2
        have st : ∀ o, R is_l04Set_4 [tI x0, tI first.1, tLA8 (sL first.2), tLPIPILA8 l1, tLPIPILA8 (q1.map enc), tLA8 (sL S), tI ((a + 1 : Nat) : Int)] = some o → R is_l04Set_4 [tI x0, tI first.1, tLA8 (sL first.2), tLPIPILA8 l, tLPIPILA8 (q.map enc), tLA8 (sL S), tI (a : Int)] = some o := by
          intro o ho
          apply vs_l04Set_4
          simp only [bs_l04Set_4, List.length_map, decide_eq_true hlt, cond_true, p3, Option.bind_some, getTV_here, getTV_next, beq_self_eq_true, w, ho]
        simp only [Option.bind_some]
        refine ⟨fun q' h => ?_, fun h => st _ (i2 h)⟩
        obtain ⟨l', j1, j2, j3⟩ := i1 q' h
        exact ⟨l', j1, j2, st _ j3⟩
/-- What both packages hold of a super summit set. -/
structure Sets {n : Nat} (v : Nm n) (ys : List VN) : Prop where
  impl : R ii_superSummit [tPIPILA8 (enc v)] = some [tLPIPILA8 ys, tB true]
  spec : R is_l04Set [tPIPILA8 (enc v)] = some [tLPIPILA8 ys, tB true]
  mem : ∀ y : Nm n, Reach (sumN v) y ↔ enc y ∈ ys
  all : ∀ z ∈ ys, ∃ y : Nm n, z = enc y ∧ SS (sumN v) y
  asc : Asc ys
  len : ys.length ≤ 120
  nod : ys.Nodup
theorem sets_two (n : Nat) (h2 : 2 ≤ n) (h4 : n ≤ 4) (v : Nm n) (hv : OkN v 200) :
    (R ii_superSummit [tPIPILA8 (enc v)] = some [tLPIPILA8 [], tB false] ∧ R is_l04Set [tPIPILA8 (enc v)] = some [tLPIPILA8 [], tB false]) ∨ ∃ ys : List VN, Sets v ys := by
  have hn : n ≤ 8 := by omega
  have hs1 := c_summit n (by omega) hn v (hv.mono (by omega))
  have hs2 := c_l04Summit n (by omega) hn v (hv.mono (by omega))
  have hf : OkN (sumN v) 1000 := (sumN_ok (by omega) hv).mono (by omega)
  generalize hfst : sumN v = first at *
  obtain ⟨S1, a1, a2, a3⟩ := c_allSimple n (by omega) h4
  obtain ⟨S2, b1, b2, b3, _⟩ := c_l04Simples_all n (by omega) h4
  have g4 := c_superSummit_4 n h2 hn first hf S1 (by omega) 121 0 [first] (good_first hf) (by omega) (by simp)
  obtain ⟨k1, k2⟩ := c_l04Set_4 n h2 hn first hf S2 (by omega) (n : Int) 121 0 [first] ([first].map enc) (good_first hf) (by omega) (by simp) (.refl _) (by simp)
  have eV : ∀ x : VN, (x.1, x.2.1, x.2.2) = x := fun x => rfl
  have ee : ([first].map enc : List VN) = [enc first] := rfl
  have eI : (enc v).1 = (n : Int) := rfl
  have eF : (enc first).1 = (n : Int) ∧ (enc first).2.1 = first.1 ∧ (enc first).2.2 = sL first.2 := ⟨rfl, rfl, rfl⟩
  simp only [Int.natCast_zero, ee] at g4 k1 k2
  rcases bfsG_same h2 hf (fun s _ => a2 s) b2 with ⟨n1, n2⟩ | ⟨A, B, n1, n2, gA, gB, hAB, hR⟩
  · left
    refine ⟨?_, ?_⟩
    · apply vi_superSummit
      rw [n1] at g4
      simp only [bi_superSummit, eV, hs1, Option.bind_some, getTV_here]
      simp only [eI, a1, Option.bind_some, getTV_here, g4, getTV_next]
      rfl
    · apply vs_l04Set
      simp only [bs_l04Set, eV, hs2, Option.bind_some, getTV_here]
      simp only [eI, eF.1, eF.2.1, eF.2.2, c_l02Same n hn, b1, Option.bind_some, getTV_here, k2 n2, getTV_next]
      rfl
  · right
    rw [n1] at g4
    simp only at g4
    obtain ⟨l', p1, p2, p3⟩ := k1 B n2
    have hcA : ∀ z ∈ A.map enc, Cls (n : Int) first.1 first.2.length z := fun z hz => by
      obtain ⟨u, hu, rfl⟩ := List.mem_map.1 hz
      exact (gA.ss u hu).cls
    have hfl := hf.len
    have hAl := gA.len
    obtain ⟨ys, q1, q2, q3⟩ := c_sortNormals (by omega : first.2.length < 1000000000) (A.map enc) hcA (by rw [List.length_map]; omega)
    have hys : ∀ z ∈ ys, Cls (n : Int) first.1 first.2.length z := fun z hz => hcA z (q2.mem_iff.1 hz)
    have e : ys = l' := sorted_unique (ordV _ _ _) hys (q2.trans ((hAB.map enc).trans p1.symm)) q3 p2
    subst e
    refine ⟨ys, ?_, ?_, fun y => ?_, fun z hz => ?_, q3, ?_, ?_⟩
    · apply vi_superSummit
      simp only [bi_superSummit, eV, hs1, Option.bind_some, getTV_here]
      simp only [eI, a1, Option.bind_some, getTV_here, g4, beq_self_eq_true, cond_true, getTV_next, q1]
    · apply vs_l04Set
      simp only [bs_l04Set, eV, hs2, Option.bind_some, getTV_here]
      simp only [eI, eF.1, eF.2.1, eF.2.2, c_l02Same n hn, b1, Option.bind_some, getTV_here, p3, beq_self_eq_true, cond_true, getTV_next]
    · rw [hfst, hR y, q2.mem_iff]
      exact (enc_mem hn).symm
    · obtain ⟨u, hu, rfl⟩ := List.mem_map.1 (q2.mem_iff.1 hz)
      exact ⟨u, rfl, by rw [hfst]; exact gA.ss u hu⟩
    · rw [q2.length_eq, List.length_map]; exact hAl
    · rw [q2.nodup_iff]
      exact List.Pairwise.map enc (fun a b h => fun e => h (enc_inj hn e)) gA.nod
end Go.Ev.YtolpnaiincngjaaGreat
