/- All parts: the program's list. -/
import Derived.Test.YtadjhggdddbicaaMt2
set_option linter.unusedVariables false
set_option linter.unusedSimpArgs false
namespace Go.Ev.Ytadjhggdddbicaa
open Go.Ev Go.Gar
theorem c_isNaN_b (a : Int) : R icmp_isNaN_byte_ [tU8 a] = some [tB false] := by
  apply vcmp_isNaN_byte_
  simp [bcmp_isNaN_byte_]
theorem c_cmp_b (a b : Int) : R icmp_Compare_byte_ [tU8 a, tU8 b] = some [tI (if a < b then -1 else if b < a then 1 else 0)] := by
  apply vcmp_Compare_byte_
  simp only [bcmp_Compare_byte_, c_isNaN_b, Option.bind_some, getTV_here, cond_false]
  by_cases h1 : a < b
  · simp only [decide_eq_true h1, cond_true, if_pos h1]
  · by_cases h2 : b < a
    · simp only [decide_eq_false h1, decide_eq_true h2, cond_true, cond_false, if_neg h1, if_pos h2]
    · simp only [decide_eq_false h1, decide_eq_false h2, cond_false, if_neg h1, if_neg h2]
theorem c_Compare_b_2 (a b : List Int) (ha : a.length = 8) (hb : b.length = 8) : ∀ i : Nat, i ≤ 8 → R ig_Compare___byte_byte__2 [tLU8 a, tLU8 b, tI 8, tI (i : Int)] =
    some (if cmpL (a.drop i) (b.drop i) = 0 then [tI 0, tLU8 a, tLU8 b] else [tI 1, tI (cmpL (a.drop i) (b.drop i))]) := by
  refine up_loop _ ?_ (fun i hi ih => ?_)
  · apply vg_Compare___byte_byte__2
    rw [List.drop_of_length_le (by omega), List.drop_of_length_le (by omega)]
    simp [bg_Compare___byte_byte__2, cmpL]
  · apply vg_Compare___byte_byte__2
    rw [drop_cons8 ha hi, drop_cons8 hb hi]
    have h1 : ¬ ((8 : Int) ≤ (i : Int)) := by omega
    simp (disch := omega) only [bg_Compare___byte_byte__2, ha, hb, show ((8 : Nat) : Int) = 8 from rfl, decide_eq_true, decide_eq_false h1, cond_true, cond_false, Bool.and_true, Int.toNat_natCast, c_cmp_b, Option.bind_some, getTV_here, bne_dec, wrap_i64, cmpL]
    by_cases e1 : List.getD a i 0 < List.getD b i 0
    · simp only [if_pos e1]; rfl
    · by_cases e2 : List.getD b i 0 < List.getD a i 0
      · simp only [if_neg e1, if_pos e2]; rfl
      · simp only [if_neg e1, if_neg e2, decide_true, Bool.not_true, cond_false]
        rw [show (i : Int) + 1 = ((i + 1 : Nat) : Int) by omega, ih]
theorem c_Compare_b (a b : List Int) (ha : a.length = 8) (hb : b.length = 8) : R ig_Compare___byte_byte_ [tLU8 a, tLU8 b] = some [tI (cmpL a b)] := by
  apply vg_Compare___byte_byte_
  have h := c_Compare_b_2 a b ha hb 0 (by omega)
  simp only [Int.natCast_zero, List.drop_zero] at h
  simp only [bg_Compare___byte_byte_, ha, show ((8 : Nat) : Int) = 8 from rfl, h, Option.bind_some]
  by_cases e : cmpL a b = 0
  · simp [e, ha, hb]
  · simp [e]
theorem c_AllPartsK2 (a b : List Int) (ha : a.length = 8) (hb : b.length = 8) : R ii_AllPartsK2 [tA8 a, tA8 b] = some [tI (cmpL a b)] := by
  apply vi_AllPartsK2
  simp only [bi_AllPartsK2, c_Compare_b a b ha hb, Option.bind_some, getTV_here]
def appG (n : Nat) (L : List (List Int)) (g : Nat → Nat) : List (List Int) := match keepP n g with
  | some p => L ++ [p]
  | none => L
theorem foldA (n : Nat) : ∀ (l : List (Nat → Nat)) (L : List (List Int)), l.foldl (appG n) L = L ++ l.filterMap (keepP n)
  | [], L => by simp
  | g :: l, L => by
    rw [List.foldl_cons, foldA n l, List.filterMap_cons]
    unfold appG
    cases keepP n g with
    | none => rfl
    | some p => simp
theorem foldA_len (n : Nat) (l : List (Nat → Nat)) (L : List (List Int)) : (l.foldl (appG n) L).length ≤ L.length + l.length := by
  rw [foldA, List.length_append]
  have := List.length_filterMap_le (keepP n) l
  omega
theorem c_AllPartsK1 (n : Nat) (hn : n ≤ 7) (g : Nat → Nat) (hg : Can n g) (L : List (List Int)) (hl : L.length < 10000000) : R ii_AllPartsK1 [tLI (Gl n g), tLA8 L] = some [tLA8 (appG n L g)] := by
  apply vi_AllPartsK1
  obtain ⟨p, q, hc⟩ := c_crossing n (by omega) g
  simp only [bi_AllPartsK1, hc, Option.bind_some, getTV_next, getTV_here, appG, keepP]
  cases e : crs n g with
  | true => simp
  | false =>
    simp only [Bool.not_false, cond_true, c_part n (by omega) g hg, Option.bind_some, getTV_here, apOk1 (show L.length < 10000000000 by omega)]
    rfl
theorem Gl_upd {n a : Nat} (ha : a < n) (G : Nat → Nat) (k : Nat) : List.set (Gl n G) a (k : Int) = Gl n (upd G a k) := by
  apply List.ext_getElem?
  intro x
  unfold Gl
  rw [List.getElem?_set]
  by_cases e : a = x
  · subst e
    simp [ha, Ytadjhggdddbicaa.upd]
  · rw [if_neg e]
    simp only [List.getElem?_map]
    by_cases hx : x < n
    · simp [hx, Ytadjhggdddbicaa.upd, Ne.symm e]
    · simp [hx]
theorem c_eachGroups (n : Nat) (hn : n ≤ 7) : ∀ (d a : Nat) (g G : Nat → Nat) (L : List (List Int)), a + d = n → CanTo a g → (∀ x, x < a → G x = g x) → L.length + (lvs d a g).length < 10000000 →
    ∃ G' : Nat → Nat, (∀ x, x < a → G' x = g x) ∧ R ii_eachGroups [tLI (Gl n G), tI (a : Int), tLA8 L] = some [tLI (Gl n G'), tLA8 ((lvs d a g).foldl (appG n) L)] := by
  intro d
  induction d with
  | zero =>
    intro a g G L ha hg hG hl
    have e : a = n := by omega
    subst e
    have eG : Gl a G = Gl a g := by
      unfold Gl
      apply List.map_congr_left
      intro x hx
      rw [hG x (List.mem_range.1 hx)]
    refine ⟨g, fun x _ => rfl, ?_⟩
    rw [eG]
    apply vi_eachGroups
    simp only [bi_eachGroups, Gl_len, beq_self_eq_true, cond_true, c_AllPartsK1 a hn g hg L (by omega), Option.bind_some, getTV_here, lvs, List.foldl_cons, List.foldl_nil]
  | succ d ihd =>
    intro a g G L ha hg hG hl
    have hne : ((a : Int) == (n : Int)) = false := by rw [beq_dec, decide_eq_false (by omega)]
    rw [lvs_succ] at hl ⊢
    have loop : ∀ m k, k + m = a + 1 → ∀ (G : Nat → Nat) L, (∀ x, x < a → G x = g x) → L.length + (lvk d a g k).length < 10000000 →
        ∃ G' : Nat → Nat, (∀ x, x < a → G' x = g x) ∧ R ii_eachGroups_3 [tLI (Gl n G), tLA8 L, tI (a : Int), tI ((a + 1 : Nat) : Int), tI (k : Int)] = some [tI 0, tLI (Gl n G'), tLA8 ((lvk d a g k).foldl (appG n) L)] := by
      intro m
      induction m with
      | zero =>
        intro k hk G L hG hl
        have e : k = a + 1 := by omega
        subst e
        refine ⟨G, hG, ?_⟩
        apply vi_eachGroups_3
        have h1 : ¬ (((a + 1 : Nat) : Int) < ((a + 1 : Nat) : Int)) := by omega
        simp only [bi_eachGroups_3, decide_eq_false h1, cond_false, lvk_end, List.foldl_nil]
      | succ m ihm =>
        intro k hk G L hG hl
        have hka : k ≤ a := by omega
        rw [lvk_step hka] at hl ⊢
        rw [List.length_append] at hl
        have w : wi64 ((k : Int) + 1) = ((k + 1 : Nat) : Int) := by rw [wrap_i64] <;> omega
        have w2 : wi64 ((a : Int) + 1) = ((a + 1 : Nat) : Int) := by rw [wrap_i64] <;> omega
        have hset : List.set (Gl n G) a (k : Int) = Gl n (Ytadjhggdddbicaa.upd G a k) := Gl_upd (by omega) G k
        have rec1 : (k < a → g k = k) → L.length + (lvs d (a + 1) (Ytadjhggdddbicaa.upd g a k)).length < 10000000 → ∃ G' : Nat → Nat, (∀ x, x < a → G' x = g x) ∧
            R ii_eachGroups [tLI (Gl n (Ytadjhggdddbicaa.upd G a k)), tI ((a + 1 : Nat) : Int), tLA8 L] = some [tLI (Gl n G'), tLA8 ((lvs d (a + 1) (Ytadjhggdddbicaa.upd g a k)).foldl (appG n) L)] := by
          intro hgk hl'
          obtain ⟨G', h1, h2⟩ := ihd (a + 1) (Ytadjhggdddbicaa.upd g a k) (Ytadjhggdddbicaa.upd G a k) L (by omega) (hg.upd hka hgk) (fun x hx => by
            unfold Ytadjhggdddbicaa.upd
            by_cases e : x = a
            · rw [if_pos e, if_pos e]
            · rw [if_neg e, if_neg e]; exact hG x (by omega)) hl'
          refine ⟨G', fun x hx => ?_, h2⟩
          have := h1 x (by omega)
          unfold Ytadjhggdddbicaa.upd at this
          rw [if_neg (by omega)] at this
          exact this
        have h0 : ((k : Int) < ((a + 1 : Nat) : Int)) := by omega
        have hl0 := foldA_len n (lvs d (a + 1) (Ytadjhggdddbicaa.upd g a k)) L
        by_cases e1 : k < a
        · have hGk : List.getD (Gl n G) k 0 = (g k : Int) := by rw [Gl_get (by omega), hG k e1]
          by_cases e2 : g k = k
          · have e3 : ((g k : Nat) : Int) = (k : Int) := by omega
            rw [if_neg (by simp [e2])] at hl ⊢
            obtain ⟨G', r1, r2⟩ := rec1 (fun _ => e2) (by omega)
            obtain ⟨G'', s1, s2⟩ := ihm (k + 1) (by omega) G' _ r1 (by omega : ((lvs d (a + 1) (Ytadjhggdddbicaa.upd g a k)).foldl (appG n) L).length + _ < _)
            refine ⟨G'', s1, ?_⟩
            apply vi_eachGroups_3
            simp (disch := omega) only [bi_eachGroups_3, Gl_len, decide_eq_true h0, decide_eq_true, Bool.and_true, cond_true, Int.toNat_natCast, hGk, bne_dec, w, w2, hset]
            simp only [e3, decide_true, Bool.not_true, cond_false, r2, Option.bind_some, getTV_here, getTV_next]
            rw [s2, List.foldl_append]
          · have e3 : ¬ ((g k : Nat) : Int) = (k : Int) := by omega
            rw [if_pos ⟨e1, e2⟩] at hl ⊢
            obtain ⟨G'', s1, s2⟩ := ihm (k + 1) (by omega) G L hG (by simpa using hl)
            refine ⟨G'', s1, ?_⟩
            apply vi_eachGroups_3
            simp (disch := omega) only [bi_eachGroups_3, Gl_len, decide_eq_true h0, decide_eq_true, Bool.and_true, cond_true, Int.toNat_natCast, hGk, bne_dec, w, w2, hset]
            simp only [e3, decide_false, Bool.not_false, cond_true]
            rw [s2]
            simp
        · have h3 : ¬ ((k : Int) < (a : Int)) := by omega
          rw [if_neg (by omega)] at hl ⊢
          obtain ⟨G', r1, r2⟩ := rec1 (fun h => absurd h e1) (by omega)
          obtain ⟨G'', s1, s2⟩ := ihm (k + 1) (by omega) G' _ r1 (by omega : ((lvs d (a + 1) (Ytadjhggdddbicaa.upd g a k)).foldl (appG n) L).length + _ < _)
          refine ⟨G'', s1, ?_⟩
          apply vi_eachGroups_3
          simp (disch := omega) only [bi_eachGroups_3, Gl_len, decide_eq_true h0, decide_eq_true, decide_eq_false h3, Bool.and_true, cond_true, cond_false, Int.toNat_natCast, w, w2, hset, r2, Option.bind_some, getTV_here, getTV_next]
          rw [s2, List.foldl_append]
    obtain ⟨G', h1, h2⟩ := loop (a + 1) 0 (by omega) G L hG hl
    refine ⟨G', h1, ?_⟩
    apply vi_eachGroups
    have w2 : wi64 ((a : Int) + 1) = ((a + 1 : Nat) : Int) := by rw [wrap_i64] <;> omega
    simp only [Int.natCast_zero] at h2
    simp only [bi_eachGroups, Gl_len, hne, cond_false, w2, h2, Option.bind_some, getTV_next, getTV_here]

/-! ### the two lists are one -/
theorem foldG_perm (n : Nat) : ∀ (l : List (Nat → Nat)) (L : List (List Int)), (l.foldl (insG n) L).Perm (L ++ l.filterMap (keepP n))
  | [], L => by simp
  | g :: l, L => by
    rw [List.foldl_cons, List.filterMap_cons]
    refine (foldG_perm n l _).trans ?_
    unfold insG
    cases keepP n g with
    | none => exact .refl _
    | some p =>
      refine ((insP_perm L p).append_right _).trans ?_
      rw [List.cons_append]
      exact List.perm_middle.symm
theorem foldG_sorted (n : Nat) : ∀ (l : List (Nat → Nat)) (L : List (List Int)), Len8 L → L.Pairwise (fun a b => ¬ bef b a = true) → (l.foldl (insG n) L).Pairwise (fun a b => ¬ bef b a = true)
  | [], L, _, h => h
  | g :: l, L, h8, h => by
    refine foldG_sorted n l _ (h8.insG g) ?_
    unfold insG keepP
    by_cases e : crs n g = true
    · rw [if_pos e]; exact h
    · rw [if_neg e]; exact insP_sorted h8 (A8_len _ _) h
theorem c_sortParts (xs : List (List Int)) (h8 : Len8 xs) (hl : xs.length < 10000000) : ∃ ys, R ig_SortFunc___i_Part_i_Part_ [tLA8 xs] = some [tLA8 ys] ∧ ys.Perm xs ∧ ys.Pairwise (fun a b => ¬ bef b a = true) := by
  obtain ⟨ys, h1, h2, h3⟩ := sortE_ok (call := R) (cmp := ii_AllPartsK2) (t := .arr .u8 8) cmpL xs (by omega) (fun a ha b hb => c_AllPartsK2 a b (h8 a ha) (h8 b hb))
    (fun a ha => by rw [cmpL_bef, bef_irr]; simp) (fun a ha b hb c hc x y => by
      rw [cmpL_bef] at x y ⊢
      have := h8 a ha; have := h8 b hb; have := h8 c hc
      exact bef_trans (by omega) (by omega) x y) (fun a ha b hb c hc x y => by
      rw [cmpL_bef] at x y ⊢
      have := h8 a ha; have := h8 b hb; have := h8 c hc
      exact bef_ntrans (by omega) (by omega) x y)
  refine ⟨ys, ?_, h2, ?_⟩
  · apply vg_SortFunc___i_Part_i_Part_
    exact h1
  · simp only [cmpL_bef] at h3
    exact h3
/-- All parts, in order. -/
noncomputable def allP (n : Nat) : List (List Int) := (lvs n 0 (fun _ => 0)).foldl (insG n) []
theorem allP_len8 (n : Nat) : Len8 (allP n) := Len8.foldG _ (fun x hx => by simp at hx)
theorem lvs_small {n : Nat} (hn : n ≤ 7) : (lvs n 0 (fun _ => 0)).length ≤ 2097152 := by
  refine Nat.le_trans (lvs_len n 0 _ (by omega)) ?_
  exact Nat.le_trans (Nat.pow_le_pow_right (by omega) hn) (by decide)
theorem allP_len {n : Nat} (hn : n ≤ 7) : (allP n).length ≤ 2097152 := by
  have h1 := lvs_small hn
  have h2 := foldG_len n (lvs n 0 (fun _ => 0)) []
  simp only [List.length_nil] at h2
  unfold allP
  omega
theorem c_sAllParts (n : Nat) (h1 : 1 ≤ n) (hn : n ≤ 7) : R is_AllParts [tI (n : Int)] = some [tLA8 (allP n), tI 0] := by
  apply vs_AllParts
  have e : A8 n (fun _ => 0) = List.replicate 8 0 := (A8_zero n).symm
  have h := c_l07All n hn n 0 (fun _ => 0) [] (by omega) (fun x hx => by omega) (fun x hx => by simp at hx) (by have := lvs_small hn; simp only [List.length_nil]; omega)
  rw [e] at h
  simp only [Int.natCast_zero] at h
  have a1 : (1 : Int) ≤ (n : Int) := by omega
  have a2 : (n : Int) ≤ 7 := by omega
  simp only [bs_AllParts, c_l01In, decide_eq_true a1, decide_eq_true a2, Bool.and_self, Option.bind_some, getTV_here, Bool.not_true, cond_false, h, allP]
theorem c_AllParts (n : Nat) (h1 : 1 ≤ n) (hn : n ≤ 7) : R ii_AllParts [tI (n : Int)] = some [tLA8 (allP n), tI 0] := by
  apply vi_AllParts
  have hs := lvs_small hn
  obtain ⟨G', _, h⟩ := c_eachGroups n hn n 0 (fun _ => 0) id [] (by omega) (fun x hx => by omega) (fun x hx => by omega) (by simp only [List.length_nil]; omega)
  rw [foldA, List.nil_append] at h
  have h8 : Len8 ((lvs n 0 (fun _ => 0)).filterMap (keepP n)) := by
    intro x hx
    simp only [List.mem_filterMap, keepP] at hx
    obtain ⟨g, _, hg⟩ := hx
    split at hg
    · simp at hg
    · simp only [Option.some.injEq] at hg
      rw [← hg]; exact A8_len _ _
  have hl := List.length_filterMap_le (keepP n) (lvs n 0 (fun _ => 0))
  obtain ⟨ys, s1, s2, s3⟩ := c_sortParts _ h8 (by omega)
  have p1 := foldG_perm n (lvs n 0 (fun _ => 0)) []
  rw [List.nil_append] at p1
  have p2 := foldG_sorted n (lvs n 0 (fun _ => 0)) [] (fun x hx => by simp at hx) .nil
  have ey : ys = allP n := by
    refine List.Perm.eq_of_pairwise (le := fun a b => ¬ bef b a = true) (fun a b ha hb x y => ?_) s3 p2 (s2.trans p1.symm)
    have l1 := h8 a (s2.mem_iff.1 ha)
    have l2 := allP_len8 n b hb
    exact bef_total (by omega) (by simpa using y) (by simpa using x)
  have a1 : (1 : Int) ≤ (n : Int) := by omega
  have a2 : (n : Int) ≤ 7 := by omega
  simp only [Int.natCast_zero] at h
  simp only [bi_AllParts, c_within, decide_eq_true a1, decide_eq_true a2, Bool.and_self, Option.bind_some, getTV_here, Bool.not_true, cond_false, c_fineGroups n (by omega), h, getTV_next, s1, ey]
theorem law_FnExactAllParts (k : Int) (h : Fit (.int .i64) k) : R iw_FnExactAllParts [tI k] = some [tB true] := by
  apply vw_FnExactAllParts
  by_cases hk : 1 ≤ k ∧ k ≤ 7
  · obtain ⟨n, rfl⟩ : ∃ n : Nat, k = (n : Int) := ⟨k.toNat, by omega⟩
    have h1 : 1 ≤ n := by omega
    have hn : n ≤ 7 := by omega
    have l8 := allP_len8 n
    have ll := allP_len hn
    have m := c_markPartS (allP n) 1 l8 (by omega) (by omega)
    have m2 := c_heldPartS 1 (allP n).length (by omega) (by omega)
    have e0 : ¬ ((1 : Int) + 8 * ((allP n).length : Int) < 0) := by omega
    simp only [bw_FnExactAllParts, c_sAllParts n h1 hn, c_AllParts n h1 hn, Option.bind_some, getTV_here, getTV_next, c_eqPartS _ _ l8 l8 (by omega : (allP n).length < 1000000000), decide_true, Bool.not_true, cond_false, bne_self_eq_false, m, m2, decide_eq_false e0]
  · have e1 : (decide ((1 : Int) ≤ k) && decide (k ≤ 7)) = false := by
      rw [Bool.and_eq_false_iff]
      by_cases h1 : (1 : Int) ≤ k
      · right; exact decide_eq_false (by omega)
      · left; exact decide_eq_false h1
    have s1 : R is_AllParts [tI k] = some [tLA8 [], tI 2] := by
      apply vs_AllParts
      simp only [bs_AllParts, c_l01In, e1, Option.bind_some, getTV_here, Bool.not_false, cond_true]
    have s2 : R ii_AllParts [tI k] = some [tLA8 [], tI 2] := by
      apply vi_AllParts
      simp only [bi_AllParts, c_within, e1, Option.bind_some, getTV_here, Bool.not_false, cond_true]
    have l8 : Len8 [] := fun x hx => by simp at hx
    have m := c_markPartS [] 1 l8 (by omega) (by simp)
    have m2 := c_heldPartS 1 0 (by omega) (by omega)
    simp only [List.length_nil] at m
    simp [bw_FnExactAllParts, s1, s2, c_eqPartS [] [] l8 l8, m, m2]
end Go.Ev.Ytadjhggdddbicaa
