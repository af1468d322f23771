/- Is it a normal form? Both packages answer alike. -/
import Derived.Test.YtolpnaiincngjaaGreatMn7
set_option linter.unusedVariables false
set_option linter.unusedSimpArgs false
namespace Go.Ev.YtolpnaiincngjaaGreat
open Go.Ev Go.Gar
theorem dec_f {p : Prop} {i : Decidable p} (h : ¬ p) : @decide p i = false := decide_eq_false h
theorem dec_t {p : Prop} {i : Decidable p} (h : p) : @decide p i = true := decide_eq_true h
/-- Rows of bytes. -/
def Rows8 (L : List (List Int)) : Prop := ∀ x ∈ L, B8 x
theorem Rows8.at {L : List (List Int)} (h : Rows8 L) {i : Nat} (hi : i < L.length) : B8 L[i] := h _ (List.getElem_mem hi)
theorem Rows8.len8 {L : List (List Int)} (h : Rows8 L) : Len8 L := fun x hx => (h x hx).1
theorem sL_inj {n : Nat} (hn : n ≤ 8) : ∀ {l m : List (Pm n)}, sL l = sL m → l = m
  | [], [], _ => rfl
  | [], _ :: _, h => by simp [sL] at h
  | _ :: _, [], h => by simp [sL] at h
  | a :: l, b :: m, h => by
    simp only [sL, List.map_cons, List.cons.injEq] at h
    rw [sA_inj hn h.1, sL_inj hn h.2]
/-- The rows go on a proper list of which the last one is told. -/
def Goes (n : Nat) (last : Option (Pm n)) (L : List (List Int)) : Prop := ∃ A : List (Pm n), L = sL A ∧ (Pm.lat n).Proper A ∧ ∀ a, last = some a → ∀ b, A.head? = some b → Pm.meet (a⁻¹ * Pm.half n) b = 1
theorem goes_cons {n : Nat} (hn : n ≤ 8) (last : Option (Pm n)) (s : Pm n) (L : List (List Int)) : Goes n last (sA s :: L) ↔ s ≠ 1 ∧ s ≠ Pm.half n ∧ (∀ a, last = some a → Pm.meet (a⁻¹ * Pm.half n) s = 1) ∧ Goes n (some s) L := by
  constructor
  · rintro ⟨A, h1, h2, h3⟩
    cases A with
    | nil => simp [sL] at h1
    | cons a A =>
      simp only [sL, List.map_cons, List.cons.injEq] at h1
      have e := sA_inj hn h1.1
      subst e
      have hn := h2.no s List.mem_cons_self
      refine ⟨hn.2, hn.1, fun a ha => h3 a ha s rfl, A, h1.2, ⟨h2.S.tail, h2.W.2, fun x hx => h2.no x (List.mem_cons_of_mem _ hx)⟩, fun a ha b hb => ?_⟩
      simp only [Option.some.injEq] at ha
      subst ha
      exact h2.W.1 b hb
  · rintro ⟨h1, h2, h3, A, rfl, h5, h6⟩
    refine ⟨s :: A, rfl, ⟨allS _, ⟨fun b hb => h6 s rfl b hb, h5.W⟩, fun x hx => ?_⟩, fun a ha b hb => ?_⟩
    · rcases List.mem_cons.1 hx with rfl | hx
      · exact ⟨h2, h1⟩
      · exact h5.no x hx
    · simp only [List.head?_cons, Option.some.injEq] at hb
      subst hb
      exact h3 a ha
theorem goes_nil (n : Nat) (last : Option (Pm n)) : Goes n last [] := ⟨[], rfl, Lat.Proper.nil, fun _ _ b hb => by simp at hb⟩
theorem goes_not {n : Nat} (last : Option (Pm n)) (a : List Int) (L : List (List Int)) (h : ¬ ∃ s : Pm n, a = sA s) : ¬ Goes n last (a :: L) := by
  rintro ⟨A, h1, _⟩
  cases A with
  | nil => simp [sL] at h1
  | cons s A =>
    simp only [sL, List.map_cons, List.cons.injEq] at h1
    exact h ⟨s, h1.1⟩
open Classical in
noncomputable def goesB (n : Nat) (last : Option (Pm n)) (L : List (List Int)) : Bool := decide (Goes n last L)
theorem goesB_false {n : Nat} {last : Option (Pm n)} {L : List (List Int)} (h : ¬ Goes n last L) : goesB n last L = false := by
  unfold goesB
  exact dec_f h
theorem goesB_true {n : Nat} {last : Option (Pm n)} {L : List (List Int)} (h : Goes n last L) : goesB n last L = true := by
  unfold goesB
  exact dec_t h
theorem goesB_congr {n : Nat} {l l' : Option (Pm n)} {L L' : List (List Int)} (h : Goes n l L ↔ Goes n l' L') : goesB n l L = goesB n l' L' := by
  unfold goesB
  exact decide_eq_decide.2 h
theorem isSm_nat {n : Nat} (h1 : 1 ≤ n) (hn : n ≤ 8) (a : List Int) : isSm (n : Int) a = true ↔ ∃ s : Pm n, a = sA s := by
  unfold isSm
  rw [Int.toNat_natCast, decide_eq_true (show (1 : Int) ≤ n by omega), decide_eq_true (show (n : Int) ≤ 8 by omega)]
  simp
theorem beq_row {n : Nat} (s t : Pm n) (hn : n ≤ 8) : (sA s == sA t) = decide (s = t) := beq_sA hn s t
theorem c_l03Is_5 (n : Nat) (h1 : 1 ≤ n) (hn : n ≤ 8) (x0 x1 : Int) (L : List (List Int)) (hL : Rows8 L) (hl : L.length ≤ 200) : ∀ (i : Nat), i ≤ L.length → ∀ last : Option (Pm n), (i = 0 → last = none) → (0 < i → ∃ a, last = some a ∧ List.getD L (i - 1) (List.replicate 8 0) = sA a) →
    R is_l03Is_5 [tI x0, tI x1, tLA8 L, tI (n : Int), tI (i : Int)] = some (if goesB n last (L.drop i) then [tI 0] else [tI 1, tB false]) := by
  refine up_loop _ (fun last _ _ => ?_) (fun i hi ih last hl0 hl1 => ?_)
  · apply vs_l03Is_5
    rw [List.drop_length, goesB_true (goes_nil n last), if_pos rfl]
    simp [bs_l03Is_5]
  · have hB := hL.at hi
    have hsm := isSm_nat h1 hn L[i]
    apply vs_l03Is_5
    rw [List.drop_eq_getElem_cons hi]
    simp (disch := omega) only [bs_l03Is_5, decide_eq_true, cond_true, Bool.and_true, Int.toNat_natCast, getD8 hi, c_l02Is _ _ hB, Option.bind_some, getTV_here, c_l02Same n hn, c_l02Half n hn]
    cases hs : isSm (n : Int) L[i] with
    | false =>
      have : ¬ ∃ s : Pm n, L[i] = sA s := fun h => by rw [hsm.2 h] at hs; simp at hs
      rw [goesB_false (goes_not last _ _ this)]
      simp
    | true =>
      obtain ⟨s, he⟩ := hsm.1 hs
      have ih' := ih (some s) (by omega) (fun _ => ⟨s, rfl, by rw [Nat.add_sub_cancel, getD8 hi, he]⟩)
      have hg := goes_cons hn last s (L.drop (i + 1))
      rw [he]
      simp only [Bool.not_true, cond_false, beq_row _ _ hn]
      by_cases e1 : s = 1
      · have : ¬ Goes n last (sA s :: L.drop (i + 1)) := fun h => (hg.1 h).1 e1
        rw [goesB_false this, decide_eq_true e1, cond_true]
        simp
      · by_cases e2 : s = Pm.half n
        · have : ¬ Goes n last (sA s :: L.drop (i + 1)) := fun h => (hg.1 h).2.1 e2
          rw [decide_eq_false e1, decide_eq_true e2, cond_false, cond_true, goesB_false this]
          simp
        · rw [decide_eq_false e1, decide_eq_false e2, cond_false, cond_false]
          have e3 : wi64 ((i : Int) + 1) = ((i + 1 : Nat) : Int) := by rw [wrap_i64] <;> omega
          by_cases h0 : 0 < i
          · obtain ⟨a, q1, q2⟩ := hl1 h0
            subst q1
            have d1 : ((0 : Int) < (i : Int)) := by omega
            have e4 : wi64 ((i : Int) - 1) = ((i - 1 : Nat) : Int) := by rw [wrap_i64] <;> omega
            have e5 : (decide ((0 : Int) ≤ ((i - 1 : Nat) : Int)) && decide (((i - 1 : Nat) : Int) < ((L.length : Nat) : Int))) = true := by
              rw [decide_eq_true (by omega), decide_eq_true (by omega)]; rfl
            simp only [decide_eq_true d1, cond_true, e4, e5, Int.toNat_natCast, q2, c_l03Weighted n hn, Option.bind_some, getTV_here, e3]
            by_cases e6 : Pm.meet (a⁻¹ * Pm.half n) s = 1
            · have : Goes n (some a) (sA s :: L.drop (i + 1)) ↔ Goes n (some s) (L.drop (i + 1)) := by
                rw [hg]
                constructor
                · exact fun h => h.2.2.2
                · exact fun h => ⟨e1, e2, fun a' ha => by simp only [Option.some.injEq] at ha; subst ha; exact e6, h⟩
              rw [decide_eq_true e6, Bool.not_true, cond_false, ih', goesB_congr this]
            · have : ¬ Goes n (some a) (sA s :: L.drop (i + 1)) := fun h => e6 ((hg.1 h).2.2.1 a rfl)
              rw [decide_eq_false e6, Bool.not_false, cond_true, goesB_false this]
              simp
          · have q1 := hl0 (by omega)
            subst q1
            have d1 : ¬ ((0 : Int) < (i : Int)) := by omega
            have : Goes n none (sA s :: L.drop (i + 1)) ↔ Goes n (some s) (L.drop (i + 1)) := by
              rw [hg]
              constructor
              · exact fun h => h.2.2.2
              · exact fun h => ⟨e1, e2, fun a' ha => by simp at ha, h⟩
            simp only [decide_eq_false d1, cond_false, e3, ih']
            rw [goesB_congr this]
theorem c_IsNormal_5 (n : Nat) (h1 : 1 ≤ n) (hn : n ≤ 8) (x0 x1 : Int) (L : List (List Int)) (hL : Rows8 L) (hl : L.length ≤ 200) : ∀ (i : Nat), i ≤ L.length → ∀ last : Option (Pm n), (i = 0 → last = none) → (0 < i → ∃ a, last = some a ∧ List.getD L (i - 1) (List.replicate 8 0) = sA a) →
    R ii_IsNormal_5 [tI x0, tI x1, tLA8 L, tI (n : Int), tI (L.length : Int), tI (i : Int)] = some (if goesB n last (L.drop i) then [tI 0] else [tI 1, tB false]) := by
  refine up_loop _ (fun last _ _ => ?_) (fun i hi ih last hl0 hl1 => ?_)
  · apply vi_IsNormal_5
    rw [List.drop_length, goesB_true (goes_nil n last), if_pos rfl]
    simp [bi_IsNormal_5]
  · have hB := hL.at hi
    have hsm := isSm_nat h1 hn L[i]
    apply vi_IsNormal_5
    rw [List.drop_eq_getElem_cons hi]
    simp (disch := omega) only [bi_IsNormal_5, decide_eq_true, cond_true, Bool.and_true, Int.toNat_natCast, getD8 hi, c_IsSimple _ _ hB, Option.bind_some, getTV_here, c_nothing n hn, c_halfTurn n hn]
    cases hs : isSm (n : Int) L[i] with
    | false =>
      have : ¬ ∃ s : Pm n, L[i] = sA s := fun h => by rw [hsm.2 h] at hs; simp at hs
      rw [goesB_false (goes_not last _ _ this)]
      simp
    | true =>
      obtain ⟨s, he⟩ := hsm.1 hs
      have ih' := ih (some s) (by omega) (fun _ => ⟨s, rfl, by rw [Nat.add_sub_cancel, getD8 hi, he]⟩)
      have hg := goes_cons hn last s (L.drop (i + 1))
      rw [he]
      simp only [Bool.not_true, cond_false, beq_row _ _ hn]
      by_cases e1 : s = 1
      · have : ¬ Goes n last (sA s :: L.drop (i + 1)) := fun h => (hg.1 h).1 e1
        rw [goesB_false this, decide_eq_true e1, cond_true]
        simp
      · by_cases e2 : s = Pm.half n
        · have : ¬ Goes n last (sA s :: L.drop (i + 1)) := fun h => (hg.1 h).2.1 e2
          rw [decide_eq_false e1, decide_eq_true e2, cond_false, cond_true, goesB_false this]
          simp
        · rw [decide_eq_false e1, decide_eq_false e2, cond_false, cond_false]
          have e3 : wi64 ((i : Int) + 1) = ((i + 1 : Nat) : Int) := by rw [wrap_i64] <;> omega
          by_cases h0 : 0 < i
          · obtain ⟨a, q1, q2⟩ := hl1 h0
            subst q1
            have d1 : ((0 : Int) < (i : Int)) := by omega
            have e4 : wi64 ((i : Int) - 1) = ((i - 1 : Nat) : Int) := by rw [wrap_i64] <;> omega
            have e5 : (decide ((0 : Int) ≤ ((i - 1 : Nat) : Int)) && decide (((i - 1 : Nat) : Int) < ((L.length : Nat) : Int))) = true := by
              rw [decide_eq_true (by omega), decide_eq_true (by omega)]; rfl
            simp only [decide_eq_true d1, cond_true, e4, e5, Int.toNat_natCast, q2, c_endsAll n hn, Option.bind_some, getTV_here, e3]
            by_cases e6 : Pm.meet (a⁻¹ * Pm.half n) s = 1
            · have : Goes n (some a) (sA s :: L.drop (i + 1)) ↔ Goes n (some s) (L.drop (i + 1)) := by
                rw [hg]
                constructor
                · exact fun h => h.2.2.2
                · exact fun h => ⟨e1, e2, fun a' ha => by simp only [Option.some.injEq] at ha; subst ha; exact e6, h⟩
              rw [decide_eq_true e6, Bool.not_true, cond_false, ih', goesB_congr this]
            · have : ¬ Goes n (some a) (sA s :: L.drop (i + 1)) := fun h => e6 ((hg.1 h).2.2.1 a rfl)
              rw [decide_eq_false e6, Bool.not_false, cond_true, goesB_false this]
              simp
          · have q1 := hl0 (by omega)
            subst q1
            have d1 : ¬ ((0 : Int) < (i : Int)) := by omega
            have : Goes n none (sA s :: L.drop (i + 1)) ↔ Goes n (some s) (L.drop (i + 1)) := by
              rw [hg]
              constructor
              · exact fun h => h.2.2.2
              · exact fun h => ⟨e1, e2, fun a' ha => by simp at ha, h⟩
            simp only [decide_eq_false d1, cond_false, e3, ih']
            rw [goesB_congr this]
/-- v is a normal form. -/
def IsNm (v : Int × Int × List (List Int)) : Prop := ∃ (n : Nat) (w : Nm n), 1 ≤ n ∧ n ≤ 8 ∧ OkN w 200 ∧ v = enc w
open Classical in
noncomputable def isNm (v : Int × Int × List (List Int)) : Bool := decide (IsNm v)
theorem isNm_iff (n : Nat) (h1 : 1 ≤ n) (hn : n ≤ 8) (p : Int) (L : List (List Int)) (hp : -200 ≤ p ∧ p ≤ 200) (hL : L.length ≤ 200) (h2 : n = 1 → p = 0) : IsNm ((n : Int), p, L) ↔ Goes n none L := by
  constructor
  · rintro ⟨m, w, _, _, hw, he⟩
    simp only [enc, Prod.mk.injEq] at he
    obtain ⟨he1, he2, he3⟩ := he
    have : m = n := by omega
    subst this
    exact ⟨w.2, he3, hw.P, fun a ha => by simp at ha⟩
  · rintro ⟨A, h3, h4, _⟩
    subst h3
    have hl : A.length ≤ 200 := by rw [sL_len] at hL; exact hL
    refine ⟨n, (p, A), h1, hn, ⟨h4, hl, by simp only; omega, by simp only; omega, fun hn1 => ?_⟩, rfl⟩
    have hA : A = [] := by
      cases A with
      | nil => rfl
      | cons a A =>
        exfalso
        refine (h4.no a List.mem_cons_self).2 (Pm.ext fun x => ?_)
        subst hn1
        by_cases hx : x < 1
        · have := a.lt hx
          simp only [Pm.one_f]
          omega
        · exact a.out x (by omega)
    rw [h2 hn1, hA]
theorem isNm_rng {v : Int × Int × List (List Int)} (h : IsNm v) : 1 ≤ v.1 ∧ v.1 ≤ 8 ∧ -200 ≤ v.2.1 ∧ v.2.1 ≤ 200 ∧ v.2.2.length ≤ 200 ∧ (v.1 < 2 → v.2.1 = 0) := by
  obtain ⟨n, w, h1, h2, hw, rfl⟩ := h
  have a1 := hw.len
  have a2 := hw.lo
  have a3 := hw.hi
  simp only [enc, sL_len]
  refine ⟨by omega, by omega, by omega, by omega, a1, fun h => ?_⟩
  rw [hw.one (by omega)]
theorem c_l03Is (v : Int × Int × List (List Int)) (hL : Rows8 v.2.2) : R is_l03Is [tPIPILA8 v] = some [tB (isNm v)] := by
  obtain ⟨n, p, L⟩ := v
  simp only at hL
  apply vs_l03Is
  simp only [bs_l03Is, c_l01In, Option.bind_some, getTV_here]
  have hr := fun h => isNm_rng (v := (n, p, L)) h
  simp only at hr
  have no : ∀ {q : Prop}, q → (IsNm (n, p, L) → ¬ q) → isNm (n, p, L) = false := fun hq h => by
    unfold isNm
    exact dec_f fun h' => h h' hq
  by_cases h1 : 1 ≤ n ∧ n ≤ 8
  · by_cases h2 : -200 ≤ p ∧ p ≤ 200
    · by_cases h3 : L.length ≤ 200
      · have h4 : ¬ ((200 : Int) < (L.length : Int)) := by omega
        obtain ⟨m, rfl⟩ : ∃ m : Nat, n = m := ⟨n.toNat, by omega⟩
        have h5 := c_l03Is_5 m (by omega) (by omega) (m : Int) p L hL h3 0 (Nat.zero_le _) none (fun _ => rfl) (fun h => by omega)
        simp only [Int.natCast_zero, List.drop_zero] at h5
        simp only [h1, h2, decide_true, Bool.and_self, Bool.not_true, cond_false, decide_eq_false h4, h5, Option.bind_some]
        by_cases h6 : (m : Int) < 2
        · by_cases h7 : p = 0
          · have hi : isNm ((m : Int), p, L) = goesB m none L := by
              unfold isNm goesB
              rw [decide_eq_decide]
              exact isNm_iff m (by omega) (by omega) p L h2 h3 (fun _ => h7)
            rw [decide_eq_true h6, cond_true, bne_dec, decide_eq_true h7, Bool.not_true, cond_false, hi]
            cases goesB m none L <;> simp
          · rw [no h7 (fun h => fun h' => h' ((hr h).2.2.2.2.2 h6)), decide_eq_true h6, cond_true, bne_dec, decide_eq_false h7]
            rfl
        · have hi : isNm ((m : Int), p, L) = goesB m none L := by
            unfold isNm goesB
            rw [decide_eq_decide]
            exact isNm_iff m (by omega) (by omega) p L h2 h3 (fun _ => by omega)
          rw [decide_eq_false h6, cond_false, hi]
          cases goesB m none L <;> simp
      · have h4 : ((200 : Int) < (L.length : Int)) := by omega
        rw [no h3 (fun h => fun h' => h' (hr h).2.2.2.2.1)]
        simp [h1, h2, h4]
    · have e : (decide (-200 ≤ p) && decide (p ≤ 200)) = false := by simp; omega
      rw [no h2 (fun h => fun h' => h' ⟨(hr h).2.2.1, (hr h).2.2.2.1⟩)]
      simp [h1, e]
  · have e : (decide (1 ≤ n) && decide (n ≤ 8)) = false := by simp; omega
    rw [no h1 (fun h => fun h' => h' ⟨(hr h).1, (hr h).2.1⟩)]
    simp [e]
theorem c_IsNormal (v : Int × Int × List (List Int)) (hL : Rows8 v.2.2) : R ii_IsNormal [tPIPILA8 v] = some [tB (isNm v)] := by
  obtain ⟨n, p, L⟩ := v
  simp only at hL
  apply vi_IsNormal
  simp only [bi_IsNormal, c_isCount, c_within, Option.bind_some, getTV_here]
  have hr := fun h => isNm_rng (v := (n, p, L)) h
  simp only at hr
  have no : ∀ {q : Prop}, q → (IsNm (n, p, L) → ¬ q) → isNm (n, p, L) = false := fun hq h => by
    unfold isNm
    exact dec_f fun h' => h h' hq
  by_cases h1 : 1 ≤ n ∧ n ≤ 8
  · by_cases h2 : -200 ≤ p ∧ p ≤ 200
    · by_cases h3 : L.length ≤ 200
      · have h4 : ¬ ((200 : Int) < (L.length : Int)) := by omega
        obtain ⟨m, rfl⟩ : ∃ m : Nat, n = m := ⟨n.toNat, by omega⟩
        have h5 := c_IsNormal_5 m (by omega) (by omega) (m : Int) p L hL h3 0 (Nat.zero_le _) none (fun _ => rfl) (fun h => by omega)
        simp only [Int.natCast_zero, List.drop_zero] at h5
        simp only [h1, h2, decide_true, Bool.and_self, Bool.not_true, cond_false, decide_eq_false h4, h5, Option.bind_some]
        by_cases h6 : (m : Int) < 2
        · by_cases h7 : p = 0
          · have hi : isNm ((m : Int), p, L) = goesB m none L := by
              unfold isNm goesB
              rw [decide_eq_decide]
              exact isNm_iff m (by omega) (by omega) p L h2 h3 (fun _ => h7)
            rw [decide_eq_true h6, cond_true, bne_dec, decide_eq_true h7, Bool.not_true, cond_false, hi]
            cases goesB m none L <;> simp
          · rw [no h7 (fun h => fun h' => h' ((hr h).2.2.2.2.2 h6)), decide_eq_true h6, cond_true, bne_dec, decide_eq_false h7]
            rfl
        · have hi : isNm ((m : Int), p, L) = goesB m none L := by
            unfold isNm goesB
            rw [decide_eq_decide]
            exact isNm_iff m (by omega) (by omega) p L h2 h3 (fun _ => by omega)
          rw [decide_eq_false h6, cond_false, hi]
          cases goesB m none L <;> simp
      · have h4 : ((200 : Int) < (L.length : Int)) := by omega
        rw [no h3 (fun h => fun h' => h' (hr h).2.2.2.2.1)]
        simp [h1, h2, h4]
    · have e : (decide (-200 ≤ p) && decide (p ≤ 200)) = false := by simp; omega
      rw [no h2 (fun h => fun h' => h' ⟨(hr h).2.2.1, (hr h).2.2.2.1⟩)]
      simp [h1, e]
  · have e : (decide (1 ≤ n) && decide (n ≤ 8)) = false := by simp; omega
    rw [no h1 (fun h => fun h' => h' ⟨(hr h).1, (hr h).2.1⟩)]
    simp [e]
/-- An argument that is a normal form, or not. -/
theorem nm_cases (v : Int × Int × List (List Int)) : (isNm v = false) ∨ (isNm v = true ∧ ∃ (n : Nat) (w : Nm n), 1 ≤ n ∧ n ≤ 8 ∧ OkN w 200 ∧ v = enc w) := by
  unfold isNm
  by_cases h : IsNm v
  · exact .inr ⟨dec_t h, h⟩
  · exact .inl (dec_f h)
theorem fit_normal {v : Int × Int × List (List Int)} (h : Fit (.pair (.int .i64) (.pair (.int .i64) (.slice (.arr .u8 8)))) v) : v.2.2.length ≤ 9223372036854775807 ∧ Rows8 v.2.2 := by
  obtain ⟨h1, h2, h3⟩ := fit_rows h.2.2
  exact ⟨h1, fun x hx => ⟨h2 x hx, h3 x hx⟩⟩
theorem OkN.mono {n : Nat} {w : Nm n} {a b : Nat} (h : OkN w a) (hab : a ≤ b) : OkN w b :=
  ⟨h.P, Nat.le_trans h.len hab, by have := h.lo; omega, by have := h.hi; omega, h.one⟩
end Go.Ev.YtolpnaiincngjaaGreat
