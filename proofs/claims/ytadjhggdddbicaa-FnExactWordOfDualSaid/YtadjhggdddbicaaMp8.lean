/- IsDual: the law. -/
import Derived.Test.YtadjhggdddbicaaMp7
set_option linter.unusedVariables false
set_option linter.unusedSimpArgs false
namespace Go.Ev.Ytadjhggdddbicaa
open Go.Ev Go.Gar
/-! ### nothing -/
theorem one_step {n i : Nat} (hi : i < n) (hn : n ≤ 8) : List.set (A8 n fun x => if x < i then x else 0) i (wu8 (i : Int)) = A8 n fun x => if x < i + 1 then x else 0 := by
  have w8 : wu8 (i : Int) = (i : Int) := by rw [wrap_u8] <;> omega
  rw [w8, A8_set hi hn]
  apply A8_congr
  intro x _
  by_cases h : x = i
  · rw [if_pos h, if_pos (by omega), h]
  · rw [if_neg h]
    by_cases h2 : x < i
    · rw [if_pos h2, if_pos (by omega)]
    · rw [if_neg h2, if_neg (by omega)]
theorem one_zero (n : Nat) : (A8 n fun x => if x < 0 then x else 0) = List.replicate 8 0 := by
  rw [A8_zero n]
  apply A8_congr
  intro x _
  rw [if_neg (by omega)]
theorem one_all (n : Nat) : (A8 n fun x => if x < n then x else 0) = sA (1 : Pm n) := A8_congr (fun x hx => if_pos hx)
theorem c_nothing_3 (n : Nat) (hn : n ≤ 8) (z : List Int) : ∀ i, i ≤ n → R ii_nothing_3 [tA8 z, tA8 (A8 n fun x => if x < i then x else 0), tI (n : Int), tI (i : Int)] = some [tI 0, tA8 z, tA8 (sA (1 : Pm n))] := by
  refine up_loop _ ?_ (fun i hi ih => ?_)
  · apply vi_nothing_3
    have h1 : ¬ ((n : Int) < (n : Int)) := by omega
    simp only [bi_nothing_3, decide_eq_false h1, cond_false, one_all]
  · apply vi_nothing_3
    have v1 : decide ((i : Int) < (n : Int)) = true := decide_eq_true (by omega)
    have v2 : decide ((0 : Int) ≤ (i : Int)) = true := decide_eq_true (by omega)
    have v3 : decide ((i : Int) < 8) = true := decide_eq_true (by omega)
    have w : wi64 ((i : Int) + 1) = ((i + 1 : Nat) : Int) := by rw [wrap_i64] <;> omega
    simp only [bi_nothing_3, v1, v2, v3, cond_true, Bool.and_true, Int.toNat_natCast, one_step hi hn, w, ih]
theorem c_finePart (n : Nat) (hn : n ≤ 8) : R ii_finePart [tI (n : Int)] = some [tA8 (sA (1 : Pm n))] := by
  have h := c_nothing_3 n hn (List.replicate 8 0) 0 (Nat.zero_le _)
  rw [one_zero] at h
  simp only [Int.natCast_zero] at h
  have h2 : R ii_nothing [tI (n : Int)] = some [tA8 (sA (1 : Pm n))] := by
    apply vi_nothing
    simp only [bi_nothing, h, Option.bind_some, getTV_here, getTV_next]
  apply vi_finePart
  simp only [bi_finePart, h2, Option.bind_some, getTV_here]
theorem c_l01Strands_3 (n : Nat) (hn : n ≤ 8) (l z : List Int) : ∀ i, i ≤ n → R is_l01Strands_3 [tLI l, tA8 z, tA8 (A8 n fun x => if x < i then x else 0), tI (n : Int), tI (i : Int)] = some [tI 0, tLI l, tA8 z, tA8 (sA (1 : Pm n))] := by
  refine up_loop _ ?_ (fun i hi ih => ?_)
  · apply vs_l01Strands_3
    have h1 : ¬ ((n : Int) < (n : Int)) := by omega
    simp only [bs_l01Strands_3, decide_eq_false h1, cond_false, one_all]
  · apply vs_l01Strands_3
    have v1 : decide ((i : Int) < (n : Int)) = true := decide_eq_true (by omega)
    have v2 : decide ((0 : Int) ≤ (i : Int)) = true := decide_eq_true (by omega)
    have v3 : decide ((i : Int) < 8) = true := decide_eq_true (by omega)
    have w : wi64 ((i : Int) + 1) = ((i + 1 : Nat) : Int) := by rw [wrap_i64] <;> omega
    simp only [bs_l01Strands_3, v1, v2, v3, cond_true, Bool.and_true, Int.toNat_natCast, one_step hi hn, w, ih]
theorem c_l01Perm_3 (n : Nat) (hn : n ≤ 8) (z : List Int) : ∀ i, i ≤ n → R is_l01Perm_3 [tA8 z, tA8 (sA (1 : Pm n)), tA8 (A8 n fun x => if x < i then x else 0), tI (n : Int), tI (i : Int)] = some [tI 0, tA8 z, tA8 (sA (1 : Pm n))] := by
  refine up_loop _ ?_ (fun i hi ih => ?_)
  · apply vs_l01Perm_3
    have h1 : ¬ ((n : Int) < (n : Int)) := by omega
    simp only [bs_l01Perm_3, decide_eq_false h1, cond_false, one_all]
  · apply vs_l01Perm_3
    have v1 : decide ((i : Int) < (n : Int)) = true := decide_eq_true (by omega)
    have v2 : decide ((0 : Int) ≤ (i : Int)) = true := decide_eq_true (by omega)
    have v3 : decide ((i : Int) < 8) = true := decide_eq_true (by omega)
    have w : wi64 ((i : Int) + 1) = ((i + 1 : Nat) : Int) := by rw [wrap_i64] <;> omega
    have hg : List.getD (sA (1 : Pm n)) i 0 = (i : Int) := sA_get hi hn
    simp only [bs_l01Perm_3, v1, v2, v3, cond_true, Bool.and_true, Int.toNat_natCast, hg, one_step hi hn, w, ih]
theorem c_l07Fine (n : Nat) (hn : n ≤ 8) : R is_l07Fine [tI (n : Int)] = some [tA8 (sA (1 : Pm n))] := by
  have h := c_l01Strands_3 n hn [] (List.replicate 8 0) 0 (Nat.zero_le _)
  have h' := c_l01Perm_3 n hn (List.replicate 8 0) 0 (Nat.zero_le _)
  rw [one_zero] at h h'
  simp only [Int.natCast_zero] at h h'
  have h7 : R is_l01Strands_7 [tLI [], tA8 (List.replicate 8 0), tA8 (sA (1 : Pm n)), tI 0] = some [tI 0, tA8 (List.replicate 8 0), tA8 (sA (1 : Pm n))] := by
    apply vs_l01Strands_7
    simp [bs_l01Strands_7]
  have h2 : R is_l01Strands [tI (n : Int), tLI []] = some [tA8 (sA (1 : Pm n))] := by
    apply vs_l01Strands
    simp only [bs_l01Strands, h, h7, Option.bind_some, getTV_here, getTV_next]
  have h3 : R is_l01Perm [tI (n : Int), tLI []] = some [tA8 (sA (1 : Pm n))] := by
    apply vs_l01Perm
    simp only [bs_l01Perm, h2, h', Option.bind_some, getTV_here, getTV_next]
  apply vs_l07Fine
  simp only [bs_l07Fine, h3, Option.bind_some, getTV_here]
/-! ### the loop -/
theorem bne_ll (a b : List Int) : (a != b) = !decide (a = b) := by rw [Bool.eq_iff_iff]; simp
theorem dual_loop (n : Nat) (hn1 : 1 ≤ n) (hn : n ≤ 8) (L : List (List Int)) (hL : ∀ x ∈ L, B8 x) (hl : L.length ≤ 1000000) (x0 x1 : Int) : ∀ i, i ≤ L.length → (∀ j (hj : j < L.length), j + 1 = i → isPt L[j] (n : Int) = true) →
    ∃ r : List TV, R is_l07Dual_5 [tI x0, tI x1, tLA8 L, tI (n : Int), tI (i : Int)] = some r ∧ R ii_IsDual_5 [tI x0, tI x1, tLA8 L, tI (n : Int), tI (L.length : Int), tI (i : Int)] = some r ∧ ((r = [tI 0] ∧ ∀ j (hj : j < L.length), i ≤ j → isPt L[j] (n : Int) = true) ∨ r = [tI 1, tB false]) := by
  refine up_loop _ (fun _ => ?_) (fun i hi ih hpre => ?_)
  · refine ⟨[tI 0], ?_, ?_, .inl ⟨rfl, fun j hj h => by omega⟩⟩
    · apply vs_l07Dual_5
      have h1 : ¬ ((L.length : Int) < (L.length : Int)) := by omega
      simp only [bs_l07Dual_5, decide_eq_false h1, cond_false]
    · apply vi_IsDual_5
      have h1 : ¬ ((L.length : Int) < (L.length : Int)) := by omega
      simp only [bi_IsDual_5, decide_eq_false h1, cond_false]
  · have v1 : decide ((i : Int) < (L.length : Int)) = true := decide_eq_true (by omega)
    have v2 : decide ((0 : Int) ≤ (i : Int)) = true := decide_eq_true (by omega)
    have w : wi64 ((i : Int) + 1) = ((i + 1 : Nat) : Int) := by rw [wrap_i64] <;> omega
    have gd : List.getD L i (List.replicate 8 0) = L[i] := by simp [List.getD_eq_getElem?_getD, List.getElem?_eq_getElem hi]
    have hB := hL L[i] (List.getElem_mem hi)
    by_cases hp : isPt L[i] (n : Int) = true
    · by_cases h1 : L[i] = sA (1 : Pm n)
      · refine ⟨[tI 1, tB false], ?_, ?_, .inr rfl⟩
        · apply vs_l07Dual_5
          simp only [bs_l07Dual_5, v1, v2, cond_true, Bool.and_true, Int.toNat_natCast, gd, c_l07Is _ hB, hp, Option.bind_some, getTV_here, Bool.not_true, cond_false, c_l07Fine n hn, beq_ll, decide_eq_true h1]
        · apply vi_IsDual_5
          simp only [bi_IsDual_5, v1, v2, cond_true, Bool.and_true, Int.toNat_natCast, gd, c_IsPart _ hB, hp, Option.bind_some, getTV_here, Bool.not_true, cond_false, c_finePart n hn, beq_ll, decide_eq_true h1]
      · by_cases h2 : L[i] = sA (whP n)
        · refine ⟨[tI 1, tB false], ?_, ?_, .inr rfl⟩
          · apply vs_l07Dual_5
            simp only [bs_l07Dual_5, v1, v2, cond_true, Bool.and_true, Int.toNat_natCast, gd, c_l07Is _ hB, hp, Option.bind_some, getTV_here, Bool.not_true, cond_false, c_l07Fine n hn, beq_ll, decide_eq_false h1, c_l07Whole n hn, decide_eq_true h2]
          · apply vi_IsDual_5
            simp only [bi_IsDual_5, v1, v2, cond_true, Bool.and_true, Int.toNat_natCast, gd, c_IsPart _ hB, hp, Option.bind_some, getTV_here, Bool.not_true, cond_false, c_finePart n hn, beq_ll, decide_eq_false h1, c_wholePart n hn, decide_eq_true h2]
        · obtain ⟨r, r1, r2, r3⟩ := ih (fun j hj hji => by
            have : j = i := by omega
            subst this
            exact hp)
          have r3 : (r = [tI 0] ∧ ∀ j (hj : j < L.length), i ≤ j → isPt L[j] (n : Int) = true) ∨ r = [tI 1, tB false] := by
            rcases r3 with ⟨q1, q2⟩ | q1
            · refine .inl ⟨q1, fun j hj hij => ?_⟩
              by_cases e : j = i
              · subst e; exact hp
              · exact q2 j hj (by omega)
            · exact .inr q1
          by_cases h0 : i = 0
          · have v3 : decide ((0 : Int) < (i : Int)) = false := decide_eq_false (by omega)
            refine ⟨r, ?_, ?_, r3⟩
            · apply vs_l07Dual_5
              simp only [bs_l07Dual_5, v1, v2, v3, cond_true, Bool.and_true, Int.toNat_natCast, gd, c_l07Is _ hB, hp, Option.bind_some, getTV_here, Bool.not_true, cond_false, c_l07Fine n hn, beq_ll, decide_eq_false h1, c_l07Whole n hn, decide_eq_false h2, w, r1]
            · apply vi_IsDual_5
              simp only [bi_IsDual_5, v1, v2, v3, cond_true, Bool.and_true, Int.toNat_natCast, gd, c_IsPart _ hB, hp, Option.bind_some, getTV_here, Bool.not_true, cond_false, c_finePart n hn, beq_ll, decide_eq_false h1, c_wholePart n hn, decide_eq_false h2, w, r2]
          · obtain ⟨j, rfl⟩ : ∃ j, i = j + 1 := ⟨i - 1, by omega⟩
            have hj : j < L.length := by omega
            have v3 : decide ((0 : Int) < ((j + 1 : Nat) : Int)) = true := decide_eq_true (by omega)
            have w0 : wi64 (((j + 1 : Nat) : Int) - 1) = (j : Int) := by rw [wrap_i64] <;> omega
            have v4 : decide ((0 : Int) ≤ (j : Int)) = true := decide_eq_true (by omega)
            have v5 : decide ((j : Int) < (L.length : Int)) = true := decide_eq_true (by omega)
            have gd' : List.getD L j (List.replicate 8 0) = L[j] := by simp [List.getD_eq_getElem?_getD, List.getElem?_eq_getElem hj]
            have hpj := hpre j hj rfl
            obtain ⟨s, hs⟩ : ∃ s : Pm n, L[j] = sA s := by
              rcases isPt_cases L[j] (n : Int) with h | ⟨_, m, _, s, _, _, hm, _, _, _, hs⟩
              · rw [h] at hpj; exact Bool.noConfusion hpj
              · have : n = m := by omega
                subst this
                exact ⟨s, hs⟩
            obtain ⟨t, ht⟩ : ∃ t : Pm n, L[j + 1] = sA t := by
              rcases isPt_cases L[j + 1] (n : Int) with h | ⟨_, m, _, s, _, _, hm, _, _, _, hs⟩
              · rw [h] at hp; exact Bool.noConfusion hp
              · have : n = m := by omega
                subst this
                exact ⟨s, hs⟩
            obtain ⟨x, hx8, m1, m2⟩ := meet_ex n hn1 hn (s⁻¹ * whP n) t
            have e1 : R is_l07Complement [tA8 L[j], tI (n : Int)] = some [tA8 (sA (s⁻¹ * whP n))] := by rw [hs]; exact c_l07Complement n hn s
            have e2 : R ii_complementPart [tA8 L[j], tI (n : Int)] = some [tA8 (sA (s⁻¹ * whP n))] := by rw [hs]; exact c_complementPart n hn s
            rw [← ht] at m1 m2
            by_cases h3 : x = sA (1 : Pm n)
            · refine ⟨r, ?_, ?_, r3⟩
              · apply vs_l07Dual_5
                simp only [bs_l07Dual_5, v1, v2, v3, v4, v5, w0, cond_true, Bool.and_true, Int.toNat_natCast, gd, gd', c_l07Is _ hB, hp, Option.bind_some, getTV_here, Bool.not_true, cond_false, c_l07Fine n hn, beq_ll, bne_ll, decide_eq_false h1, c_l07Whole n hn, decide_eq_false h2, e1, m1, decide_eq_true h3, w, r1]
              · apply vi_IsDual_5
                simp only [bi_IsDual_5, v1, v2, v3, v4, v5, w0, cond_true, Bool.and_true, Int.toNat_natCast, gd, gd', c_IsPart _ hB, hp, Option.bind_some, getTV_here, Bool.not_true, cond_false, c_finePart n hn, beq_ll, bne_ll, decide_eq_false h1, c_wholePart n hn, decide_eq_false h2, e2, m2, decide_eq_true h3, w, r2]
            · refine ⟨[tI 1, tB false], ?_, ?_, .inr rfl⟩
              · apply vs_l07Dual_5
                simp only [bs_l07Dual_5, v1, v2, v3, v4, v5, w0, cond_true, Bool.and_true, Int.toNat_natCast, gd, gd', c_l07Is _ hB, hp, Option.bind_some, getTV_here, Bool.not_true, Bool.not_false, cond_false, c_l07Fine n hn, beq_ll, bne_ll, decide_eq_false h1, c_l07Whole n hn, decide_eq_false h2, e1, m1, decide_eq_false h3]
              · apply vi_IsDual_5
                simp only [bi_IsDual_5, v1, v2, v3, v4, v5, w0, cond_true, Bool.and_true, Int.toNat_natCast, gd, gd', c_IsPart _ hB, hp, Option.bind_some, getTV_here, Bool.not_true, Bool.not_false, cond_false, c_finePart n hn, beq_ll, bne_ll, decide_eq_false h1, c_wholePart n hn, decide_eq_false h2, e2, m2, decide_eq_false h3]
    · have hp' : isPt L[i] (n : Int) = false := by simpa using hp
      refine ⟨[tI 1, tB false], ?_, ?_, .inr rfl⟩
      · apply vs_l07Dual_5
        simp only [bs_l07Dual_5, v1, v2, cond_true, Bool.and_true, Int.toNat_natCast, gd, c_l07Is _ hB, hp', Option.bind_some, getTV_here, Bool.not_false]
      · apply vi_IsDual_5
        simp only [bi_IsDual_5, v1, v2, cond_true, Bool.and_true, Int.toNat_natCast, gd, c_IsPart _ hB, hp', Option.bind_some, getTV_here, Bool.not_false]
theorem dual_strong (a : Int × Int × List (List Int)) (hL : ∀ x ∈ a.2.2, B8 x) (hl : a.2.2.length ≤ 1048576) : ∃ b : Bool, R is_l07Dual [tPIPILA8 a] = some [tB b] ∧ R ii_IsDual [tPIPILA8 a] = some [tB b] ∧ (b = true → 1 ≤ a.1 ∧ a.1 ≤ 8 ∧ -400 ≤ a.2.1 ∧ a.2.1 ≤ 400 ∧ a.2.2.length ≤ 400 ∧ ∀ x ∈ a.2.2, isPt x a.1 = true) := by
  have hct : R ii_isCount [tI a.1] = some [tB (decide (1 ≤ a.1) && decide (a.1 ≤ 8))] := by
    apply vi_isCount
    simp only [bi_isCount, c_within, Option.bind_some, getTV_here]
  by_cases h1 : (decide (1 ≤ a.1) && decide (a.1 ≤ 8)) = true
  · by_cases h2 : (decide (-400 ≤ a.2.1) && decide (a.2.1 ≤ 400)) = true
    · by_cases h3 : (400 : Int) < (a.2.2.length : Int)
      · refine ⟨false, ?_, ?_, fun h => Bool.noConfusion h⟩
        · apply vs_l07Dual
          simp only [bs_l07Dual, c_l01In, h1, h2, Option.bind_some, getTV_here, Bool.not_true, cond_false, decide_eq_true h3, cond_true]
        · apply vi_IsDual
          simp only [bi_IsDual, hct, c_within, h1, h2, Option.bind_some, getTV_here, Bool.not_true, cond_false, decide_eq_true h3, cond_true]
      · have hb : 1 ≤ a.1 ∧ a.1 ≤ 8 := by simpa using h1
        obtain ⟨n, hn⟩ : ∃ n : Nat, a.1 = n := ⟨a.1.toNat, by omega⟩
        obtain ⟨r, r1, r2, r3⟩ := dual_loop n (by omega) (by omega) a.2.2 hL (by omega) a.1 a.2.1 0 (Nat.zero_le _) (fun j _ h => by omega)
        rw [← hn] at r1 r2
        simp only [Int.natCast_zero] at r1 r2
        have c0 : ((0 : Int) == 0) = true := rfl
        have c1 : ((1 : Int) == 0) = false := rfl
        have go : ∃ b : Bool, (b = true → ∀ x ∈ a.2.2, isPt x a.1 = true) ∧ ((if a.1 = 1 ∧ a.2.1 ≠ 0 then false else true) = true → (R is_l07Dual [tPIPILA8 a] = some [tB b] ∧ R ii_IsDual [tPIPILA8 a] = some [tB b])) := by
          rcases r3 with ⟨rfl, hall⟩ | rfl
          · refine ⟨true, fun _ x hx => ?_, fun hc => ⟨?_, ?_⟩⟩
            · obtain ⟨j, hj, rfl⟩ := List.mem_iff_getElem.1 hx
              rw [hn]
              exact hall j hj (Nat.zero_le _)
            · apply vs_l07Dual
              by_cases hx : a.1 = 1
              · have hy : a.2.1 = 0 := by
                  apply Classical.byContradiction
                  intro hne
                  rw [if_pos ⟨hx, hne⟩] at hc
                  exact Bool.noConfusion hc
                have hx' : a.1 < 2 := by omega
                simp only [bs_l07Dual, c_l01In, h1, h2, Option.bind_some, getTV_here, Bool.not_true, cond_false, decide_eq_false h3, decide_eq_true hx', cond_true, bne_dec, decide_eq_true hy, r1, c0]
              · have hx' : ¬ a.1 < 2 := by omega
                simp only [bs_l07Dual, c_l01In, h1, h2, Option.bind_some, getTV_here, Bool.not_true, cond_false, decide_eq_false h3, decide_eq_false hx', cond_true, r1, c0]
            · apply vi_IsDual
              by_cases hx : a.1 = 1
              · have hy : a.2.1 = 0 := by
                  apply Classical.byContradiction
                  intro hne
                  rw [if_pos ⟨hx, hne⟩] at hc
                  exact Bool.noConfusion hc
                simp only [bi_IsDual, hct, c_within, h1, h2, Option.bind_some, getTV_here, Bool.not_true, cond_false, decide_eq_false h3, beq_dec a.1, decide_eq_true hx, cond_true, bne_dec, decide_eq_true hy, r2, c0]
              · simp only [bi_IsDual, hct, c_within, h1, h2, Option.bind_some, getTV_here, Bool.not_true, cond_false, decide_eq_false h3, beq_dec a.1, decide_eq_false hx, cond_true, r2, c0]
          · refine ⟨false, fun h => Bool.noConfusion h, fun hc => ⟨?_, ?_⟩⟩
            · apply vs_l07Dual
              by_cases hx : a.1 = 1
              · have hy : a.2.1 = 0 := by
                  apply Classical.byContradiction
                  intro hne
                  rw [if_pos ⟨hx, hne⟩] at hc
                  exact Bool.noConfusion hc
                have hx' : a.1 < 2 := by omega
                simp only [bs_l07Dual, c_l01In, h1, h2, Option.bind_some, getTV_here, getTV_next, Bool.not_true, cond_false, decide_eq_false h3, decide_eq_true hx', cond_true, bne_dec, decide_eq_true hy, r1, c1]
              · have hx' : ¬ a.1 < 2 := by omega
                simp only [bs_l07Dual, c_l01In, h1, h2, Option.bind_some, getTV_here, getTV_next, Bool.not_true, cond_false, decide_eq_false h3, decide_eq_false hx', cond_true, r1, c1]
            · apply vi_IsDual
              by_cases hx : a.1 = 1
              · have hy : a.2.1 = 0 := by
                  apply Classical.byContradiction
                  intro hne
                  rw [if_pos ⟨hx, hne⟩] at hc
                  exact Bool.noConfusion hc
                simp only [bi_IsDual, hct, c_within, h1, h2, Option.bind_some, getTV_here, getTV_next, Bool.not_true, cond_false, decide_eq_false h3, beq_dec a.1, decide_eq_true hx, cond_true, bne_dec, decide_eq_true hy, r2, c1]
              · simp only [bi_IsDual, hct, c_within, h1, h2, Option.bind_some, getTV_here, getTV_next, Bool.not_true, cond_false, decide_eq_false h3, beq_dec a.1, decide_eq_false hx, cond_true, r2, c1]
        by_cases hc : a.1 = 1 ∧ a.2.1 ≠ 0
        · have hx' : a.1 < 2 := by omega
          refine ⟨false, ?_, ?_, fun h => Bool.noConfusion h⟩
          · apply vs_l07Dual
            simp only [bs_l07Dual, c_l01In, h1, h2, Option.bind_some, getTV_here, Bool.not_true, Bool.not_false, cond_false, decide_eq_false h3, decide_eq_true hx', cond_true, bne_dec, decide_eq_false hc.2]
          · apply vi_IsDual
            simp only [bi_IsDual, hct, c_within, h1, h2, Option.bind_some, getTV_here, Bool.not_true, Bool.not_false, cond_false, decide_eq_false h3, beq_dec a.1, decide_eq_true hc.1, cond_true, bne_dec, decide_eq_false hc.2]
        · obtain ⟨b, hb0, hb1⟩ := go
          obtain ⟨k1, k2⟩ := hb1 (if_neg hc)
          have hp : -400 ≤ a.2.1 ∧ a.2.1 ≤ 400 := by simpa using h2
          exact ⟨b, k1, k2, fun e => ⟨hb.1, hb.2, hp.1, hp.2, by omega, hb0 e⟩⟩
    · have h2' : (decide (-400 ≤ a.2.1) && decide (a.2.1 ≤ 400)) = false := by simpa using h2
      refine ⟨false, ?_, ?_, fun h => Bool.noConfusion h⟩
      · apply vs_l07Dual
        simp only [bs_l07Dual, c_l01In, h1, h2', Option.bind_some, getTV_here, Bool.not_true, Bool.not_false, cond_false, cond_true]
      · apply vi_IsDual
        simp only [bi_IsDual, hct, c_within, h1, h2', Option.bind_some, getTV_here, Bool.not_true, Bool.not_false, cond_false, cond_true]
  · have h1' : (decide (1 ≤ a.1) && decide (a.1 ≤ 8)) = false := by simpa using h1
    refine ⟨false, ?_, ?_, fun h => Bool.noConfusion h⟩
    · apply vs_l07Dual
      simp only [bs_l07Dual, c_l01In, h1', Option.bind_some, getTV_here, Bool.not_false, cond_true]
    · apply vi_IsDual
      simp only [bi_IsDual, hct, h1', Option.bind_some, getTV_here, Bool.not_false, cond_true]
theorem dual_both (a : Int × Int × List (List Int)) (hL : ∀ x ∈ a.2.2, B8 x) (hl : a.2.2.length ≤ 1048576) : ∃ b : Bool, R is_IsDual [tPIPILA8 a] = some [tB b] ∧ R ii_IsDual [tPIPILA8 a] = some [tB b] := by
  obtain ⟨b, h1, h2, _⟩ := dual_strong a hL hl
  refine ⟨b, ?_, h2⟩
  apply vs_IsDual
  have h1' : R is_l07Dual [tPIPILA8 (a.1, a.2.1, a.2.2)] = some [tB b] := h1
  simp only [bs_IsDual, h1', Option.bind_some, getTV_here]
theorem law_FnExactIsDual (a : Int × Int × List (List Int)) (h : Fit (.pair (.int .i64) (.pair (.int .i64) (.slice (.arr .u8 8)))) a) : R iw_FnExactIsDual [tPIPILA8 a] = some [tB true] := by
  obtain ⟨hl, h8, hv⟩ := fit_rows h.2.2
  have hw : ∀ x ∈ a.2.2, B8 x := fun x hx => ⟨h8 x hx, hv x hx⟩
  apply vw_FnExactIsDual
  by_cases hb : (1048576 : Int) < a.2.2.length
  · simp [bw_FnExactIsDual, c_szDual a 1048576 hl (by omega) (by omega), hb]
  · have hs : a.2.2.length < 1000000000 := by omega
    have e : ¬ (1048576 - (a.2.2.length : Int) < 0) := by omega
    obtain ⟨b, hss, hii⟩ := dual_both a hw (by omega)
    simp [bw_FnExactIsDual, c_szDual a 1048576 hl (by omega) (by omega), hb, e, c_toDual a h8 hs, hss, hii, c_eqDual a _ h8 h8 hs]
end Go.Ev.Ytadjhggdddbicaa
