/- Super summit sets: both packages find the same closure, or both give up. -/
import Derived.Test.YtolpnaiincngjaaGreatMu2
import Derived.Test.YtolpnaiincngjaaGreatMu3
import Derived.Test.YtolpnaiincngjaaGreatMnC
import Derived.Test.YtolpnaiincngjaaGreatMnG
set_option linter.unusedVariables false
set_option linter.unusedSimpArgs false
namespace Go.Ev.YtolpnaiincngjaaGreat
open Go.Ev Go.Gar
theorem enc_inj {n : Nat} (hn : n ≤ 8) {v w : Nm n} (h : enc v = enc w) : v = w := by
  obtain ⟨v1, v2⟩ := v
  obtain ⟨w1, w2⟩ := w
  simp only [enc, Prod.mk.injEq, true_and] at h
  obtain ⟨rfl, h2⟩ := h
  rw [sL_inj hn h2]
theorem enc_mem {n : Nat} (hn : n ≤ 8) {L : List (Nm n)} {v : Nm n} : enc v ∈ L.map enc ↔ v ∈ L := by
  constructor
  · intro h
    obtain ⟨w, hw, e⟩ := List.mem_map.1 h
    rw [← enc_inj hn e]; exact hw
  · exact fun h => List.mem_map_of_mem h
theorem conj1_one {n : Nat} (h2 : 2 ≤ n) {v : Nm n} (hP : (Pm.lat n).Proper v.2) : conj1 v 1 = v := by
  have e1 : Pm.half n * (1 : Pm n)⁻¹ = Pm.half n := by
    apply Pm.ext
    intro x
    rfl
  have e2 : t1 v.1 (Pm.half n) = Pm.half n := by
    unfold t1
    split
    · rfl
    · apply Pm.ext
      intro x
      show Pm.hf n (Pm.hf n (Pm.hf n x)) = Pm.hf n x
      rw [Pm.hf_hf]
  have e3 : less1 v 1 = v := by
    unfold less1
    rw [e1, e2]
    have := mk_app h2 (v.1 - 1) [Pm.half n] v.2
    rw [List.singleton_append] at this
    rw [this, mk_D h2]
    simp only [List.nil_append]
    rw [mk_proper h2 _ hP]
    show (v.1 - 1 + 1, v.2) = v
    rw [Int.sub_add_cancel]
  unfold conj1
  rw [e3, mk_one h2 v.1 hP]
/-- Of the first one's kind. -/
structure SS {n : Nat} (first x : Nm n) : Prop where
  P : (Pm.lat n).Proper x.2
  pow : x.1 = first.1
  len : x.2.length = first.2.length
theorem SS.ok {n : Nat} (h2 : 2 ≤ n) {first x : Nm n} (h : SS first x) {b : Nat} (hf : OkN first b) : OkN x b := by
  have a1 := hf.len
  have a2 := hf.lo
  have a3 := hf.hi
  have b1 := h.pow
  have b2 := h.len
  exact ⟨h.P, by omega, by omega, by omega, fun e => by omega⟩
theorem SS.cls {n : Nat} {first x : Nm n} (h : SS first x) : Cls (n : Int) first.1 first.2.length (enc x) :=
  ⟨rfl, h.pow, by simp only [enc, sL_len]; exact h.len, sL_8 _⟩
theorem SS.conj {n : Nat} (h2 : 2 ≤ n) {first x : Nm n} (h : SS first x) {b : Nat} (hf : OkN first b) {s : Pm n} (e1 : (conj1 x s).1 = first.1) (e2 : (conj1 x s).2.length = first.2.length) : SS first (conj1 x s) :=
  ⟨(conj1_ok h2 (h.ok h2 hf) s).P, e1, e2⟩
open Classical in
noncomputable def addG {n : Nat} (first x : Nm n) : List (Pm n) → List (Nm n) → Option (List (Nm n))
  | [], L => some L
  | s :: r, L => if (conj1 x s).1 = first.1 ∧ (conj1 x s).2.length = first.2.length ∧ conj1 x s ∉ L then (if L.length = 120 then none else addG first x r (L ++ [conj1 x s])) else addG first x r L
noncomputable def bfsG {n : Nat} (first : Nm n) (S : List (Pm n)) : Nat → Nat → List (Nm n) → Option (List (Nm n))
  | 0, _, L => some L
  | f + 1, a, L => match L[a]? with
    | none => some L
    | some x => (addG first x S L).bind fun L' => bfsG first S f (a + 1) L'
inductive Reach {n : Nat} (first : Nm n) : Nm n → Prop
  | base : Reach first first
  | step {x : Nm n} {s : Pm n} : Reach first x → (conj1 x s).1 = first.1 → (conj1 x s).2.length = first.2.length → Reach first (conj1 x s)
/-- What holds of the list all along. -/
structure Good {n : Nat} (first : Nm n) (L : List (Nm n)) : Prop where
  nod : L.Nodup
  reach : ∀ y ∈ L, Reach first y
  ss : ∀ y ∈ L, SS first y
  len : L.length ≤ 120
  head : L[0]? = some first
theorem Good.add {n : Nat} (h2 : 2 ≤ n) {first x : Nm n} {b : Nat} (hf : OkN first b) {L : List (Nm n)} (h : Good first L) (hx : x ∈ L) {s : Pm n} (e1 : (conj1 x s).1 = first.1) (e2 : (conj1 x s).2.length = first.2.length) (e3 : conj1 x s ∉ L) (hl : L.length ≠ 120) : Good first (L ++ [conj1 x s]) := by
  refine ⟨?_, fun y hy => ?_, fun y hy => ?_, ?_, ?_⟩
  · rw [List.nodup_append]
    refine ⟨h.nod, by simp, fun a ha b hb => ?_⟩
    simp only [List.mem_singleton] at hb
    subst hb
    exact fun e => e3 (e ▸ ha)
  · rcases List.mem_append.1 hy with hy | hy
    · exact h.reach y hy
    · simp only [List.mem_singleton] at hy
      subst hy
      exact .step (h.reach x hx) e1 e2
  · rcases List.mem_append.1 hy with hy | hy
    · exact h.ss y hy
    · simp only [List.mem_singleton] at hy
      subst hy
      exact (h.ss x hx).conj h2 hf e1 e2
  · have := h.len
    simp only [List.length_append, List.length_cons, List.length_nil]
    omega
  · rw [List.getElem?_append_left]
    · exact h.head
    · have := List.getElem?_eq_some_iff.1 h.head
      exact this.1
theorem addG_some {n : Nat} (h2 : 2 ≤ n) {first x : Nm n} {b : Nat} (hf : OkN first b) : ∀ (r : List (Pm n)) (L L' : List (Nm n)), Good first L → x ∈ L → addG first x r L = some L' →
    Good first L' ∧ (∃ T, L' = L ++ T) ∧ ∀ s ∈ r, (conj1 x s).1 = first.1 → (conj1 x s).2.length = first.2.length → conj1 x s ∈ L'
  | [], L, L', hL, hx, h => by
    simp only [addG, Option.some.injEq] at h
    subst h
    exact ⟨hL, ⟨[], by simp⟩, fun s hs => by simp at hs⟩
  | s :: r, L, L', hL, hx, h => by
    rw [addG] at h
    split at h
    · rename_i hc
      obtain ⟨c1, c2, c3⟩ := hc
      split at h
      · simp at h
      · rename_i hl
        obtain ⟨g1, ⟨T, g2⟩, g3⟩ := addG_some h2 hf r _ L' (hL.add h2 hf hx c1 c2 c3 hl) (List.mem_append_left _ hx) h
        refine ⟨g1, ⟨[conj1 x s] ++ T, by rw [g2, List.append_assoc]⟩, fun s' hs' e1 e2 => ?_⟩
        rcases List.mem_cons.1 hs' with rfl | hs'
        · rw [g2]; simp
        · exact g3 s' hs' e1 e2
    · rename_i hc
      obtain ⟨g1, ⟨T, g2⟩, g3⟩ := addG_some h2 hf r L L' hL hx h
      refine ⟨g1, ⟨T, g2⟩, fun s' hs' e1 e2 => ?_⟩
      rcases List.mem_cons.1 hs' with rfl | hs'
      · have : conj1 x s' ∈ L := Classical.byContradiction fun hn => hc ⟨e1, e2, hn⟩
        rw [g2]; exact List.mem_append_left _ this
      · exact g3 s' hs' e1 e2
/-- Too many. -/
def Many {n : Nat} (first : Nm n) : Prop := ∃ M : List (Nm n), M.Nodup ∧ M.length = 121 ∧ ∀ y ∈ M, Reach first y
theorem addG_none {n : Nat} (h2 : 2 ≤ n) {first x : Nm n} {b : Nat} (hf : OkN first b) : ∀ (r : List (Pm n)) (L : List (Nm n)), Good first L → x ∈ L → addG first x r L = none → Many first
  | [], L, hL, hx, h => by simp [addG] at h
  | s :: r, L, hL, hx, h => by
    rw [addG] at h
    split at h
    · rename_i hc
      obtain ⟨c1, c2, c3⟩ := hc
      split at h
      · rename_i hl
        refine ⟨L ++ [conj1 x s], ?_, by simp [hl], fun y hy => ?_⟩
        · rw [List.nodup_append]
          refine ⟨hL.nod, by simp, fun a ha b hb => ?_⟩
          simp only [List.mem_singleton] at hb
          subst hb
          exact fun e => c3 (e ▸ ha)
        · rcases List.mem_append.1 hy with hy | hy
          · exact hL.reach y hy
          · simp only [List.mem_singleton] at hy
            subst hy
            exact .step (hL.reach x hx) c1 c2
      · rename_i hl
        exact addG_none h2 hf r _ (hL.add h2 hf hx c1 c2 c3 hl) (List.mem_append_left _ hx) h
    · exact addG_none h2 hf r L hL hx h
/-- Closed so far. -/
def Closed {n : Nat} (first : Nm n) (a : Nat) (L : List (Nm n)) : Prop := ∀ i x, i < a → L[i]? = some x → ∀ s : Pm n, (conj1 x s).1 = first.1 → (conj1 x s).2.length = first.2.length → conj1 x s ∈ L
theorem bfsG_some {n : Nat} (h2 : 2 ≤ n) {first : Nm n} {b : Nat} (hf : OkN first b) {S : List (Pm n)} (hS : ∀ s : Pm n, s ≠ 1 → s ∈ S) : ∀ (f a : Nat) (L L' : List (Nm n)), Good first L → Closed first a L → 121 ≤ f + a → a ≤ L.length → bfsG first S f a L = some L' →
    Good first L' ∧ ∀ y, Reach first y → y ∈ L'
  | 0, a, L, L', hL, hC, hfa, ha, h => by
    have := hL.len
    omega
  | f + 1, a, L, L', hL, hC, hfa, ha, h => by
    rw [bfsG] at h
    cases hx : L[a]? with
    | none =>
      rw [hx] at h
      simp only [Option.some.injEq] at h
      subst h
      refine ⟨hL, fun y hy => ?_⟩
      have hal : L.length ≤ a := by simpa using hx
      induction hy with
      | base => exact List.mem_of_getElem? hL.head
      | step hr e1 e2 ih =>
        obtain ⟨i, hi⟩ := List.mem_iff_getElem?.1 ih
        have := (List.getElem?_eq_some_iff.1 hi).1
        exact hC i _ (by omega) hi _ e1 e2
    | some x =>
      rw [hx] at h
      simp only at h
      cases hg : addG first x S L with
      | none => rw [hg] at h; simp at h
      | some L1 =>
        rw [hg] at h
        simp only [Option.bind_some] at h
        have hxm : x ∈ L := List.mem_of_getElem? hx
        have hal := (List.getElem?_eq_some_iff.1 hx).1
        obtain ⟨g1, ⟨T, g2⟩, g3⟩ := addG_some h2 hf S L L1 hL hxm hg
        refine bfsG_some h2 hf hS f (a + 1) L1 L' g1 (fun i z hi hz s e1 e2 => ?_) (by omega) (by rw [g2]; simp; omega) h
        by_cases hia : i < a
        · rw [g2, List.getElem?_append_left (by omega)] at hz
          rw [g2]
          exact List.mem_append_left _ (hC i z hia hz s e1 e2)
        · have e : i = a := by omega
          subst e
          rw [g2, List.getElem?_append_left (by omega), hx] at hz
          simp only [Option.some.injEq] at hz
          subst hz
          by_cases hs : s = 1
          · subst hs
            rw [conj1_one h2 (hL.ss x hxm).P, g2]
            exact List.mem_append_left _ hxm
          · exact g3 s (hS s hs) e1 e2
theorem bfsG_none {n : Nat} (h2 : 2 ≤ n) {first : Nm n} {b : Nat} (hf : OkN first b) {S : List (Pm n)} : ∀ (f a : Nat) (L : List (Nm n)), Good first L → bfsG first S f a L = none → Many first
  | 0, a, L, hL, h => by simp [bfsG] at h
  | f + 1, a, L, hL, h => by
    rw [bfsG] at h
    cases hx : L[a]? with
    | none => rw [hx] at h; simp at h
    | some x =>
      rw [hx] at h
      simp only at h
      have hxm : x ∈ L := List.mem_of_getElem? hx
      cases hg : addG first x S L with
      | none => exact addG_none h2 hf S L hL hxm hg
      | some L1 =>
        rw [hg] at h
        simp only [Option.bind_some] at h
        exact bfsG_none h2 hf f (a + 1) L1 (addG_some h2 hf S L L1 hL hxm hg).1 h
theorem good_first {n : Nat} {first : Nm n} {b : Nat} (hf : OkN first b) : Good first [first] :=
  ⟨by simp, fun y hy => by simp at hy; subst hy; exact .base, fun y hy => by simp at hy; subst hy; exact ⟨hf.P, rfl, rfl⟩, by simp, rfl⟩
/-- Two searches come to the same. -/
theorem bfsG_same {n : Nat} (h2 : 2 ≤ n) {first : Nm n} {b : Nat} (hf : OkN first b) {S S' : List (Pm n)} (hS : ∀ s : Pm n, s ≠ 1 → s ∈ S) (hS' : ∀ s : Pm n, s ≠ 1 → s ∈ S') :
    (bfsG first S 121 0 [first] = none ∧ bfsG first S' 121 0 [first] = none) ∨ ∃ A B, bfsG first S 121 0 [first] = some A ∧ bfsG first S' 121 0 [first] = some B ∧ Good first A ∧ Good first B ∧ A.Perm B ∧ ∀ y, Reach first y ↔ y ∈ A := by
  have hC : Closed first 0 [first] := fun i x hi => by omega
  have notboth : ∀ {T : List (Pm n)} {A}, (∀ s : Pm n, s ≠ 1 → s ∈ T) → bfsG first T 121 0 [first] = some A → ¬ Many first := by
    rintro T A hT hA ⟨M, m1, m2, m3⟩
    obtain ⟨g1, g2⟩ := bfsG_some h2 hf hT 121 0 _ A (good_first hf) hC (by omega) (by simp) hA
    have := m1.length_le_of_subset (fun y hy => g2 y (m3 y hy))
    have := g1.len
    omega
  cases hA : bfsG first S 121 0 [first] with
  | none =>
    left
    refine ⟨rfl, ?_⟩
    cases hB : bfsG first S' 121 0 [first] with
    | none => rfl
    | some B => exact absurd (bfsG_none h2 hf 121 0 _ (good_first hf) hA) (notboth hS' hB)
  | some A =>
    cases hB : bfsG first S' 121 0 [first] with
    | none => exact absurd (bfsG_none h2 hf 121 0 _ (good_first hf) hB) (notboth hS hA)
    | some B =>
      right
      obtain ⟨g1, g2⟩ := bfsG_some h2 hf hS 121 0 _ A (good_first hf) hC (by omega) (by simp) hA
      obtain ⟨g3, g4⟩ := bfsG_some h2 hf hS' 121 0 _ B (good_first hf) hC (by omega) (by simp) hB
      exact ⟨A, B, rfl, rfl, g1, g3, (List.perm_ext_iff_of_nodup g1.nod g3.nod).2 fun y => ⟨fun h => g4 y (g1.reach y h), fun h => g2 y (g3.reach y h)⟩, fun y => ⟨g2 y, g1.reach y⟩⟩

theorem map_getV {n : Nat} {L : List (Nm n)} {i : Nat} {x : Nm n} (h : L[i]? = some x) : List.getD (L.map enc) i ((0, (0, [])) : VN) = enc x := by
  rw [List.getD_eq_getElem?_getD, List.getElem?_map, h]; rfl
theorem enc_2 {n : Nat} (y : Nm n) : (enc y).2.1 = y.1 ∧ (enc y).2.2.length = y.2.length := ⟨rfl, by simp [enc, sL_len]⟩
open Classical in
theorem c_superSummit_7 (n : Nat) (h2 : 2 ≤ n) (hn : n ≤ 8) (first x : Nm n) (hf : OkN first 1000) (S : List (Pm n)) (hS : S.length < 1000000) (a : Nat) : ∀ (m k : Nat), k + m = S.length → ∀ L : List (Nm n), Good first L → L[a]? = some x →
    R ii_superSummit_7 [tLPIPILA8 (L.map enc), tLA8 (sL S), tI (a : Int), tI (S.length : Int), tI (k : Int)] = some (match addG first x (S.drop k) L with
      | some L' => [tI 0, tLPIPILA8 (L'.map enc), tLA8 (sL S), tI (a : Int)]
      | none => [tI 1, tLPIPILA8 [], tB false]) := by
  intro m
  induction m with
  | zero =>
    intro k hk L hL hx
    apply vi_superSummit_7
    rw [List.drop_of_length_le (by omega)]
    have : ¬ ((k : Int) < (S.length : Int)) := by omega
    simp only [bi_superSummit_7, decide_eq_false this, cond_false, addG]
  | succ m ih =>
    intro k hk L hL hx
    have hkS : k < S.length := by omega
    have ha := (List.getElem?_eq_some_iff.1 hx).1
    have hxm : x ∈ L := List.mem_of_getElem? hx
    have hll := hL.len
    have hL0 : 0 < L.length := (List.getElem?_eq_some_iff.1 hL.head).1
    apply vi_superSummit_7
    rw [List.drop_eq_getElem_cons hkS, addG]
    have hok : OkN x 100000 := ((hL.ss x hxm).ok h2 hf).mono (by omega)
    have hcj := c_conjugate n h2 hn x hok S[k]
    have hyk := conj1_ok h2 ((hL.ss x hxm).ok h2 hf) S[k]
    have w : wi64 ((k : Int) + 1) = ((k + 1 : Nat) : Int) := by rw [wrap_i64] <;> omega
    have eV : ∀ x : VN, (x.1, x.2.1, x.2.2) = x := fun x => rfl
    have hlt : ((k : Int) < (S.length : Int)) := by omega
    have hL0' : ((0 : Int) < (L.length : Int)) := by omega
    have hc := c_ContainsFunc (enc (conj1 x S[k])) (L.map enc) (fun z hz => by
      obtain ⟨u, hu, rfl⟩ := List.mem_map.1 hz
      have := ((hL.ss u hu).ok h2 hf).len
      rw [(enc_2 u).2]; omega) (by rw [List.length_map]; omega)
    simp (disch := omega) only [bi_superSummit_7, decide_eq_true hlt, decide_eq_true hL0', decide_eq_true, sL_len, List.length_map, cond_true, Bool.and_true, Int.toNat_natCast, map_getV hx, map_getV hL.head, eV, sL_get hkS, hcj, Option.bind_some, getTV_here, bne_dec, hc, w]
    simp only [(enc_2 _).1, (enc_2 _).2]
    by_cases e1 : (conj1 x S[k]).1 = first.1
    · by_cases e2 : (conj1 x S[k]).2.length = first.2.length
      · have e2' : (((conj1 x S[k]).2.length : Nat) : Int) = ((first.2.length : Nat) : Int) := by omega
        by_cases e3 : conj1 x S[k] ∈ L
        · rw [if_neg (fun h => h.2.2 e3)]
          simp only [e1, e2', decide_true, Bool.not_true, cond_false, decide_eq_true ((enc_mem hn).2 e3), cond_true]
          exact ih (k + 1) (by omega) L hL hx
        · rw [if_pos ⟨e1, e2, e3⟩]
          have e3' : ¬ enc (conj1 x S[k]) ∈ L.map enc := fun h => e3 ((enc_mem hn).1 h)
          simp only [e1, e2', decide_true, Bool.not_true, cond_false, decide_eq_false e3']
          by_cases e4 : L.length = 120
          · rw [if_pos e4]
            simp [e4]
          · rw [if_neg e4]
            have e4' : ((L.length : Int) == 120) = false := by rw [beq_dec, decide_eq_false (by omega)]
            have ap : apOk (L.map enc) [enc (conj1 x S[k])] = true := apOk1 (by rw [List.length_map]; omega)
            simp only [e4', cond_false, ap, cond_true]
            have eapp : L.map enc ++ [enc (conj1 x S[k])] = (L ++ [conj1 x S[k]]).map enc := by simp
            rw [eapp]
            exact ih (k + 1) (by omega) _ (hL.add h2 hf hxm e1 e2 e3 e4) (by rw [List.getElem?_append_left ha]; exact hx)
      · have e2' : ¬ (((conj1 x S[k]).2.length : Nat) : Int) = ((first.2.length : Nat) : Int) := by omega
        rw [if_neg (fun h => e2 h.2.1)]
        simp only [e1, e2', decide_true, decide_false, Bool.not_true, Bool.not_false, cond_false, cond_true]
        exact ih (k + 1) (by omega) L hL hx
    · rw [if_neg (fun h => e1 h.1)]
      simp only [e1, decide_false, Bool.not_false, cond_true]
      exact ih (k + 1) (by omega) L hL hx
theorem c_superSummit_4 (n : Nat) (h2 : 2 ≤ n) (hn : n ≤ 8) (first : Nm n) (hf : OkN first 1000) (S : List (Pm n)) (hS : S.length < 1000000) : ∀ (f a : Nat) (L : List (Nm n)), Good first L → 121 ≤ f + a → a ≤ L.length →
    R ii_superSummit_4 [tLPIPILA8 (L.map enc), tLA8 (sL S), tI (a : Int)] = some (match bfsG first S f a L with
      | some L' => [tI 0, tLPIPILA8 (L'.map enc)]
      | none => [tI 1, tLPIPILA8 [], tB false]) := by
  intro f
  induction f with
  | zero =>
    intro a L hL hfa ha
    have := hL.len
    omega
  | succ f ih =>
    intro a L hL hfa ha
    apply vi_superSummit_4
    rw [bfsG]
    have hll := hL.len
    cases hx : L[a]? with
    | none =>
      have : L.length ≤ a := by simpa using hx
      have hn' : ¬ ((a : Int) < (L.length : Int)) := by omega
      simp only [bi_superSummit_4, List.length_map, decide_eq_false hn', cond_false]
    | some x =>
      have hal := (List.getElem?_eq_some_iff.1 hx).1
      have hlt : ((a : Int) < (L.length : Int)) := by omega
      have h7 := c_superSummit_7 n h2 hn first x hf S hS a S.length 0 (by omega) L hL hx
      simp only [Int.natCast_zero, List.drop_zero] at h7
      have w : wi64 ((a : Int) + 1) = ((a + 1 : Nat) : Int) := by rw [wrap_i64] <;> omega
      simp only [bi_superSummit_4, List.length_map, decide_eq_true hlt, cond_true, sL_len, h7, Option.bind_some]
      cases hg : addG first x S L with
      | none => simp
      | some L1 =>
        obtain ⟨g1, ⟨T, g2⟩, g3⟩ := addG_some h2 hf S L L1 hL (List.mem_of_getElem? hx) hg
        simp only [getTV_here, getTV_next, beq_self_eq_true, cond_true, w, Option.bind_some]
        exact ih (a + 1) L1 g1 (by omega) (by rw [g2]; simp; omega)
end Go.Ev.YtolpnaiincngjaaGreat
