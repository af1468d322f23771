/- PartOfBlocks: the law. -/
import Derived.Test.YtadjhggdddbicaaMq3
import Derived.Test.YtadjhggdddbicaaMp5
set_option linter.unusedVariables false
set_option linter.unusedSimpArgs false
namespace Go.Ev.Ytadjhggdddbicaa
open Go.Ev
/-! ### the laws' words on lists of lists -/
def szs : List (List Int) → Int → Int
  | [], k => k
  | b :: r, k => if k < b.length then -1 else szs r (k - b.length)
theorem szs_le : ∀ (l : List (List Int)) (k : Int), 0 ≤ k → szs l k ≤ k
  | [], _, _ => Int.le_refl _
  | b :: r, k, h => by
    simp only [szs]
    split
    · omega
    · have := szs_le r (k - b.length) (by omega)
      omega
theorem szs_mem : ∀ (l : List (List Int)) (k : Int), 0 ≤ k → 0 ≤ szs l k → ∀ b ∈ l, (b.length : Int) ≤ k
  | [], _, _, _, b, hb => by simp at hb
  | c :: r, k, h, h2, b, hb => by
    simp only [szs] at h2
    split at h2
    · omega
    · rcases List.mem_cons.1 hb with rfl | hb
      · omega
      · have := szs_mem r (k - c.length) (by omega) h2 b hb
        omega
theorem c_eqInt64SS_4 (a : List (List Int)) (h : a.length < 1000000000) (hb : ∀ b ∈ a, b.length < 1000000000) : ∀ i, i ≤ a.length → R iw_eqInt64SS_4 [tLLI a, tLLI a, tI (i : Int)] = some [tI 0] := by
  refine up_loop _ ?_ (fun i hi ih => ?_)
  · apply vw_eqInt64SS_4
    simp [bw_eqInt64SS_4]
  · apply vw_eqInt64SS_4
    have e : List.getD a i [] = a[i] := by simp [List.getD_eq_getElem?_getD, List.getElem?_eq_getElem hi]
    simp (disch := omega) only [bw_eqInt64SS_4, decide_eq_true, cond_true, Bool.and_true, Int.toNat_natCast, wrap_i64, e, c_eqInt64S _ _ (hb _ (List.getElem_mem hi)), Option.bind_some, getTV_here]
    rw [show (i : Int) + 1 = ((i + 1 : Nat) : Int) by omega, ih]
    simp
theorem c_eqInt64SS (a : List (List Int)) (h : a.length < 1000000000) (hb : ∀ b ∈ a, b.length < 1000000000) : R iw_eqInt64SS [tLLI a, tLLI a] = some [tB true] := by
  apply vw_eqInt64SS
  have := c_eqInt64SS_4 a h hb 0 (Nat.zero_le _)
  simp only [Int.natCast_zero] at this
  simp [bw_eqInt64SS, this]
/-! ### the walk over blocks -/
def putS (S : Nat → Bool) (x : Nat) : Nat → Bool := fun z => if z = x then true else S z
def putG (G : Nat → Nat) (x v : Nat) : Nat → Nat := fun z => if z = x then v else G z
def pbk (n : Nat) (b : List Int) : Nat → Nat → (Nat → Nat) → (Nat → Bool) → Option ((Nat → Nat) × (Nat → Bool))
  | 0, _, G, S => some (G, S)
  | d + 1, k, G, S =>
    if 0 ≤ List.getD b k 0 ∧ List.getD b k 0 ≤ (n : Int) - 1 then
      if S (List.getD b k 0).toNat then none
      else if 0 < k ∧ List.getD b k 0 ≤ List.getD b (k - 1) 0 then none
      else pbk n b d (k + 1) (putG G (List.getD b k 0).toNat (List.getD b 0 0).toNat) (putS S (List.getD b k 0).toNat)
    else none
def pbs (n : Nat) : List (List Int) → (Nat → Nat) → (Nat → Bool) → Option ((Nat → Nat) × (Nat → Bool))
  | [], G, S => some (G, S)
  | b :: r, G, S => if b = [] then none else (pbk n b b.length 0 G S).bind fun p => pbs n r p.1 p.2
/-- Labels while blocks are put in. -/
structure Lq (n : Nat) (G : Nat → Nat) (S : Nat → Bool) : Prop where
  can : Can n G
  one : ∀ y, y < n → S y = false → G y = y ∧ ∀ z, z < n → G z = y → z = y
/-- within a block: its first number, and the one before -/
def Hd (n : Nat) (b : List Int) (k : Nat) (G : Nat → Nat) (S : Nat → Bool) : Prop :=
  0 < k → 0 ≤ List.getD b 0 0 ∧ List.getD b 0 0 ≤ (n : Int) - 1 ∧ G (List.getD b 0 0).toNat = (List.getD b 0 0).toNat ∧ S (List.getD b 0 0).toNat = true ∧ List.getD b 0 0 ≤ List.getD b (k - 1) 0
theorem Lq.step {n : Nat} {G : Nat → Nat} {S : Nat → Bool} (h : Lq n G S) {b : List Int} {k : Nat} (hk : Hd n b k G S) (h1 : 0 ≤ List.getD b k 0) (h2 : List.getD b k 0 ≤ (n : Int) - 1) (h3 : S (List.getD b k 0).toNat = false)
    (h4 : ¬ (0 < k ∧ List.getD b k 0 ≤ List.getD b (k - 1) 0)) :
    Lq n (putG G (List.getD b k 0).toNat (List.getD b 0 0).toNat) (putS S (List.getD b k 0).toNat) ∧ Hd n b (k + 1) (putG G (List.getD b k 0).toNat (List.getD b 0 0).toNat) (putS S (List.getD b k 0).toNat) ∧
    (∀ z, z < n → mrg G (List.getD b 0 0).toNat (List.getD b k 0).toNat z = putG G (List.getD b k 0).toNat (List.getD b 0 0).toNat z) ∧ 0 ≤ List.getD b 0 0 ∧ List.getD b 0 0 ≤ (n : Int) - 1 := by
  unfold Hd at hk ⊢
  have hx : (List.getD b k 0).toNat < n := by omega
  obtain ⟨g1, g2⟩ := h.one _ hx h3
  by_cases hk0 : k = 0
  · subst hk0
    generalize List.getD b 0 0 = x at *
    have e : ∀ z, putG G x.toNat x.toNat z = G z := by
      intro z
      unfold putG
      split
      · rename_i e; rw [e, g1]
      · rfl
    have e' : putG G x.toNat x.toNat = G := funext e
    rw [e']
    refine ⟨⟨h.can, fun y hy hs => ?_⟩, fun _ => ⟨h1, h2, g1, by simp [putS], by simp⟩, fun z hz => ?_, h1, h2⟩
    · unfold putS at hs
      split at hs
      · simp at hs
      · exact h.one y hy hs
    · unfold mrg
      rw [g1, Nat.max_self, Nat.min_self]
      split
      · rename_i e2; exact e2.symm
      · rfl
  · have hk0 : 0 < k := by omega
    obtain ⟨c1, c2, c3, c4, c5⟩ := hk hk0
    have h5 : List.getD b (k - 1) 0 < List.getD b k 0 := by
      rcases Int.lt_or_le (List.getD b (k - 1) 0) (List.getD b k 0) with g | g
      · exact g
      · exact absurd ⟨hk0, g⟩ h4
    have hb0 : (List.getD b 0 0).toNat < n := by omega
    have hlt : (List.getD b 0 0).toNat < (List.getD b k 0).toNat := by omega
    have h50 : List.getD b 0 0 ≤ List.getD b k 0 := by omega
    rw [show k + 1 - 1 = k by omega]
    generalize List.getD b 0 0 = p at *
    generalize List.getD b k 0 = x at *
    have hm : ∀ z, z < n → mrg G p.toNat x.toNat z = putG G x.toNat p.toNat z := by
      intro z hz
      unfold mrg putG
      rw [c3, g1, Nat.max_eq_right (by omega), Nat.min_eq_left (by omega)]
      by_cases e : z = x.toNat
      · rw [if_pos e, e, g1, if_pos rfl]
      · rw [if_neg e, if_neg (fun e2 => e (g2 z hz e2))]
    refine ⟨⟨fun z hz => ?_, fun y hy hs => ?_⟩, fun _ => ⟨c1, c2, ?_, ?_, ?_⟩, hm, c1, c2⟩
    · unfold putG
      obtain ⟨k1, k2⟩ := h.can z hz
      by_cases e : z = x.toNat
      · rw [if_pos e, if_neg (by omega), c3]
        exact ⟨by omega, rfl⟩
      · rw [if_neg e]
        refine ⟨k1, ?_⟩
        by_cases e2 : G z = x.toNat
        · exact absurd (g2 z hz e2) e
        · rw [if_neg e2, k2]
    · unfold putS at hs
      split at hs
      · simp at hs
      · rename_i e
        obtain ⟨k1, k2⟩ := h.one y hy hs
        have hyp : y ≠ p.toNat := by intro e2; rw [e2, c4] at hs; simp at hs
        unfold putG
        rw [if_neg e]
        refine ⟨k1, fun z hz hz2 => ?_⟩
        split at hz2
        · exact absurd hz2.symm hyp
        · exact k2 z hz hz2
    · unfold putG
      rw [if_neg (by omega), c3]
    · unfold putS
      rw [c4]
      split <;> rfl
    · assumption
theorem pbk_ok {n : Nat} {b : List Int} : ∀ (d k : Nat) (G : Nat → Nat) (S : Nat → Bool), Lq n G S → Hd n b k G S → ∀ p, pbk n b d k G S = some p → Lq n p.1 p.2
  | 0, k, G, S, h, _, p, hp => by
    simp only [pbk, Option.some.injEq] at hp
    subst hp
    exact h
  | d + 1, k, G, S, h, hk, p, hp => by
    simp only [pbk] at hp
    split at hp
    · rename_i h12
      split at hp
      · simp at hp
      · rename_i h3
        split at hp
        · simp at hp
        · rename_i h4
          obtain ⟨q1, q2, _⟩ := h.step hk h12.1 h12.2 (by simpa using h3) h4
          exact pbk_ok d (k + 1) _ _ q1 q2 p hp
    · simp at hp
theorem pbs_ok {n : Nat} : ∀ (l : List (List Int)) (G : Nat → Nat) (S : Nat → Bool), Lq n G S → ∀ p, pbs n l G S = some p → Lq n p.1 p.2
  | [], G, S, h, p, hp => by
    simp only [pbs, Option.some.injEq] at hp
    subst hp
    exact h
  | b :: r, G, S, h, p, hp => by
    simp only [pbs] at hp
    split at hp
    · simp at hp
    · cases e : pbk n b b.length 0 G S with
      | none => rw [e] at hp; simp at hp
      | some q =>
        rw [e] at hp
        exact pbs_ok r _ _ (pbk_ok _ 0 G S h (fun h => by omega) q e) p hp
theorem getB {S : Nat → Bool} {x : Int} (h1 : 0 ≤ x) (h2 : x < 8) : List.getD (Bo S) x.toNat false = S x.toNat := Bo_get (by omega)
/-! ### the program's walk -/
def Bl (n : Nat) (S : Nat → Bool) : List Bool := (List.range n).map S
theorem Bl_len (n : Nat) (S : Nat → Bool) : (Bl n S).length = n := by simp [Bl]
theorem Bl_get {n : Nat} {S : Nat → Bool} {x : Nat} (h : x < n) : List.getD (Bl n S) x false = S x := by
  simp [Bl, List.getD_eq_getElem?_getD, h]
theorem Bl_set {n : Nat} {S : Nat → Bool} {k : Nat} (hk : k < n) : List.set (Bl n S) k true = Bl n (putS S k) := by
  apply List.ext_getElem?
  intro i
  rw [List.getElem?_set]
  by_cases h : k = i
  · subst h
    simp [Bl, hk, putS]
  · rw [if_neg h]
    by_cases hi : i < n
    · simp [Bl, hi, putS, Ne.symm h]
    · simp [Bl, hi]
theorem Lq0 (n : Nat) : Lq n id (fun _ => false) := ⟨fun x _ => ⟨Nat.le_refl _, rfl⟩, fun y _ _ => ⟨rfl, fun z _ h => h⟩⟩
/-- What PartOfBlocks answers. -/
def vPOB (l : List (List Int)) (k : Int) : List Int × Int :=
  if 1 ≤ k ∧ k ≤ 8 then
    match pbs k.toNat l id (fun _ => false) with
    | none => (List.replicate 8 0, 2)
    | some p => if crs k.toNat p.1 then (List.replicate 8 0, 1) else (A8 k.toNat (mdf k.toNat p.1), 0)
  else (List.replicate 8 0, 2)
theorem vPOB_len (l : List (List Int)) (k : Int) : (vPOB l k).1.length = 8 := by
  unfold vPOB
  split
  · split
    · simp
    · split
      · simp
      · exact A8_len _ _
  · simp
end Go.Ev.Ytadjhggdddbicaa
