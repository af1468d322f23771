/- Dual forms: IsDual holds of them; their words are their braids. -/
import Derived.Test.YteclcmiopobnaaaMq5
import Derived.Test.YteclcmiopobnaaaMp21
set_option linter.unusedVariables false
set_option linter.unusedSimpArgs false
namespace Go.Ev.Yteclcmiopobnaaa.P
open Go.Ev.Yteclcmiopobnaaa
open Go.Ev Go.Gar
theorem isPt_sA {n : Nat} (h1 : 1 ≤ n) (hn : n ≤ 8) {s : Pm n} (h : isP s) : isPt (sA s) (n : Int) = true := by
 obtain ⟨g, hg⟩ := h
 unfold isPt
 apply decp_t
 refine ⟨by omega, by omega, g, ?_⟩
 rw [Int.toNat_natCast]
 exact ⟨hg.can, hg.nc, A8_congr (fun x hx => hg.f x hx)⟩
theorem wdp_get {n : Nat} {h1 : 1 ≤ n} : ∀ (A : List (Pm n)) (i : Nat) (h : i + 1 < A.length), (latP n h1).Wd A → (latP n h1).meet ((latP n h1).K (A[i]'(by omega))) A[i + 1] = 1
 | a :: b :: A, 0, h, hW => hW.1 b rfl
 | a :: A, i + 1, h, hW => wdp_get A i (by simp only [List.length_cons] at h; omega) hW.2
theorem isDual_5 {n : Nat} (h1 : 1 ≤ n) (hn : n ≤ 8) {A : List (Pm n)} (hP : (latP n h1).Proper A) (hl : A.length ≤ 1000) (x0 x1 : Int) : ∀ (d i : Nat), i + d = A.length → R ii_IsDual_5 [tI x0, tI x1, tLA8 (sL A), tI (n : Int), tI (A.length : Int), tI (i : Int)] = some [tI 0] := by
 intro d
 induction d with
 | zero =>
  intro i h
  apply vi_IsDual_5
  have p1 : decide ((i : Int) < ((A.length : Nat) : Int)) = false := decide_eq_false (by omega)
  simp only [bi_IsDual_5, p1, cond_false]
 | succ d ih =>
  intro i h
  have hi : i < A.length := by omega
  have hs : isP A[i] := hP.S _ (List.getElem_mem hi)
  obtain ⟨nD, n1⟩ := hP.no _ (List.getElem_mem hi)
  have p1 : decide ((i : Int) < ((A.length : Nat) : Int)) = true := decide_eq_true (by omega)
  have p2 : decide (0 ≤ (i : Int)) = true := decide_eq_true (by omega)
  have w1 : wi64 ((i : Int) + 1) = ((i + 1 : Nat) : Int) := by rw [wrap_i64] <;> omega
  have ip := c_IsPart (sA A[i]) (sA_B8 hn _) (n : Int)
  rw [isPt_sA h1 hn hs] at ip
  have q1 : (sA A[i] == sA (1 : Pm n)) = false := by rw [beq_sA hn]; exact decide_eq_false n1
  have q2 : (sA A[i] == sA (whP n)) = false := by rw [beq_sA hn]; exact decide_eq_false nD
  apply vi_IsDual_5
  by_cases h0 : 0 < i
  · obtain ⟨j, rfl⟩ : ∃ j, i = j + 1 := ⟨i - 1, by omega⟩
    have p3 : decide ((0 : Int) < ((j + 1 : Nat) : Int)) = true := decide_eq_true (by omega)
    have w2 : wi64 (((j + 1 : Nat) : Int) - 1) = (j : Int) := by rw [wrap_i64] <;> omega
    have p4 : decide (0 ≤ (j : Int)) = true := decide_eq_true (by omega)
    have p5 : decide ((j : Int) < ((A.length : Nat) : Int)) = true := decide_eq_true (by omega)
    have hsj : isP A[j] := hP.S _ (List.getElem_mem (by omega))
    have cm := c_complementPart n hn A[j]
    have mt := c_meetP n h1 hn (a := A[j]⁻¹ * whP n) (b := A[j + 1]) ((latP n h1).S_K hsj) hs
    have hw := wdp_get (h1 := h1) A j (by omega) hP.W
    have hw' : meetP (A[j]⁻¹ * whP n) A[j + 1] = 1 := hw
    rw [hw'] at mt
    have q3 : (sA (1 : Pm n) != sA (1 : Pm n)) = false := bne_self_eq_false _
    simp only [bi_IsDual_5, sL_len, p1, p2, p3, p4, p5, cond_true, cond_false, Bool.and_true, Int.toNat_natCast, sL_get hi, sL_get (show j < A.length by omega), ip, c_finePart n hn, c_wholePart n hn, Option.bind_some, getTV_here, Bool.not_true, q1, q2, w1, w2, cm, mt, q3]
    exact ih (j + 1 + 1) (by omega)
  · have p3 : decide ((0 : Int) < (i : Int)) = false := decide_eq_false (by omega)
    simp only [bi_IsDual_5, sL_len, p1, p2, p3, cond_true, cond_false, Bool.and_true, Int.toNat_natCast, sL_get hi, ip, c_finePart n hn, c_wholePart n hn, Option.bind_some, getTV_here, Bool.not_true, q1, q2, w1]
    exact ih (i + 1) (by omega)
theorem isDual_true {n : Nat} (h1 : 1 ≤ n) (hn : n ≤ 8) (v : Nm n) (hP : (latP n h1).Proper v.2) (lo : -400 ≤ v.1) (hi : v.1 ≤ 400) (hl : v.2.length ≤ 400) (h0 : n = 1 → v.1 = 0) : R ii_IsDual [tPIPILA8 ((n : Int), v.1, sL v.2)] = some [tB true] := by
 have h5 := isDual_5 h1 hn hP (by omega) (n : Int) v.1 v.2.length 0 (by omega)
 simp only [Int.natCast_zero] at h5
 have hct : R ii_isCount [tI (n : Int)] = some [tB true] := by
  rw [c_isCount]
  have p : (decide (1 ≤ (n : Int)) && decide ((n : Int) ≤ 8)) = true := by simp; omega
  rw [p]
 have hwi : R ii_within [tI v.1, tI (-400), tI 400] = some [tB true] := by
  rw [c_within]
  have p : (decide (-400 ≤ v.1) && decide (v.1 ≤ 400)) = true := by simp; omega
  rw [p]
 have p1 : decide ((400 : Int) < ((v.2.length : Nat) : Int)) = false := decide_eq_false (by omega)
 have e0 : ((0 : Int) == 0) = true := rfl
 apply vi_IsDual
 by_cases h : n = 1
 · have p2 : ((n : Int) == 1) = true := by simp [h]
   have p3 : (v.1 != 0) = false := by simp [h0 h]
   simp only [bi_IsDual, hct, hwi, sL_len, p1, p2, p3, h5, e0, cond_true, cond_false, Option.bind_some, getTV_here, Bool.not_true]
 · have p2 : ((n : Int) == 1) = false := by simp; omega
   simp only [bi_IsDual, hct, hwi, sL_len, p1, p2, h5, e0, cond_true, cond_false, Option.bind_some, getTV_here, Bool.not_true]
theorem band_Lr {n : Nat} {p b : Int} (hb : 0 ≤ b) (h : b < p) (hp : p < (n : Int)) : ∀ x ∈ bandL p b, Lr n x := by
 intro x hx
 unfold bandL at hx
 unfold Lr
 rcases List.mem_append.1 hx with hx | hx
 · have := dnL_mem hx
   omega
 · have := upL_mem hx
   omega
theorem wb_Lr {n : Nat} {b : List Int} (hb : Blk b) (hz : ∀ z ∈ b, z < (n : Int)) : ∀ i, i < b.length → ∀ x ∈ wb b i, Lr n x
 | 0, _ => by intro x hx; simp [wb] at hx
 | i + 1, h => by
  obtain ⟨k1, k2, k3⟩ := hb.2.2 i h
  intro x hx
  simp only [wb] at hx
  rcases List.mem_append.1 hx with hx | hx
  · refine band_Lr k1 k2 (hz _ ?_) x hx
    rw [getD_at h]
    exact List.getElem_mem h
  · exact wb_Lr hb hz i (by omega) x hx
theorem wbs_Lr {n : Nat} : ∀ {l : List (List Int)}, (∀ b ∈ l, Blk b ∧ ∀ z ∈ b, z < (n : Int)) → ∀ x ∈ wbs l, Lr n x
 | [], _ => by intro x hx; simp [wbs] at hx
 | b :: r, h => by
  have hb := h b (by simp)
  have := List.length_pos_iff.2 hb.1.1
  intro x hx
  simp only [wbs] at hx
  rcases List.mem_append.1 hx with hx | hx
  · exact wb_Lr hb.1 hb.2 _ (by omega) x hx
  · exact wbs_Lr (fun b hb => h b (by simp [hb])) x hx
theorem wPart_Lr {n : Nat} (hn : n ≤ 8) (g : Nat → Nat) : ∀ x ∈ wPart n g, Lr n x := by
 apply wbs_Lr
 intro b hb
 refine ⟨bks_Blk hn b hb, fun z hz => ?_⟩
 obtain ⟨k, k1, k2, k3, rfl⟩ := bks_mem hb
 obtain ⟨y, rfl, y1, y2, _⟩ := bk_mem hz
 omega
theorem part_word {n : Nat} (hn : n ≤ 8) {s : Pm n} (h : isP s) : ∃ w : List Int, w.length ≤ 12800 ∧ (∀ x ∈ w, Lr n x) ∧ cl n w = th n n s ∧ R ii_wordOfPart [tA8 (sA s), tI (n : Int)] = some [tLI w] := by
 obtain ⟨g, hg⟩ := h
 have c := c_wordOfPart n hn g hg.can
 have e : sA s = A8 n (mdf n g) := A8_congr (fun x hx => hg.f x hx)
 rw [← e] at c
 exact ⟨wPart n g, wPart_len hn g, wPart_Lr hn g, cl_wPart hg, c⟩
theorem wd12 {n : Nat} {h1 : 1 ≤ n} (hn : n ≤ 8) {A : List (Pm n)} (hA : (latP n h1).AllS A) (hl : A.length ≤ 400) (x1 x3 : Int) (x4 : List Int) : ∀ (d j : Nat), j + d = A.length → ∃ u : List Int, u.length ≤ 12800 * d ∧ (∀ x ∈ u, Lr n x) ∧ cl n u = Wt (A.drop j) ∧ ∀ out : List Int, out.length + 12800 * d ≤ 100000000 →
  R ii_WordOfDual_12 [tI (n : Int), tI x1, tLA8 (sL A), tI x3, tLI x4, tI (n : Int), tLI out, tI ((A.length : Nat) : Int), tI (j : Int)] = some [tI 0, tI x3, tLI x4, tI (n : Int), tLI (out ++ u)] := by
 intro d
 induction d with
 | zero =>
  intro j hj
  have p1 : decide ((j : Int) < ((A.length : Nat) : Int)) = false := decide_eq_false (by omega)
  refine ⟨[], by simp, fun x hx => by simp at hx, ?_, fun out _ => vi_WordOfDual_12 _ _ _ _ _ _ _ _ _ ?_⟩
  · rw [List.drop_eq_nil_of_le (by omega)]; rfl
  · simp only [bi_WordOfDual_12, p1, cond_false, List.append_nil]
 | succ d ih =>
  intro j hj
  have hjl : j < A.length := by omega
  have p1 : decide ((j : Int) < ((A.length : Nat) : Int)) = true := decide_eq_true (by omega)
  have p2 : decide ((0 : Int) ≤ (j : Int)) = true := decide_eq_true (by omega)
  have w : wi64 ((j : Int) + 1) = ((j + 1 : Nat) : Int) := by rw [wrap_i64] <;> omega
  obtain ⟨v, hv, v1, v2, v3⟩ := part_word hn (hA _ (List.getElem_mem hjl))
  obtain ⟨u, hu, u1, u2, u3⟩ := ih (j + 1) (by omega)
  refine ⟨v ++ u, by rw [List.length_append]; omega, lr_app v1 u1, ?_, fun out ho => vi_WordOfDual_12 _ _ _ _ _ _ _ _ _ ?_⟩
  · rw [cl_app, v2, u2, List.drop_eq_getElem_cons hjl, Wt]
  · have k2 := u3 (out ++ v) (by rw [List.length_append]; omega)
    simp only [bi_WordOfDual_12, sL_len, p1, p2, cond_true, Bool.and_true, Int.toNat_natCast, sL_get hjl, v3, Option.bind_some, getTV_here, w, c_joined ((n : Int), out) ((n : Int), v) (by show out.length < _; omega) (by show v.length < _; omega), k2, List.append_assoc]
theorem cl_reps {n : Nat} (w : List Int) : ∀ k, cl n (reps w k) = pw (cl n w) k
 | 0 => rfl
 | k + 1 => by rw [reps, cl_app, cl_reps w k, pw_succ']
theorem reps_Lr {n : Nat} {w : List Int} (h : ∀ x ∈ w, Lr n x) : ∀ k, ∀ x ∈ reps w k, Lr n x
 | 0 => fun x hx => by simp [reps] at hx
 | k + 1 => lr_app h (reps_Lr h k)
theorem pw_inv {G : Type} [Grp G] (g : G) : ∀ k, pw g⁻¹ k = (pw g k)⁻¹
 | 0 => inv_one.symm
 | k + 1 => by rw [pw_succ', pw_inv g k, pw, mul_inv_rev]
theorem wordOfDual {n : Nat} (h1 : 1 ≤ n) (hn : n ≤ 8) (v : Nm n) (hP : (latP n h1).Proper v.2) (lo : -400 ≤ v.1) (hi : v.1 ≤ 400) (hl : v.2.length ≤ 400) (h0 : n = 1 → v.1 = 0) :
  R ii_WordOfDual [tPIPILA8 ((n : Int), v.1, sL v.2)] = some [tPILI (0, []), tI 3] ∨ ∃ W : List Int, (∀ x ∈ W, Lr n x) ∧ cl n W = Wb v ∧ W.length ≤ 200 ∧ R ii_WordOfDual [tPIPILA8 ((n : Int), v.1, sL v.2)] = some [tPILI ((n : Int), W), tI 0] := by
 have r2 := isDual_true h1 hn v hP lo hi hl h0
 have w2 := c_wordOfPart n hn (fun _ => 0) (can0 n)
 rw [← whole_mdf] at w2
 have hwl := wPart_len hn (fun _ => 0)
 have hwt := wPart_Lt hn (fun _ => 0)
 have hwr := wPart_Lr hn (fun _ => 0)
 have hwc := cl_wPart (pt_D n)
 generalize wPart n (fun _ => 0) = ww at w2 hwl hwt hwr hwc
 have hsz := cz_size v.1 (by omega) (by omega)
 have hmm : v.1.natAbs ≤ 400 := by omega
 have main : ∀ own : List Int, own.length ≤ 20000 → (∀ x ∈ own, Lr n x) → ∃ out : List Int, (∀ x ∈ out, Lr n x) ∧ cl n out = pw (cl n own) v.1.natAbs * Wt v.2 ∧
   (∀ x5 x7 : Int, R ii_WordOfDual_8 [tI (n : Int), tI v.1, tLA8 (sL v.2), tI 0, tLI [], tI x5, tLI [], tI x7, tLI own, tI ((v.1.natAbs : Nat) : Int), tI 0] = some [tI 0, tI (n : Int), tI v.1, tLA8 (sL v.2), tI 0, tLI [], tI x5, tLI (reps own v.1.natAbs)]) ∧
   R ii_WordOfDual_12 [tI (n : Int), tI v.1, tLA8 (sL v.2), tI 0, tLI [], tI (n : Int), tLI (reps own v.1.natAbs), tI ((v.2.length : Nat) : Int), tI 0] = some [tI 0, tI 0, tLI [], tI (n : Int), tLI out] := by
  intro own hown hor
  have hrl := reps_len own v.1.natAbs
  have hmul : v.1.natAbs * own.length ≤ 400 * 20000 := Nat.mul_le_mul hmm hown
  obtain ⟨u, hu, u1, u2, u3⟩ := wd12 (h1 := h1) hn hP.S hl v.1 0 [] v.2.length 0 (by omega)
  refine ⟨reps own v.1.natAbs ++ u, lr_app (reps_Lr hor _) u1, ?_, fun x5 x7 => ?_, u3 (reps own v.1.natAbs) (by omega)⟩
  · rw [cl_app, cl_reps, u2, List.drop_zero]
  · exact c_i_WD_8 n v.1 0 x5 x7 (sL v.2) [] own hown v.1.natAbs (by omega) v.1.natAbs 0 [] (by omega) (by simp; omega)
 by_cases hneg : v.1 < 0
 · have hrev := c_reversed ((n : Int), ww) (by show ww.length < _; omega)
   have hlt : Lt ww.reverse := fun x hx => hwt x (List.mem_reverse.1 hx)
   have hlet := c_letterBy ((n : Int), ww.reverse) hlt (by simp; omega)
   have hil : (invL ww).length ≤ 20000 := by simp [invL]; omega
   have hir : ∀ x ∈ invL ww, Lr n x := invL_Lr hwr
   have hic : cl n (invL ww) = (th n n (whP n))⁻¹ := by
    rw [cl_eq _ hir, ← hwc, cl_eq _ hwr]
    rfl
   obtain ⟨out, m1, m2, m3, m4⟩ := main (invL ww) hil hir
   have hinvd : (ww.reverse.map fun x => -x) = invL ww := rfl
   by_cases hbig : (200 : Int) < ((out.length : Nat) : Int)
   · left
     apply vi_WordOfDual
     simp only [bi_WordOfDual, r2, Option.bind_some, getTV_here, getTV_next, Bool.not_true, cond_false, c_wholePart n hn, w2, decide_eq_true hneg, cond_true, hrev, hlet, hinvd, hsz, m3, sL_len, m4, decide_eq_true hbig]
   · right
     refine ⟨out, m1, ?_, by omega, ?_⟩
     · rw [m2, hic, pw_inv]
       show _ = zp (th n n (whP n)) v.1 * _
       unfold zp
       rw [if_neg (by omega), show (-v.1).toNat = v.1.natAbs by omega]
     · apply vi_WordOfDual
       simp only [bi_WordOfDual, r2, Option.bind_some, getTV_here, getTV_next, Bool.not_true, cond_false, c_wholePart n hn, w2, decide_eq_true hneg, cond_true, hrev, hlet, hinvd, hsz, m3, sL_len, m4, decide_eq_false hbig]
 · obtain ⟨out, m1, m2, m3, m4⟩ := main ww (by omega) hwr
   by_cases hbig : (200 : Int) < ((out.length : Nat) : Int)
   · left
     apply vi_WordOfDual
     simp only [bi_WordOfDual, r2, Option.bind_some, getTV_here, getTV_next, Bool.not_true, cond_false, c_wholePart n hn, w2, decide_eq_false hneg, hsz, m3, sL_len, m4, decide_eq_true hbig, cond_true]
   · right
     refine ⟨out, m1, ?_, by omega, ?_⟩
     · rw [m2, hwc]
       show _ = zp (th n n (whP n)) v.1 * _
       unfold zp
       rw [if_pos (by omega), show v.1.toNat = v.1.natAbs by omega]
     · apply vi_WordOfDual
       simp only [bi_WordOfDual, r2, Option.bind_some, getTV_here, getTV_next, Bool.not_true, cond_false, c_wholePart n hn, w2, decide_eq_false hneg, hsz, m3, sL_len, m4, decide_eq_false hbig]
end Go.Ev.Yteclcmiopobnaaa.P
