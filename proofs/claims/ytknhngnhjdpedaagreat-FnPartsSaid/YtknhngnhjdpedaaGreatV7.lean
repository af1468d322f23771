/- Blocks drawn, by hand. -/
import Derived.Test.YtknhngnhjdpedaaGreatV5
set_option linter.unusedSimpArgs false
set_option linter.unusedVariables false
namespace Go.Ev
section
variable {P : Program} {E : Env}
def SrcAt (w : World) (G : Nat → Prop) (bs : Nat) (x : SrcT.den) : Prop := ¬ G bs ∧ ∃ ys : List Value, TRep w false G SrcT x ys ∧ (∀ j v, ys[j]? = some v → w.cell? ⟨bs, j, none⟩ = some v) ∧ ∃ cs T, w.heap[bs]? = some (.cells cs T (0, 0)) ∧ cs.size = 3
theorem SrcAt.keep {w w' : World} {G G' : Nat → Prop} {bs : Nat} {x : SrcT.den} (h : SrcAt w G bs x) (hsz : w.heap.size ≤ w'.heap.size) (hb : w'.heap[bs]? = w.heap[bs]?) (hG : ∀ b, b < w.heap.size → G b → G' b ∧ w'.heap[b]? = w.heap[b]?) (hn : ¬ G' bs) : SrcAt w' G' bs x := by
 obtain ⟨h1, ys, h2, h3, cs, T, h4, h5⟩ := h; refine ⟨hn, ys, h2.frame id hsz hG, fun j v hv => ?_, cs, T, by rw [hb]; exact h4, h5⟩; have := h3 j v hv; simpa only [World.cell?, hb] using this
theorem zKa {w : World} {G : Nat → Prop} {x : SrcT.den} {ys : List Value} (h : TRep w false G SrcT x ys) : ∃ addr cap, ys = [.slice addr x.1.length cap, .int .i64 x.2.1, .int .u64 x.2.2] ∧ RowW w false G 1 x.1.length addr cap ∧ Elems w false (fun _ => G) (.int .u8) x.1 addr := by
 simp only [TRep] at h; obtain ⟨c1, c2, rfl, ⟨addr, cap, rfl, h1, h2⟩, c3, c4, rfl, rfl, rfl⟩ := h; exact ⟨addr, cap, rfl, h1, h2⟩
theorem zO9 {ob : Objs} {ρ : Locs} {v : W} {z : Int} {us : List (Nat × Mode)} (hpk : packW ob (.int .i64) v = some (z, us)) : Ending.returned (wval ρ v) = .returned (.int .i64 z) := by
 cases v with
 | c cc =>
  cases cc with
  | int k b =>
   simp only [packW] at hpk
   split at hpk
   · rename_i hk; subst hk; simp only [Option.some.injEq, Prod.mk.injEq] at hpk; rw [← hpk.1]
     rfl
   · simp at hpk
  | _ => simp [packW] at hpk
 | _ => simp [packW] at hpk
theorem zNP {fd2 : FD} {T1 T2 : Ty} {V2 : Value} (hp : fd2.sig.params = [.boxr SrcT, .ro T2]) (hr : fd2.sig.res = [(.own, false, T1)]) (hkn : fd2.keeps = []) {x : SrcT.den} {y : T2.den} {outs : List TV}
  (hspec : FnSpec P E fd2 [⟨SrcT, x⟩, ⟨T2, y⟩] outs) {w : World} {G : Nat → Prop} {bs : Nat} (hn : ¬ G bs) (hbs : bs < w.heap.size) {ρ : Locs} {col : Col}
  (hin : Inv w (fun b => b = bs) G (fixOf fd2 [.pointer (some ⟨bs, 0, none⟩), V2]) (fd2.init [⟨SrcT, x⟩, ⟨T2, y⟩]) ρ col ⟨[.pointer (some ⟨bs, 0, none⟩), V2].toArray ++ Array.replicate (fd2.fn.ntmps - [Value.pointer (some ⟨bs, 0, none⟩), V2].length) undef, []⟩ w) :
  Calls P fd2.id #[.pointer (some ⟨bs, 0, none⟩), V2] w fun e w' => ∃ (ob : Objs) (ρ : Locs) (v : W) (us : List (Nat × Mode)), e = .returned (wval ρ v) ∧ packW ob T1 v = some (getTV T1 outs 0, us) ∧ wfW ob ρ v ∧ KeepB bs w w' ∧ SrcAt w' (fun b => G b ∨ w.heap.size ≤ b) bs (getTV SrcT outs 1) := by
 refine Calls.mono (hspec w _ _ _ _ [.pointer (some ⟨bs, 0, none⟩), V2] (by rw [hp]; rfl) (Kept.nil hkn) hin) ?_; rintro e w' ⟨s', ρ', col', a', ws, rfl, hi', hfin, hws, hwf⟩; obtain ⟨ws2, xs, us, ro, zs, vs, ro', r1, r2, r3, r4, r5, rfl⟩ := jL hfin; rw [hws] at r1; simp only [Option.some.injEq] at r1; subst r1; rw [hr] at r2; rw [hp] at r3; obtain ⟨z, v0, us0, rfl, rfl, hpk0⟩ : ∃ (z : T1.den) (v : W) (us : List (Nat × Mode)), ws = [v] ∧ xs = [⟨T1, z⟩] ∧ packW s'.ob T1 v = some (z, us) := by
  match ws, r2 with
  | [v], r2 =>
   simp only [packRes] at r2
   split at r2
   · rename_i x1 u1 v1 x2 u2 v2 k1 k2; simp only [Option.some.injEq, Prod.mk.injEq] at k2 r2; obtain ⟨rfl, rfl, rfl⟩ := k2; obtain ⟨rfl, _, _⟩ := r2; simp only [packRes1] at k1
     split at k1
     · rename_i xx us' hpk
       split at k1
       · simp only [Option.some.injEq, Prod.mk.injEq] at k1; obtain ⟨rfl, _, _⟩ := k1; exact ⟨xx, v, us', rfl, by simp, hpk⟩
       · simp at k1
     · simp at k1
   · simp at r2
  | [], r2 => simp [packRes] at r2
  | _ :: _ :: _, r2 =>
   simp only [packRes] at r2
   split at r2
   · rename_i k2; simp at k2
   · simp at r2
 simp only [backPs] at r3
 split at r3
 · rename_i x1 u1 v1 x2 u2 v2 k1 k2; simp only [PK.back, Option.some.injEq, Prod.mk.injEq, List.append_nil] at k2; obtain ⟨rfl, rfl, rfl⟩ := k2; simp only [Option.some.injEq, Prod.mk.injEq, List.append_nil] at r3; obtain ⟨rfl, _, _⟩ := r3; simp only [PK.back] at k1
   split at k1
   · rename_i v hv; rw [Option.map_eq_some_iff] at k1; obtain ⟨p, hpk, k1⟩ := k1; obtain ⟨o, x0, x', us', rfl, hb, hpw, rfl⟩ := kQ hpk; simp only [Prod.mk.injEq] at k1; obtain ⟨rfl, _, _⟩ := k1; obtain ⟨f1, f2⟩ := hi'.fixed (0, .pointer (some ⟨bs, 0, none⟩)) (by simp [fixOf, FD.fixed, FD.kept, hkn, hp, fixedGo, PK.isFixed]); simp only at f1 f2; obtain ⟨m1, m2⟩ := hi'.getD (t := 0) (v := .w (.c (.ptr o 0 0 0))) hv (by simp); rw [Array.getD_eq_getD_getElem?, m1] at f2; obtain ⟨b, b1, b2, b3, b4, b5, b6, b7⟩ := hi'.objs o _ hb; have hbb : b = bs := by
      simp [vval, wval, cval, Loc.at, b1] at f2; exact f2
     subst hbb; obtain ⟨cs', T', c1, c2⟩ := b7 rfl; have b6' : col' b = some (o, 0) := b6; have hlen : (wcells ρ' x0).length = 3 := by
      have := (zDn (w := w') (ok := fun _ => True) b3 hpw (fun o m u xs hm ho => by
       obtain ⟨e1, e2, e3⟩ := hi'.objs o _ ho; exact ⟨e1, e2.frame (by simp) (Nat.le_refl _) (fun _ _ _ => ⟨trivial, rfl⟩), e3.frame (by simp) (Nat.le_refl _) (fun _ _ _ _ _ => ⟨trivial, rfl⟩) (fun _ _ _ => rfl)⟩)).len
      simpa [Ty.cells] using this
     refine ⟨s'.ob, ρ', v0, us0, rfl, by simpa [getTV] using hpk0, hwf v0 (by simp), ⟨hi'.mono, hi'.same, fun k hk hkn => hi'.low k hk hkn⟩, fun h => h.elim (fun g => hn g) (fun g => by omega), wcells ρ' x0, ?_, fun j v hv => b5 j v hv, cs', T', c1, by rw [c2, b4, hlen]⟩
     · have g3 : getTV SrcT ([(⟨T1, z⟩ : TV)] ++ [⟨SrcT, x'⟩]) 1 = x' := by simp [getTV]
       rw [g3]; refine zDn b3 hpw (fun o2 m u xs hm ho => ?_); have hk2 : ∀ b2, RO col' (fun b' => G b' ∨ w.heap.size ≤ b' ∨ b' = b) b2 → (G b2 ∨ w.heap.size ≤ b2) := fun b2 h => by
        rcases h.2 with g | g | g
        · exact .inl g
        · exact .inr g
        · subst g; rcases h.1 with e | ⟨_, _, e⟩ <;> rw [b6'] at e <;> simp at e
       have hro2 : m = .ro ∨ m = .own ∨ m = .sh := by cases m <;> simp
       obtain ⟨e1, e2, e3⟩ := hi'.objs o2 _ ho; have hcold : ∀ b2 c, col' b2 = some (o2, c) → (G b2 ∨ w.heap.size ≤ b2) := fun b2 c hb2 => by
        rcases (hi'.cold b2 o2 c hb2).1 with g | g
        · exact .inr g
        · have g' : b2 = b := g; subst g'; rw [b6'] at hb2; simp only [Option.some.injEq, Prod.mk.injEq] at hb2; obtain ⟨rfl, _⟩ := hb2; rw [hb] at ho; simp at ho
       refine ⟨e1, e2.frame (by simp) (Nat.le_refl _) (fun b2 _ hb2 => ⟨?_, rfl⟩), e3.frame (by simp) (Nat.le_refl _) (fun i _ b2 _ hb2 => ⟨?_, rfl⟩) (fun _ _ _ => rfl)⟩
       · cases m with
         | own => exact hcold b2 0 hb2
         | sh => exact hcold b2 0 hb2
         | ro => exact hk2 b2 hb2
       · cases m with
         | own => exact hcold b2 _ hb2
         | sh => exact hk2 b2 hb2
         | ro => exact hk2 b2 hb2
   · simp at k1
 · simp at r3
theorem zP1 {fd2 : FD} {T1 : Ty} (hp : fd2.sig.params = [.boxr SrcT, .ro (.int .i64)]) (hr : fd2.sig.res = [(.own, false, T1)]) (hkn : fd2.keeps = []) (q5 : 2 ≤ fd2.fn.ntmps) {x : SrcT.den} {y : ((.int .i64) : Ty).den} {outs : List TV}
  (hspec : FnSpec P E fd2 [⟨SrcT, x⟩, ⟨(.int .i64), y⟩] outs) {w : World} {G : Nat → Prop} {bs : Nat} (hs : SrcAt w G bs x) :
  Calls P fd2.id #[.pointer (some ⟨bs, 0, none⟩), .int .i64 y] w fun e w' => ∃ (ob : Objs) (ρ : Locs) (v : W) (us : List (Nat × Mode)), e = .returned (wval ρ v) ∧ packW ob T1 v = some (getTV T1 outs 0, us) ∧ wfW ob ρ v ∧ KeepB bs w w' ∧ SrcAt w' (fun b => G b ∨ w.heap.size ≤ b) bs (getTV SrcT outs 1) := by
 obtain ⟨hn, ys, h1, h2, cs, T, h3, h4⟩ := hs; obtain ⟨addr, cap, rfl, g1, g2⟩ := zKa h1; have hbs : bs < w.heap.size := (Array.getElem?_eq_some_iff.1 h3).1
 have hinit : fd2.init [⟨SrcT, x⟩, ⟨(.int .i64), y⟩] = ⟨[.w (.c (.ptr 1000 0 0 0)), .w (.c (.int .i64 y))] ++ List.replicate (fd2.fn.ntmps - 2) .undef,
   Objs.none.upds ([(1000, .box .own (.st [.sl 1001, .int .i64 x.2.1, .int .u64 x.2.2])), (1001, .row .ro (.int .u8) x.1)])⟩ := by
  simp [FD.init, hp, initPs, PK.init, unpackW, unpackC, idOf, getTV]
 have hG : ∀ b, G b → b ≠ bs := fun b hb e => hn (e ▸ hb)
 let col : Col := fun b => if b = bs then some (1000, 0) else none
 have hro : ∀ b, G b → RO col (fun b => G b ∨ w.heap.size ≤ b ∨ b = bs) b := fun b hb => ⟨.inl (by simp [col, hG b hb]), .inl hb⟩
 have hin : Inv w (fun b => b = bs) G (fixOf fd2 [.pointer (some ⟨bs, 0, none⟩), .int .i64 y]) (fd2.init [⟨SrcT, x⟩, ⟨(.int .i64), y⟩])
   (fun o => if o = 1000 then ⟨some ⟨bs, 0, none⟩, 3, 0⟩ else if o = 1001 then ⟨addr, x.1.length, cap⟩ else ⟨none, 0, 0⟩) col
   ⟨[.pointer (some ⟨bs, 0, none⟩), .int .i64 y].toArray ++ Array.replicate (fd2.fn.ntmps - [Value.pointer (some ⟨bs, 0, none⟩), .int .i64 y].length) undef, []⟩ w := by
  rw [hinit]
  refine ⟨rfl, by simp; omega, fun i v hi => ?_, fun o z hz => ?_, fun b o c hb => ?_, fun _ _ _ => rfl, Nat.le_refl _, fun q hq => ?_, Like.refl w⟩
  · match i with
    | 0 =>
     simp only [List.cons_append, List.getElem?_cons_zero, Option.some.injEq] at hi; subst hi; exact .inr ⟨by simp [wfV, wfW, wfC, Objs.upds, Objs.upd], by simp [vval, wval, cval, Loc.at, Array.getElem?_append]⟩
    | 1 =>
     simp only [List.cons_append, List.getElem?_cons_succ, List.getElem?_cons_zero, Option.some.injEq] at hi; subst hi; exact .inr ⟨by simp [wfV, wfW, wfC, Objs.upds, Objs.upd], by simp [vval, wval, cval, Array.getElem?_append]⟩
    | i + 2 =>
     simp only [List.cons_append, List.nil_append, List.getElem?_cons_succ, List.getElem?_replicate] at hi
     split at hi
     · simp only [Option.some.injEq] at hi; exact .inl hi.symm
     · simp at hi
  · rcases kc hz with hm | ⟨hm, _⟩
    · simp only [List.cons_append, List.nil_append, List.mem_cons, List.not_mem_nil, or_false, Prod.mk.injEq] at hm
      rcases hm with ⟨rfl, rfl⟩ | ⟨rfl, rfl⟩
      · refine ⟨bs, rfl, hbs, ?_, rfl, ?_, by simp [okO, col], fun _ => ⟨cs, T, h3, h4⟩⟩
        · intro c hc; simp only [List.mem_cons, List.not_mem_nil, or_false] at hc; rcases hc with rfl | rfl | rfl <;> simp [wfC, Objs.upds, Objs.upd]
        · intro j v hv; exact h2 j v (by simpa [wcells, cval] using hv)
      · exact ⟨rfl, g1.frame id (Nat.le_refl _) (fun b _ hb => ⟨hro b hb, rfl⟩), g2.frame id (Nat.le_refl _) (fun _ _ b _ hb => ⟨hro b hb, rfl⟩) (fun _ _ _ => rfl)⟩
    · simp [Objs.none] at hm
  · simp only [col] at hb
    split at hb
    · rename_i e; simp only [Option.some.injEq, Prod.mk.injEq] at hb; obtain ⟨rfl, rfl⟩ := hb; exact ⟨.inr e, by omega, by simp [Objs.upds, Objs.upd]⟩
    · simp at hb
  · simp only [fixOf, FD.fixed, FD.kept, hkn, List.filter_nil, List.append_nil, hp, fixedGo, PK.isFixed, if_true, Bool.false_eq_true, if_false, List.map_cons, List.map_nil, List.mem_singleton] at hq; subst hq; exact ⟨by simp; omega, by simp [Array.getD_eq_getD_getElem?, Array.getElem?_append]⟩
 exact zNP hp hr hkn hspec hn hbs hin
theorem zP0 {fd2 : FD} (hp : fd2.sig.params = [.boxr SrcT, .ro (.int .i64)]) (hr : fd2.sig.res = [(.own, false, (.int .i64))]) (hkn : fd2.keeps = []) (q5 : 2 ≤ fd2.fn.ntmps) {x : SrcT.den} {y : ((.int .i64) : Ty).den} {outs : List TV}
  (hspec : FnSpec P E fd2 [⟨SrcT, x⟩, ⟨(.int .i64), y⟩] outs) {w : World} {G : Nat → Prop} {bs : Nat} (hs : SrcAt w G bs x) :
  Calls P fd2.id #[.pointer (some ⟨bs, 0, none⟩), .int .i64 y] w fun e w' => e = .returned (.int .i64 (getTV (.int .i64) outs 0)) ∧ KeepB bs w w' ∧ SrcAt w' (fun b => G b ∨ w.heap.size ≤ b) bs (getTV SrcT outs 1) := by
 refine (zP1 hp hr hkn q5 hspec hs).mono ?_; rintro e w' ⟨ob, ρ, v, us, rfl, hpk, hwv, h1, h2⟩; exact ⟨zO9 hpk, h1, h2⟩
theorem zSV {fd2 : FD} (hp : fd2.sig.params = [.boxr SrcT, .ro (.int .i64)]) (hr : fd2.sig.res = [(.own, false, (.arr .u8 8))]) (hkn : fd2.keeps = []) (q5 : 2 ≤ fd2.fn.ntmps) {x : SrcT.den} {y : ((.int .i64) : Ty).den} {outs : List TV}
  (hspec : FnSpec P E fd2 [⟨SrcT, x⟩, ⟨(.int .i64), y⟩] outs) {w : World} {G : Nat → Prop} {bs : Nat} (hs : SrcAt w G bs x) :
  Calls P fd2.id #[.pointer (some ⟨bs, 0, none⟩), .int .i64 y] w fun e w' => e = .returned (.agg ((getTV (.arr .u8 8) outs 0).map (Value.int .u8)).toArray) ∧ (getTV (.arr .u8 8) outs 0).length = 8 ∧ KeepB bs w w' ∧ SrcAt w' (fun b => G b ∨ w.heap.size ≤ b) bs (getTV SrcT outs 1) := by
 refine (zP1 hp hr hkn q5 hspec hs).mono ?_; rintro e w' ⟨ob, ρ, v, us, rfl, hpk, hwv, h1, h2⟩
 cases v with
 | arr k m b =>
  simp only [packW] at hpk
  split at hpk
  · rename_i hk; obtain ⟨rfl, rfl⟩ := hk; simp only [Option.some.injEq, Prod.mk.injEq] at hpk; rw [← hpk.1]; exact ⟨by simp [wval, wcells], hwv, h1, h2⟩
  · simp at hpk
 | c cc => cases cc <;> simp [packW] at hpk
 | _ => simp [packW] at hpk
theorem zQx {fd2 : FD} (hp : fd2.sig.params = [.boxr SrcT, .ro (.slice (.int .i64))]) (hr : fd2.sig.res = [(.own, false, (.int .i64))]) (hkn : fd2.keeps = []) (q5 : 2 ≤ fd2.fn.ntmps) {x : SrcT.den} {y : ((.slice (.int .i64)) : Ty).den} {outs : List TV}
  (hspec : FnSpec P E fd2 [⟨SrcT, x⟩, ⟨(.slice (.int .i64)), y⟩] outs) {w : World} {G : Nat → Prop} {bs : Nat} (hs : SrcAt w G bs x) {ad2 : Option Addr} {cp2 : Nat} (y1 : RowW w false G 1 y.length ad2 cp2) (y2 : Elems w false (fun _ => G) (.int .i64) y ad2) :
  Calls P fd2.id #[.pointer (some ⟨bs, 0, none⟩), .slice ad2 y.length cp2] w fun e w' => e = .returned (.int .i64 (getTV (.int .i64) outs 0)) ∧ KeepB bs w w' ∧ SrcAt w' (fun b => G b ∨ w.heap.size ≤ b) bs (getTV SrcT outs 1) := by
 obtain ⟨hn, ys, h1, h2, cs, T, h3, h4⟩ := hs; obtain ⟨addr, cap, rfl, g1, g2⟩ := zKa h1; have hbs : bs < w.heap.size := (Array.getElem?_eq_some_iff.1 h3).1
 have hinit : fd2.init [⟨SrcT, x⟩, ⟨(.slice (.int .i64)), y⟩] = ⟨[.w (.c (.ptr 1000 0 0 0)), .w (.c (.sl 1016))] ++ List.replicate (fd2.fn.ntmps - 2) .undef,
   Objs.none.upds ([(1000, .box .own (.st [.sl 1001, .int .i64 x.2.1, .int .u64 x.2.2])), (1001, .row .ro (.int .u8) x.1)] ++ [(1016, .row .ro (.int .i64) y)])⟩ := by
  simp [FD.init, hp, initPs, PK.init, unpackW, unpackC, idOf, getTV]
 have hG : ∀ b, G b → b ≠ bs := fun b hb e => hn (e ▸ hb)
 let col : Col := fun b => if b = bs then some (1000, 0) else none
 have hro : ∀ b, G b → RO col (fun b => G b ∨ w.heap.size ≤ b ∨ b = bs) b := fun b hb => ⟨.inl (by simp [col, hG b hb]), .inl hb⟩
 have hin : Inv w (fun b => b = bs) G (fixOf fd2 [.pointer (some ⟨bs, 0, none⟩), .slice ad2 y.length cp2]) (fd2.init [⟨SrcT, x⟩, ⟨(.slice (.int .i64)), y⟩])
   (fun o => if o = 1000 then ⟨some ⟨bs, 0, none⟩, 3, 0⟩ else if o = 1001 then ⟨addr, x.1.length, cap⟩ else ⟨ad2, y.length, cp2⟩) col
   ⟨[.pointer (some ⟨bs, 0, none⟩), .slice ad2 y.length cp2].toArray ++ Array.replicate (fd2.fn.ntmps - [Value.pointer (some ⟨bs, 0, none⟩), .slice ad2 y.length cp2].length) undef, []⟩ w := by
  rw [hinit]
  refine ⟨rfl, by simp; omega, fun i v hi => ?_, fun o z hz => ?_, fun b o c hb => ?_, fun _ _ _ => rfl, Nat.le_refl _, fun q hq => ?_, Like.refl w⟩
  · match i with
    | 0 =>
     simp only [List.cons_append, List.getElem?_cons_zero, Option.some.injEq] at hi; subst hi; exact .inr ⟨by simp [wfV, wfW, wfC, Objs.upds, Objs.upd], by simp [vval, wval, cval, Loc.at, Array.getElem?_append]⟩
    | 1 =>
     simp only [List.cons_append, List.getElem?_cons_succ, List.getElem?_cons_zero, Option.some.injEq] at hi; subst hi; exact .inr ⟨by simp [wfV, wfW, wfC, Objs.upds, Objs.upd], by simp [vval, wval, cval, Array.getElem?_append]⟩
    | i + 2 =>
     simp only [List.cons_append, List.nil_append, List.getElem?_cons_succ, List.getElem?_replicate] at hi
     split at hi
     · simp only [Option.some.injEq] at hi; exact .inl hi.symm
     · simp at hi
  · rcases kc hz with hm | ⟨hm, _⟩
    · simp only [List.cons_append, List.nil_append, List.mem_cons, List.not_mem_nil, or_false, Prod.mk.injEq] at hm
      rcases hm with ⟨rfl, rfl⟩ | ⟨rfl, rfl⟩ | ⟨rfl, rfl⟩
      · refine ⟨bs, rfl, hbs, ?_, rfl, ?_, by simp [okO, col], fun _ => ⟨cs, T, h3, h4⟩⟩
        · intro c hc; simp only [List.mem_cons, List.not_mem_nil, or_false] at hc; rcases hc with rfl | rfl | rfl <;> simp [wfC, Objs.upds, Objs.upd]
        · intro j v hv; exact h2 j v (by simpa [wcells, cval] using hv)
      · exact ⟨rfl, g1.frame id (Nat.le_refl _) (fun b _ hb => ⟨hro b hb, rfl⟩), g2.frame id (Nat.le_refl _) (fun _ _ b _ hb => ⟨hro b hb, rfl⟩) (fun _ _ _ => rfl)⟩
      · exact ⟨rfl, y1.frame id (Nat.le_refl _) (fun b _ hb => ⟨hro b hb, rfl⟩), y2.frame id (Nat.le_refl _) (fun _ _ b _ hb => ⟨hro b hb, rfl⟩) (fun _ _ _ => rfl)⟩
    · simp [Objs.none] at hm
  · simp only [col] at hb
    split at hb
    · rename_i e; simp only [Option.some.injEq, Prod.mk.injEq] at hb; obtain ⟨rfl, rfl⟩ := hb; exact ⟨.inr e, by omega, by simp [Objs.upds, Objs.upd]⟩
    · simp at hb
  · simp only [fixOf, FD.fixed, FD.kept, hkn, List.filter_nil, List.append_nil, hp, fixedGo, PK.isFixed, if_true, Bool.false_eq_true, if_false, List.map_cons, List.map_nil, List.mem_singleton] at hq; subst hq; exact ⟨by simp; omega, by simp [Array.getD_eq_getD_getElem?, Array.getElem?_append]⟩
 refine (zNP hp hr hkn hspec hn hbs hin).mono ?_; rintro e w' ⟨ob, ρ, v, us, rfl, hpk, hwv, h1, h2⟩; exact ⟨zO9 hpk, h1, h2⟩
end
section
variable {P : Program} {E : Env}
theorem zN4 {fd2 : FD} (hp : fd2.sig.params = [.ro (.slice (.int .u8))]) (hr : fd2.sig.res = [(.ro, true, SrcT)]) (hkn : fd2.keeps = []) (q5 : 1 ≤ fd2.fn.ntmps) {y : List Int} {outs : List TV}
  (hspec : FnSpec P E fd2 [⟨.slice (.int .u8), y⟩] outs) {w : World} {G : Nat → Prop} {ad2 : Option Addr} {cp2 : Nat} (y1 : RowW w false G 1 y.length ad2 cp2) (y2 : Elems w false (fun _ => G) (.int .u8) y ad2) (hGs : ∀ b, G b → b < w.heap.size) :
  Calls P fd2.id #[.slice ad2 y.length cp2] w fun e w' => ∃ bs, e = .returned (.pointer (some ⟨bs, 0, none⟩)) ∧ w.heap.size ≤ bs ∧ KeepA w w' ∧ ∃ G' : Nat → Prop, (∀ b, G' b → G b ∨ w.heap.size ≤ b) ∧ SrcAt w' G' bs (getTV SrcT outs 0) := by
 have hinit : fd2.init [⟨.slice (.int .u8), y⟩] = ⟨[.w (.c (.sl 1000))] ++ List.replicate (fd2.fn.ntmps - 1) .undef, Objs.none.upds [(1000, .row .ro (.int .u8) y)]⟩ := by
  simp [FD.init, hp, initPs, PK.init, unpackW, idOf, getTV]
 have hro : ∀ b, G b → RO (fun _ => none) (fun b => G b ∨ w.heap.size ≤ b ∨ False) b := fun b hb => ⟨.inl rfl, .inl hb⟩
 have hin : Inv w (fun _ => False) G (fixOf fd2 [.slice ad2 y.length cp2]) (fd2.init [⟨.slice (.int .u8), y⟩]) (fun _ => ⟨ad2, y.length, cp2⟩) (fun _ => none)
   ⟨[.slice ad2 y.length cp2].toArray ++ Array.replicate (fd2.fn.ntmps - [Value.slice ad2 y.length cp2].length) undef, []⟩ w := by
  rw [hinit]
  refine ⟨rfl, by simp; omega, fun i v hi => ?_, fun o z hz => ?_, fun b o c hb => by simp at hb, fun _ _ _ => rfl, Nat.le_refl _, fun q hq => ?_, Like.refl w⟩
  · match i with
    | 0 =>
     simp only [List.cons_append, List.getElem?_cons_zero, Option.some.injEq] at hi; subst hi; exact .inr ⟨by simp [wfV, wfW, wfC, Objs.upds, Objs.upd], by simp [vval, wval, cval, Array.getElem?_append]⟩
    | i + 1 =>
     simp only [List.cons_append, List.nil_append, List.getElem?_cons_succ, List.getElem?_replicate] at hi
     split at hi
     · simp only [Option.some.injEq] at hi; exact .inl hi.symm
     · simp at hi
  · rcases kc hz with hm | ⟨hm, _⟩
    · simp only [List.mem_cons, List.not_mem_nil, or_false, Prod.mk.injEq] at hm; obtain ⟨rfl, rfl⟩ := hm; exact ⟨rfl, y1.frame id (Nat.le_refl _) (fun b _ hb => ⟨hro b hb, rfl⟩), y2.frame id (Nat.le_refl _) (fun _ _ b _ hb => ⟨hro b hb, rfl⟩) (fun _ _ _ => rfl)⟩
    · simp [Objs.none] at hm
  · simp [fixOf, FD.fixed, FD.kept, hkn, hp, fixedGo, PK.isFixed] at hq
 refine Calls.mono (hspec w _ _ _ _ [.slice ad2 y.length cp2] (by rw [hp]; rfl) (Kept.nil hkn) hin) ?_; rintro e w' ⟨s', ρ', col', a', ws, rfl, hi', hfin, hws, hwf⟩; obtain ⟨ws2, xs, us, ro, zs, vs, ro', r1, r2, r3, r4, r5, rfl⟩ := jL hfin; rw [hws] at r1; simp only [Option.some.injEq] at r1; subst r1; rw [hr] at r2
 match ws, r2 with
 | [v], r2 =>
  simp only [packRes] at r2
  split at r2
  · rename_i x1 u1 v1 x2 u2 v2 k1 k2; simp only [Option.some.injEq, Prod.mk.injEq] at k2 r2; obtain ⟨rfl, rfl, rfl⟩ := k2; obtain ⟨rfl, _, _⟩ := r2; simp only [packRes1] at k1
    split at k1
    · rename_i p hpk; obtain ⟨o, x0, x', us', rfl, hb, hpw, rfl⟩ := kQ hpk; simp only [Option.some.injEq, Prod.mk.injEq] at k1; obtain ⟨rfl, _, _⟩ := k1; obtain ⟨b, b1, b2, b3, b4, b5, b6, b7⟩ := hi'.objs o _ hb; obtain ⟨cs', T', c1, c2⟩ := b7 rfl; have b6' : col' b = some (o, 0) := b6; have hnew : w.heap.size ≤ b := by
       rcases (hi'.cold b o 0 b6').1 with g | g
       · exact g
       · exact g.elim
      have hlen : (wcells ρ' x0).length = 3 := by
       have := (zDn (w := w') (ok := fun _ => True) b3 hpw (fun o m u xs hm ho => by
        obtain ⟨e1, e2, e3⟩ := hi'.objs o _ ho; exact ⟨e1, e2.frame (by simp) (Nat.le_refl _) (fun _ _ _ => ⟨trivial, rfl⟩), e3.frame (by simp) (Nat.le_refl _) (fun _ _ _ _ _ => ⟨trivial, rfl⟩) (fun _ _ _ => rfl)⟩)).len
       simpa [Ty.cells] using this
      have g3 : getTV SrcT (([(⟨SrcT, x'⟩ : TV)] ++ []) ++ zs) 0 = x' := by simp [getTV]
      rw [g3]; have e0 : vval ρ' (resV [.c (.ptr o 0 0 0)]) = .pointer (some ⟨b, 0, none⟩) := by simp [vval, resV, wval, cval, Loc.at, b1]
      refine ⟨b, by rw [e0], hnew, ⟨hi'.mono, hi'.same, fun k hk => hi'.low k hk (fun h => h)⟩, fun b2 => (G b2 ∨ w.heap.size ≤ b2) ∧ b2 ≠ b, fun b2 h => h.1, fun h => h.2 rfl, wcells ρ' x0, ?_, fun j v hv => b5 j v hv, cs', T', c1, by rw [c2, b4, hlen]⟩; refine zDn b3 hpw (fun o2 m u xs hm ho => ?_); have hk2 : ∀ b2, RO col' (fun b' => G b' ∨ w.heap.size ≤ b' ∨ False) b2 → ((G b2 ∨ w.heap.size ≤ b2) ∧ b2 ≠ b) := fun b2 h => by
       refine ⟨h.2.imp id (fun g => g.elim id False.elim), ?_⟩; rintro rfl; rcases h.1 with e | ⟨_, _, e⟩ <;> rw [b6'] at e <;> simp at e
      obtain ⟨e1, e2, e3⟩ := hi'.objs o2 _ ho; have hcold : ∀ b2 c, col' b2 = some (o2, c) → ((G b2 ∨ w.heap.size ≤ b2) ∧ b2 ≠ b) := fun b2 c hb2 => by
       refine ⟨?_, ?_⟩
       · rcases (hi'.cold b2 o2 c hb2).1 with g | g
         · exact .inr g
         · exact g.elim
       · rintro rfl; rw [b6'] at hb2; simp only [Option.some.injEq, Prod.mk.injEq] at hb2; obtain ⟨rfl, _⟩ := hb2; rw [hb] at ho; simp at ho
      refine ⟨e1, e2.frame (by simp) (Nat.le_refl _) (fun b2 _ hb2 => ⟨?_, rfl⟩), e3.frame (by simp) (Nat.le_refl _) (fun i _ b2 _ hb2 => ⟨?_, rfl⟩) (fun _ _ _ => rfl)⟩
      · cases m with
        | own => exact hcold b2 0 hb2
        | sh => exact hcold b2 0 hb2
        | ro => exact hk2 b2 hb2
      · cases m with
        | own => exact hcold b2 _ hb2
        | sh => exact hk2 b2 hb2
        | ro => exact hk2 b2 hb2
    · simp at k1
  · simp at r2
 | [], r2 => simp [packRes] at r2
 | _ :: _ :: _, r2 =>
  simp only [packRes] at r2
  split at r2
  · rename_i k2; simp at k2
  · simp at r2
theorem zNs {fd2 : FD} {u : Ty} (hp : fd2.sig.params = [.ro (.arr .u8 8), .ro (.int .i64)]) (hr : fd2.sig.res = [(.own, false, .slice u)]) (hkn : fd2.keeps = []) (q5 : 2 ≤ fd2.fn.ntmps) {y : List Int} {n : Int} (hy : y.length = 8) {outs : List TV}
  (hspec : FnSpec P E fd2 [⟨.arr .u8 8, y⟩, ⟨.int .i64, n⟩] outs) {w : World} :
  Calls P fd2.id #[.agg (y.map (Value.int .u8)).toArray, .int .i64 n] w fun e w' => KeepA w w' ∧
   ∃ (col' : Col) (o' : Nat) (addr' : Option Addr) (cap' : Nat), e = .returned (.slice addr' (getTV (.slice u) outs 0).length cap') ∧ (∀ b o c, col' b = some (o, c) → w.heap.size ≤ b ∧ b < w'.heap.size) ∧
    RowW w' true (fun b => col' b = some (o', 0)) u.cells (getTV (.slice u) outs 0).length addr' cap' ∧ Elems w' true (fun i b => col' b = some (o', i + 1)) u (getTV (.slice u) outs 0) addr' := by
 have hinit : fd2.init [⟨.arr .u8 8, y⟩, ⟨.int .i64, n⟩] = ⟨[.w (.arr .u8 8 y), .w (.c (.int .i64 n))] ++ List.replicate (fd2.fn.ntmps - 2) .undef, Objs.none⟩ := by
  simp [FD.init, hp, initPs, PK.init, unpackW, idOf, getTV, Objs.upds]
 have hin : Inv w (fun _ => False) (fun _ => True) (fixOf fd2 [.agg (y.map (Value.int .u8)).toArray, .int .i64 n]) (fd2.init [⟨.arr .u8 8, y⟩, ⟨.int .i64, n⟩]) (fun _ => ⟨none, 0, 0⟩) (fun _ => none)
   ⟨[.agg (y.map (Value.int .u8)).toArray, .int .i64 n].toArray ++ Array.replicate (fd2.fn.ntmps - [Value.agg (y.map (Value.int .u8)).toArray, .int .i64 n].length) undef, []⟩ w := by
  rw [hinit]
  refine ⟨rfl, by simp; omega, fun i v hi => ?_, fun o z hz => by simp [Objs.none] at hz, fun b o c hb => by simp at hb, fun _ _ _ => rfl, Nat.le_refl _, fun q hq => ?_, Like.refl w⟩
  · match i with
    | 0 =>
     simp only [List.cons_append, List.getElem?_cons_zero, Option.some.injEq] at hi; subst hi; exact .inr ⟨by simp [wfV, wfW, hy], by simp [vval, wval, wcells, Array.getElem?_append]⟩
    | 1 =>
     simp only [List.cons_append, List.getElem?_cons_succ, List.getElem?_cons_zero, Option.some.injEq] at hi; subst hi; exact .inr ⟨by simp [wfV, wfW, wfC], by simp [vval, wval, cval, Array.getElem?_append]⟩
    | i + 2 =>
     simp only [List.cons_append, List.nil_append, List.getElem?_cons_succ, List.getElem?_replicate] at hi
     split at hi
     · simp only [Option.some.injEq] at hi; exact .inl hi.symm
     · simp at hi
  · simp [fixOf, FD.fixed, FD.kept, hkn, hp, fixedGo, PK.isFixed] at hq
 refine Calls.mono (hspec w _ _ _ _ [.agg (y.map (Value.int .u8)).toArray, .int .i64 n] (by rw [hp]; rfl) (Kept.nil hkn) hin) ?_; rintro e w' ⟨s', ρ', col', a', ws, rfl, hi', hfin, hws, hwf⟩; obtain ⟨ws2, xs, us, ro, zs, vs, ro', r1, r2, r3, r4, r5, rfl⟩ := jL hfin; rw [hws] at r1; simp only [Option.some.injEq] at r1; subst r1; rw [hr] at r2; refine ⟨⟨hi'.mono, hi'.same, fun b hb => hi'.low b hb (fun h => h)⟩, col', ?_⟩; have hcold : ∀ b o c, col' b = some (o, c) → w.heap.size ≤ b ∧ b < w'.heap.size := fun b o c hb => ⟨(hi'.cold b o c hb).1.elim id False.elim, (hi'.cold b o c hb).2.1⟩
 match ws, r2 with
 | [v], r2 =>
  simp only [packRes] at r2
  split at r2
  · rename_i x1 u1 v1 x2 u2 v2 h1 h2; simp only [Option.some.injEq, Prod.mk.injEq] at h2 r2; obtain ⟨rfl, rfl, rfl⟩ := h2; obtain ⟨rfl, _, _⟩ := r2; simp only [packRes1] at h1
    split at h1
    · rename_i x us' hpk
      split at h1
      · rename_i hown; simp only [Option.some.injEq, Prod.mk.injEq] at h1; obtain ⟨rfl, _, _⟩ := h1; have g1 : getTV (.slice u) (([(⟨.slice u, x⟩ : TV)] ++ []) ++ zs) 0 = x := by simp [getTV]
        rw [g1]
        match v, hpk with
        | .c .nil, hpk =>
         simp only [packW, Option.some.injEq, Prod.mk.injEq] at hpk; obtain ⟨rfl, _⟩ := hpk; exact ⟨0, none, 0, rfl, hcold, ⟨Nat.le_refl _, fun _ => ⟨rfl, fun _ => rfl⟩, fun a ha => by simp at ha⟩, fun i y hy => by simp at hy⟩
        | .c (.sl o'), hpk =>
         simp only [packW] at hpk
         split at hpk
         · rename_i m ys' hrw; simp only [Option.some.injEq, Prod.mk.injEq] at hpk; obtain ⟨rfl, rfl⟩ := hpk; have hm : m = .own := by
            simp only [List.all_cons, List.all_nil, Bool.and_true] at hown
            cases m <;> simp_all [Mode.le]
           subst hm; obtain ⟨t1, t2, t3⟩ := hi'.row hrw; refine ⟨o', (ρ' o').addr, (ρ' o').cap, ?_, hcold, t2, t3⟩; rw [← t1]
           rfl
         · simp at hpk
        | .c (.int _ _), hpk => simp [packW] at hpk
        | .c (.bool _), hpk => simp [packW] at hpk
        | .c (.ptr _ _ _ _), hpk => simp [packW] at hpk
        | .arr _ _ _, hpk => simp [packW] at hpk
        | .barr _ _, hpk => simp [packW] at hpk
        | .st _, hpk => simp [packW] at hpk
      · simp at h1
    · simp at h1
  · simp at r2
 | [], r2 => simp [packRes] at r2
 | _ :: _ :: _, r2 =>
  simp only [packRes] at r2
  split at r2
  · rename_i h2; simp at h2
  · simp at r2
end
end Go.Ev
namespace Go.Ev
def enumL : Nat → List Value → List (Nat × Value)
 | _, [] => []
 | n, v :: r => (n, v) :: enumL (n + 1) r
theorem zK2 : ∀ (vs : List Value) (n : Nat), (enumL n vs).length = vs.length
 | [], _ => rfl
 | v :: r, n => by simp [enumL, zK2 r]
theorem zK3 : ∀ (vs : List Value) (n k : Nat) (p : Nat × Value), (enumL n vs)[k]? = some p → p.1 = n + k ∧ vs[k]? = some p.2
 | [], n, k, p, h => by simp [enumL] at h
 | v :: r, n, 0, p, h => by
  simp only [enumL, List.getElem?_cons_zero, Option.some.injEq] at h; subst h; exact ⟨rfl, rfl⟩
 | v :: r, n, k + 1, p, h => by
  simp only [enumL, List.getElem?_cons_succ] at h; obtain ⟨h1, h2⟩ := zK3 r (n + 1) k p h; exact ⟨by omega, by simpa using h2⟩
section
variable {P : Program} {E : Env} {a : Act} {w : World} {o : Oper}
theorem zTe (hE : EnvTy P E) {T : TypeId} {t : Ty} (ht : E.ty T = some (.slice t)) (h1 : t.cells = 1) {parts : Array (Nat × Operand)} {len : Nat} (hop : o.op = .buildSlice T len parts) {vs : List Value} (hl : len = vs.length) (h64 : vs.length ≤ 64)
  (hp : (parts.toList.map fun p => (p.1, a.eval p.2)) = enumL 0 vs) (hc : ∀ v ∈ vs, v.cells = #[v]) :
  ∃ e, (execOp a.eval o).run P w = .ok (.value (.slice (some ⟨w.heap.size, 0, none⟩) vs.length vs.length)) (w.alloc (.cells vs.toArray e)) := by
 obtain ⟨_, e, hT, hte⟩ := hE.ty T _ ht; obtain ⟨i, hi, hz, hs, hb, hc1, hc2⟩ := hte.base; subst hl; refine ⟨e, ?_⟩; have hmap : ((parts.map fun p => (p.1, a.eval p.2)).toList) = enumL 0 vs := by rw [Array.toList_map]; exact hp
 have hfl : ∀ l : List Value, (l.map fun v => [v]).flatten = l := by
  intro l
  induction l with
  | nil => rfl
  | cons v l ih => simp [ih]
 have hfill : ∀ init : List Value, init.length = vs.length * t.cells → Instr.fill (fun i => some (i * t.cells, t.cells)) init.toArray (enumL 0 vs) = some vs.toArray := by
  intro init hinit; rw [h1] at hinit ⊢
  have := zCb 1 (vs.map fun v => [v]) (enumL 0 vs) 0 init (fun x hx => by obtain ⟨v, _, rfl⟩ := List.mem_map.1 hx; rfl) (by simp [zK2])
   (fun k p x hk hx => by
    obtain ⟨e1, e2⟩ := zK3 vs 0 k p hk; rw [List.getElem?_map, Option.map_eq_some_iff] at hx; obtain ⟨v, hv, rfl⟩ := hx; rw [hv] at e2; simp only [Option.some.injEq] at e2; rw [← e2]; exact ⟨e1, by simpa using hc v (List.mem_of_getElem? hv)⟩) (by simp; omega)
  rw [this, hfl]; simp only [Nat.zero_mul, List.take_zero, List.nil_append, Nat.zero_add, List.length_map, Nat.mul_one]; rw [List.drop_of_length_le (by omega), List.append_nil]
 have hbig : ¬ (16777216 < vs.length * t.cells) := by rw [h1]; omega
 by_cases h0 : vs.length * t.cells = 0
 · have hv0 : vs = [] := by
    rw [h1] at h0; exact List.eq_nil_of_length_eq_zero (by omega)
   subst hv0; have hp1 : parts = #[] := by
    have : (parts.toList.map fun p => (p.1, a.eval p.2)).length = 0 := by rw [hp]; rfl
    apply Array.toList_inj.1; simpa using this
   simp [execOp, hop, Instr.buildSlice, run_underlying hT, zH hi, hs, hp1, Instr.fill, newRow, Array.range_zero']
 · have hf0 := hfill ((Array.range (vs.length * t.cells)).map (fun x => ((wval (fun _ => ⟨none, 0, 0⟩) t.zeroW).cells)[x % ((wval (fun _ => ⟨none, 0, 0⟩) t.zeroW).cells).size]!)).toList (by simp); simp only [Array.toArray_toList] at hf0; simp [execOp, hop, Instr.buildSlice, run_underlying hT, zH hi, hs, hbig, h0, kE hi hz, hp, hf0, newRow]
theorem zKJ {ops : Array Oper} {Q : Exit → Act → World → Prop} {i : Nat} {rest : List Nat} {d : Nat} (hE : EnvTy P E) {T : TypeId} {t : Ty} (ht : E.ty T = some (.slice t)) (h1 : t.cells = 1) (ho : ops[i]? = some o) (hg : o.guard = none) (hd : o.dst = some d)
  {parts : Array (Nat × Operand)} {len : Nat} (hop : o.op = .buildSlice T len parts) (vs : List Value) (hl : len = vs.length) (h64 : vs.length ≤ 64) (hp : (parts.toList.map fun p => (p.1, a.eval p.2)) = enumL 0 vs) (hc : ∀ v ∈ vs, v.cells = #[v])
  (h : ∀ w', KeepA w w' → w'.heap.size = w.heap.size + 1 → Row w' w.heap.size vs.length → (∀ j v, vs[j]? = some v → w'.cell? ⟨w.heap.size, j, none⟩ = some v) →
   wpOps P ops Q rest (a.put (some d) (.slice (some ⟨w.heap.size, 0, none⟩) vs.length vs.length)) w') : wpOps P ops Q (i :: rest) a w := by
 obtain ⟨e, hr⟩ := zTe (P := P) (a := a) (w := w) hE ht h1 hop hl h64 hp hc; refine zL ho hg hd hr (h _ (zN0 w _) (zf w _) ⟨vs.toArray, e, heap_alloc_new w _, by simp⟩ (fun j v hv => ?_)); rw [jM]; exact hv
theorem zQK {ops : Array Oper} {Q : Exit → Act → World → Prop} {i : Nat} {rest : List Nat} {d : Nat} (hE : EnvTy P E) {T : TypeId} {t : Ty} (ht : E.ty T = some (.slice t)) (h1 : t.cells = 1) (ho : ops[i]? = some o) (hg : o.guard = none) (hd : o.dst = some d)
  {x y : Operand} (hop : o.op = .call { callee := .builtin .append, args := #[x, y], argTypes := #[T, T] }) {addr : Option Addr} {n cap b2 cap2 : Nat} {olds : List Value} {v : Value} {ok : Nat → Prop} (hx : a.eval x = .slice addr n cap) (hy : a.eval y = .slice (some ⟨b2, 0, none⟩) 1 cap2)
  (hrow : RowW w true ok 1 n addr cap) (hlo : olds.length = n) (hco : ∀ j v, olds[j]? = some v → cellAt w addr j = some v) (hv : w.cell? ⟨b2, 0, none⟩ = some v) (hv1 : v.oneCell' = true) (hlim : n + 1 ≤ lim)
  (h : ∀ w' addr' cap', w.heap.size ≤ w'.heap.size → Like w w' → (∀ b, b < w.heap.size → (∀ ad, addr = some ad → b ≠ ad.block) → w'.heap[b]? = w.heap[b]?) → (∀ j u, (olds ++ [v])[j]? = some u → cellAt w' addr' j = some u) →
   RowW w' true (fun b => w.heap.size ≤ b ∨ ok b) 1 (n + 1) addr' cap' → wpOps P ops Q rest (a.put (some d) (.slice addr' (n + 1) cap')) w') : wpOps P ops Q (i :: rest) a w := by
 obtain ⟨_, e, hT, hte⟩ := hE.ty T _ ht; obtain ⟨ti, hi, hz, hs, hb, hc1, hc2⟩ := hte.base; have hzl : (wcells (fun _ => ⟨none, 0, 0⟩) t.zeroW).length = t.cells := (zAl (fun _ => ⟨none, 0, 0⟩) hte w false (fun _ => True)).len; have hzc : (wval (fun _ => ⟨none, 0, 0⟩) t.zeroW).cells.size = ti.size := by rw [zI, hs]; simpa using hzl
 rw [h1] at hs; rw [← hs] at hrow
 obtain ⟨w', addr', cap', g1, g2, g3, g4, g5, g6⟩ := jo (P := P) (ty := o.type) hT hi hz hzc hb (by omega) hrow (olds := olds) (news := [v]) (m := 1) (cap2 := cap2) (addr2 := some ⟨b2, 0, none⟩) (by rw [hs]; omega) hco (by rw [hs]; simp)
  (fun j u hu => by
   match j with
   | 0 =>
    simp only [List.getElem?_cons_zero, Option.some.injEq] at hu; subst hu; simpa [cellAt] using hv
   | j + 1 => simp at hu) (by simp) (fun ad had _ => by simp only [Option.some.injEq] at had; rw [← had]) (by simpa using hv1) hlim
 have hr : (execOp a.eval o).run P w = .ok (.value (.slice addr' (n + 1) cap')) w' := by
  simp [execOp, hop, resolve, hx, hy, invoke, builtin, g1]
 refine zL ho hg hd hr (h w' addr' cap' g2 g3 (fun b hb hn => ?_) g4 ?_)
 · rcases g6 with ⟨_, _, _, q1, q2⟩ | ⟨_, _, q1, _⟩
   · cases had : addr with
     | none => rw [q1 had]
     | some ad => exact (q2 ad had).1 b (hn ad had)
   · exact q1 b hb
 · refine ⟨g5, fun e => ?_, fun ad had _ => ?_⟩
   · rcases g6 with ⟨e1, e2, _, _, _⟩ | ⟨e1, _⟩
     · have := (hrow.2.1 (e1 ▸ e)); have c0 := this.2 rfl; omega
     · rw [e1] at e; simp at e
   · rcases g6 with ⟨e1, e2, q0, _, q2⟩ | ⟨e1, q1, _, cs, T', q3, q4⟩
     · rw [e1] at had; rw [e2]; obtain ⟨k1, k2, k3, k4⟩ := hrow.2.2 ad had (.inr rfl); obtain ⟨_, cs, T', q3, q4⟩ := q2 ad had; rw [hs] at q4; exact ⟨k1, by omega, .inr k3, fun _ => ⟨cs, T', q3, q4⟩⟩
     · rw [e1] at had; simp only [Option.some.injEq] at had; subst had; rw [hs] at q4; exact ⟨rfl, by simp only; omega, .inl (Nat.le_refl _), fun _ => ⟨cs, T', q3, by simpa using q4⟩⟩
theorem zMy {fn : Func} {d1 d2 : Nat} {v1 v2 : Value} (h : fn.results = #[.tmp d1, .tmp d2]) (h1 : a.eval (.tmp d1) = v1) (h2 : a.eval (.tmp d2) = v2) : (results fn a.tmps).run P w = .ok (.tuple #[v1, v2]) w := by
 rw [zIs, h]; have e1 : a.tmps.getD d1 undef = v1 := h1; have e2 : a.tmps.getD d2 undef = v2 := h2; simp [resF, e1, e2]
theorem zR0 (hE : EnvTy P E) {T : TypeId} {t : Ty} (ht : E.ty T = some t) (hts : t.scalar = true) {x : Operand} {b off : Nat} {v : Value} (hop : o.op = .load T x) (hx : a.eval x = .pointer (some ⟨b, off, none⟩)) (hc : w.cell? ⟨b, off, none⟩ = some v) :
  (execOp a.eval o).run P w = .ok (.value v) w := by
 have := zQ hE ht hts hc; simp [execOp, hop, hx, this]
theorem zSj {ops : Array Oper} {Q : Exit → Act → World → Prop} {i : Nat} {rest : List Nat} {blk off m : Nat} {v : Value} (hE : EnvTy P E) {T : TypeId} {t : Ty} (ht : E.ty T = some t) (h1 : t.cells = 1) (ho : ops[i]? = some o) (hg : o.guard = none) (hd : o.dst = none)
  {x y : Operand} (hop : o.op = .store T x y) (hx : a.eval x = .pointer (some ⟨blk, off, none⟩)) (hy : a.eval y = v) (hv : v.oneCell' = true) (hvc : v.cells = #[v]) (hr : Row w blk m) (hfit : off + 1 ≤ m)
  (h : ∀ w', KeepB blk w w' → Row w' blk m → w'.cell? ⟨blk, off, none⟩ = some v → (∀ q, q ≠ off → w'.cell? ⟨blk, q, none⟩ = w.cell? ⟨blk, q, none⟩) → wpOps P ops Q rest a w') : wpOps P ops Q (i :: rest) a w := by
 obtain ⟨w', g1, g2, g3, g4, g5⟩ := zOv (P := P) hr (off := off) (vs := [v]) hfit (by simpa using hv); obtain ⟨ti, hi, hz, hs, _, hc1, _⟩ := (hE T _ ht).base; have hrun : (execOp a.eval o).run P w = .ok .skip w' := by
  simp [execOp, hop, hx, hy, Instr.storeAt, Instr.sureAddr, storeVar, zH hi, hs, h1, hvc, g1]
 refine zSk ho hg hd hrun (h w' g2 g3 (by simpa using g4 0 v rfl) (fun q hq => g5 q (by simp; omega)))
end
end Go.Ev
namespace Go.Ev
abbrev LIT : Ty := .slice (.int .i64)
section
variable {P : Program} {E : Env}
theorem zMF {f : FuncId} {fn : Func} {c : Code} {S : Value} {w : World} {R : Ending → World → Prop} {m : Nat} (hf : P.funcs[f]? = some fn) (hb : fn.body = some c) (hm : fn.ntmps = m) (h2 : 1 ≤ m)
  (h : ∀ a : Act, a.tmps.size = m → a.defers = [] → a.eval (.tmp 0) = S → c.wp P (bodyPost P fn R) a w) : Calls P f #[S] w R := by
 refine calls_of_wp hf hb (h _ ?_ rfl ?_)
 · simp [hm]; omega
 · show (_ : Array Value).getD 0 undef = _; simp [Array.getD_eq_getD_getElem?, Array.getElem?_append]
theorem zFL {w : World} {own : Bool} {ok : Nat → Prop} {b : List Int} {ys : List Value} (h : TRep w own ok LIT b ys) : ∃ ad cp, ys = [.slice ad b.length cp] ∧ RowW w own ok 1 b.length ad cp ∧ ∀ k x, b[k]? = some x → cellAt w ad k = some (.int .i64 x) := by
 simp only [TRep] at h; obtain ⟨ad, cp, rfl, h1, h2⟩ := h; refine ⟨ad, cp, rfl, h1, fun k x hx => ?_⟩; obtain ⟨ys, rfl, g⟩ := h2 k x hx; have := g 0 _ rfl; simpa [Ty.cells] using this
theorem zDp {w : World} {own : Bool} {ok : Nat → Prop} {b : List Int} {ad : Option Addr} {cp : Nat} (h1 : RowW w own ok 1 b.length ad cp) (h2 : ∀ k x, b[k]? = some x → cellAt w ad k = some (.int .i64 x)) : TRep w own ok LIT b [.slice ad b.length cp] := by
 simp only [TRep]; refine ⟨ad, cp, rfl, h1, fun k x hx => ⟨[.int .i64 x], rfl, fun j v hv => ?_⟩⟩
 match j with
 | 0 =>
  simp only [List.getElem?_cons_zero, Option.some.injEq] at hv; subst hv; simpa [Ty.cells] using h2 k x hx
 | j + 1 => simp at hv
structure DpM (w W : World) (G : Nat → Prop) (bs : Nat) (s : SrcT.den) (B : List (List Int)) (cB : Col) (oB : Nat) (adB : Option Addr) (cpB : Nat) (js : List Nat) (adO : Option Addr) (cpO i : Nat) : Prop where
 keep : KeepA w W
 src : SrcAt W G bs s
 gold : ∀ b, G b → b < W.heap.size
 gB : ∀ b, cB b ≠ none → ¬ G b
 bsn : w.heap.size ≤ bs ∧ bs < W.heap.size ∧ cB bs = none
 cnew : ∀ b o c, cB b = some (o, c) → w.heap.size ≤ b ∧ b < W.heap.size
 rowB : RowW W true (fun b => cB b = some (oB, 0)) 1 B.length adB cpB
 elB : Elems W true (fun i b => cB b = some (oB, i + 1)) LIT B adB
 rowO : RowW W true (fun b => w.heap.size ≤ b ∧ cB b = none ∧ b ≠ bs ∧ ¬ G b) 1 js.length adO cpO
 cellO : ∀ r j, js[r]? = some j → ∃ v, cellAt W adO r = some v ∧ cellAt W adB j = some v
 jsi : ∀ j ∈ js, j < i ∧ j < B.length
 inc : js.Pairwise (· < ·)
variable {w W : World} {G : Nat → Prop} {bs : Nat} {s : SrcT.den} {B : List (List Int)} {cB : Col} {oB : Nat} {adB : Option Addr} {cpB : Nat} {js : List Nat} {adO : Option Addr} {cpO i : Nat}
theorem DpM.mono (h : DpM w W G bs s B cB oB adB cpB js adO cpO i) {i' : Nat} (hi : i ≤ i') : DpM w W G bs s B cB oB adB cpB js adO cpO i' :=
 { h with jsi := fun j hj => ⟨Nat.lt_of_lt_of_le (h.jsi j hj).1 hi, (h.jsi j hj).2⟩ }
theorem DpM.drawn (h : DpM w W G bs s B cB oB adB cpB js adO cpO i) {W' : World} {s' : SrcT.den} (hk : KeepB bs W W') (hs : SrcAt W' (fun b => G b ∨ W.heap.size ≤ b) bs s') :
  DpM w W' (fun b => (G b ∨ W.heap.size ≤ b) ∧ b < W'.heap.size) bs s' B cB oB adB cpB js adO cpO i := by
 have hcb : ∀ b, cB b ≠ none → b ≠ bs ∧ b < W.heap.size := fun b hb => by
  refine ⟨fun e => hb (e ▸ h.bsn.2.2), ?_⟩
  cases hh : cB b with
  | none => exact absurd hh hb
  | some y => exact (h.cnew b y.1 y.2 hh).2
 have hsB : ∀ (c : Nat × Nat) b, b < W.heap.size → cB b = some c → cB b = some c ∧ W'.heap[b]? = W.heap[b]? := fun c b hb hc => ⟨hc, hk.2.2 b hb (hcb b (by rw [hc]; simp)).1⟩
 have hgen : ∀ (own : Bool) (es len : Nat) (ad : Option Addr) (cp : Nat) (ok : Nat → Prop), RowW W true ok es len ad cp → (∀ b, b < W.heap.size → ok b → b ≠ bs) → ∀ n, cellAt W' ad n = cellAt W ad n := fun own es len ad cp ok hr hok n => zV fun a ha => by
  obtain ⟨_, k2, k3, _⟩ := hr.2.2 a ha (.inr rfl); exact hk.2.2 _ k2 (hok _ k2 k3)
 have cO := hgen true 1 _ adO cpO _ h.rowO (fun b _ hb => hb.2.2.1); have cBB := hgen true 1 _ adB cpB _ h.rowB (fun b _ hb => (hcb b (by rw [hb]; simp)).1)
 refine ⟨⟨Nat.le_trans h.keep.1 hk.1, h.keep.2.1.trans hk.2.1, fun b hb => (hk.2.2 b (Nat.lt_of_lt_of_le hb h.keep.1) (by have := h.bsn.1; omega)).trans (h.keep.2.2 b hb)⟩, hs.keep (Nat.le_refl _) rfl (fun b hb hg => ⟨⟨hg, hb⟩, rfl⟩) (fun hg => hs.1 hg.1), fun b hb => hb.2,
  fun b hb hg => hg.1.elim (h.gB b hb) (fun g => by have := (hcb b hb).2; omega), ⟨h.bsn.1, Nat.lt_of_lt_of_le h.bsn.2.1 hk.1, h.bsn.2.2⟩, fun b o c hb => ⟨(h.cnew b o c hb).1, Nat.lt_of_lt_of_le (h.cnew b o c hb).2 hk.1⟩, h.rowB.frame id hk.1 (hsB _), ?_, ?_, fun r j hr => ?_, h.jsi, h.inc⟩
 · exact h.elB.frame id hk.1 (fun i _ b hb hc => hsB _ b hb hc) (fun hl ad ha => by
    obtain ⟨_, k2, k3, _⟩ := h.rowB.2.2 ad ha (.inr rfl); exact hk.2.2 _ k2 (hcb _ (by rw [k3]; simp)).1)
 · exact h.rowO.frame id hk.1 (fun b hb hok => ⟨⟨hok.1, hok.2.1, hok.2.2.1, fun hg => hg.1.elim hok.2.2.2 (fun g => by omega)⟩, hk.2.2 b hb hok.2.2.1⟩)
 · obtain ⟨v, v1, v2⟩ := h.cellO r j hr; exact ⟨v, by rw [cO]; exact v1, by rw [cBB]; exact v2⟩
theorem DpM.laid (h : DpM w W G bs s B cB oB adB cpB js adO cpO i) {W' : World} (hk : KeepA W W') : DpM w W' G bs s B cB oB adB cpB js adO cpO i := by
 have hgen : ∀ (len : Nat) (ad : Option Addr) (cp : Nat) (ok : Nat → Prop), RowW W true ok 1 len ad cp → ∀ n, cellAt W' ad n = cellAt W ad n := fun len ad cp ok hr n => zV fun a ha => by
  obtain ⟨_, k2, k3, _⟩ := hr.2.2 a ha (.inr rfl); exact hk.2.2 _ k2
 refine ⟨h.keep.trans hk, h.src.keep hk.1 (hk.2.2 _ h.bsn.2.1) (fun b hb hg => ⟨hg, hk.2.2 b hb⟩) h.src.1, fun b hb => Nat.lt_of_lt_of_le (h.gold b hb) hk.1, h.gB, ⟨h.bsn.1, Nat.lt_of_lt_of_le h.bsn.2.1 hk.1, h.bsn.2.2⟩,
  fun b o c hb => ⟨(h.cnew b o c hb).1, Nat.lt_of_lt_of_le (h.cnew b o c hb).2 hk.1⟩, h.rowB.frame id hk.1 (fun b hb hc => ⟨hc, hk.2.2 b hb⟩), h.elB.frame id hk.1 (fun i _ b hb hc => ⟨hc, hk.2.2 b hb⟩) (fun hl ad ha => by
   obtain ⟨_, k2, _, _⟩ := h.rowB.2.2 ad ha (.inr rfl); exact hk.2.2 _ k2), h.rowO.frame id hk.1 (fun b hb hc => ⟨hc, hk.2.2 b hb⟩), fun r j hr => ?_, h.jsi, h.inc⟩
 obtain ⟨v, v1, v2⟩ := h.cellO r j hr; exact ⟨v, by rw [hgen _ _ _ _ h.rowO]; exact v1, by rw [hgen _ _ _ _ h.rowB]; exact v2⟩
theorem DpM.taken (h : DpM w W G bs s B cB oB adB cpB js adO cpO i) (hi : i < B.length) {v : Value} (hv : cellAt W adB i = some v) {W' : World} {adO' : Option Addr} {cpO' : Nat} (hsz : W.heap.size ≤ W'.heap.size) (hlk : Like W W')
  (hk : ∀ b, b < W.heap.size → (∀ ad, adO = some ad → b ≠ ad.block) → W'.heap[b]? = W.heap[b]?) (hc : ∀ r j u, (js ++ [i])[r]? = some j → cellAt W adB j = some u → cellAt W' adO' r = some u)
  (hr : RowW W' true (fun b => W.heap.size ≤ b ∨ (w.heap.size ≤ b ∧ cB b = none ∧ b ≠ bs ∧ ¬ G b)) 1 (js.length + 1) adO' cpO') : DpM w W' G bs s B cB oB adB cpB (js ++ [i]) adO' cpO' (i + 1) := by
 have hob : ∀ ad, adO = some ad → w.heap.size ≤ ad.block ∧ cB ad.block = none ∧ ad.block ≠ bs ∧ ¬ G ad.block := fun ad ha => (h.rowO.2.2 ad ha (.inr rfl)).2.2.1; have kB : ∀ b, b < W.heap.size → cB b ≠ none → W'.heap[b]? = W.heap[b]? := fun b hb hc => hk b hb (fun ad ha e => hc (e ▸ (hob ad ha).2.1)); have cBB : ∀ n, cellAt W' adB n = cellAt W adB n := fun n => zV fun a ha => by
  obtain ⟨_, k2, k3, _⟩ := h.rowB.2.2 a ha (.inr rfl); exact kB _ k2 (by rw [k3]; simp)
 refine ⟨⟨Nat.le_trans h.keep.1 hsz, h.keep.2.1.trans hlk, fun b hb => (hk b (Nat.lt_of_lt_of_le hb h.keep.1) (fun ad ha e => by have := (hob ad ha).1; omega)).trans (h.keep.2.2 b hb)⟩,
  h.src.keep hsz (hk _ h.bsn.2.1 (fun ad ha e => (hob ad ha).2.2.1 e.symm)) (fun b hb hg => ⟨hg, hk b hb (fun ad ha e => (hob ad ha).2.2.2 (e ▸ hg))⟩) h.src.1, fun b hb => Nat.lt_of_lt_of_le (h.gold b hb) hsz, h.gB, ⟨h.bsn.1, Nat.lt_of_lt_of_le h.bsn.2.1 hsz, h.bsn.2.2⟩,
  fun b o c hb => ⟨(h.cnew b o c hb).1, Nat.lt_of_lt_of_le (h.cnew b o c hb).2 hsz⟩, h.rowB.frame id hsz (fun b hb hc => ⟨hc, kB b hb (by rw [hc]; simp)⟩), h.elB.frame id hsz (fun i _ b hb hc => ⟨hc, kB b hb (by rw [hc]; simp)⟩) (fun hl ad ha => by
   obtain ⟨_, k2, k3, _⟩ := h.rowB.2.2 ad ha (.inr rfl); exact kB _ k2 (by rw [k3]; simp)), ?_, fun r j hr => ?_, fun j hj => ?_, ?_⟩
 · rw [List.length_append]; refine hr.frame id (Nat.le_refl _) (fun b _ hb => ⟨?_, rfl⟩)
   rcases hb with hb | hb
   · refine ⟨Nat.le_trans h.keep.1 hb, ?_, ?_, fun hg => ?_⟩
     · cases hh : cB b with
       | none => rfl
       | some y =>
        have := (h.cnew b y.1 y.2 hh).2; omega
     · have := h.bsn.2.1; omega
     · have := h.gold b hg; omega
   · exact hb
 · have hj : j < B.length := by
    rw [List.getElem?_append] at hr
    split at hr
    · exact (h.jsi j (List.mem_of_getElem? hr)).2
    · have := List.mem_of_getElem? hr; rw [List.mem_singleton] at this; subst this; exact hi
   obtain ⟨ys, y1, y2⟩ := h.elB j _ (List.getElem?_eq_getElem hj); obtain ⟨ad, cp, rfl, _, _⟩ := zFL y1; have hc2 := y2 0 _ rfl; simp only [Ty.cells, Nat.mul_one, Nat.add_zero] at hc2; exact ⟨_, hc r j _ hr hc2, by rw [cBB]; exact hc2⟩
 · rcases List.mem_append.1 hj with hj | hj
   · exact ⟨by have := (h.jsi j hj).1; omega, (h.jsi j hj).2⟩
   · rw [List.mem_singleton] at hj; subst hj; exact ⟨by omega, hi⟩
 · rw [List.pairwise_append]; refine ⟨h.inc, List.pairwise_singleton _ _, fun x hx y hy => ?_⟩; rw [List.mem_singleton] at hy; subst hy; exact (h.jsi x hx).1
def DpRes (w W : World) (L : List (List Int)) (ad : Option Addr) (cp : Nat) : Prop := KeepA w W ∧ RowW W false (fun b => w.heap.size ≤ b) 1 L.length ad cp ∧ Elems W false (fun _ b => w.heap.size ≤ b) LIT L ad
theorem DpM.elem (h : DpM w W G bs s B cB oB adB cpB js adO cpO i) {r j : Nat} (hr : js[r]? = some j) : ∃ ad cp, cellAt W adO r = some (.slice ad (B.getD j []).length cp) ∧ RowW W true (fun b => cB b = some (oB, j + 1)) 1 (B.getD j []).length ad cp ∧
  ∀ k x, (B.getD j [])[k]? = some x → cellAt W ad k = some (.int .i64 x) := by
 have hj := (h.jsi j (List.mem_of_getElem? hr)).2; have e : B.getD j [] = B[j] := by simp [List.getD_eq_getElem?_getD, List.getElem?_eq_getElem hj]
 rw [e]; obtain ⟨ys, y1, y2⟩ := h.elB j _ (List.getElem?_eq_getElem hj); obtain ⟨ad, cp, rfl, h1, h2⟩ := zFL y1; have hc2 := y2 0 _ rfl; simp only [Ty.cells, Nat.mul_one, Nat.add_zero] at hc2; obtain ⟨v, v1, v2⟩ := h.cellO r j hr; rw [hc2] at v2; simp only [Option.some.injEq] at v2; subst v2; exact ⟨ad, cp, v1, h1, h2⟩
theorem DpM.res (h : DpM w W G bs s B cB oB adB cpB js adO cpO i) : DpRes w W (js.map fun j => B.getD j []) adO cpO := by
 refine ⟨h.keep, ?_, fun r x hx => ?_⟩
 · rw [List.length_map]; exact h.rowO.frame (by simp) (Nat.le_refl _) (fun b _ hb => ⟨hb.1, rfl⟩)
 · rw [List.getElem?_map, Option.map_eq_some_iff] at hx; obtain ⟨j, hj, rfl⟩ := hx; obtain ⟨ad, cp, h1, h2, h3⟩ := h.elem hj; refine ⟨[.slice ad (B.getD j []).length cp], zDp (h2.frame (by simp) (Nat.le_refl _) (fun b _ hb => ⟨(h.cnew b _ _ hb).1, rfl⟩)) h3, fun k v hv => ?_⟩
   match k with
   | 0 =>
    simp only [List.getElem?_cons_zero, Option.some.injEq] at hv; subst hv; simpa [Ty.cells] using h1
   | k + 1 => simp at hv
theorem DpM.spoilt (h : DpM w W G bs s B cB oB adB cpB js adO cpO i) {j0 : Nat} {jr : List Nat} (hjs : js = j0 :: jr) {ad : Addr} {cp : Nat} (h1 : cellAt W adO 0 = some (.slice (some ad) (B.getD j0 []).length cp)) (hlen : 0 < (B.getD j0 []).length) {x : Int} {W' : World}
  (hk : KeepB ad.block W W') (hx : W'.cell? ⟨ad.block, ad.off, none⟩ = some (.int .i64 x)) (ho : ∀ q, q ≠ ad.off → W'.cell? ⟨ad.block, q, none⟩ = W.cell? ⟨ad.block, q, none⟩) (hrw : ∀ m, Row W ad.block m → Row W' ad.block m) :
  DpRes w W' ((B.getD j0 []).set 0 x :: jr.map fun j => B.getD j []) adO cpO := by
 subst hjs; obtain ⟨ad', cp', e1, e2, e3⟩ := h.elem (r := 0) (j := j0) rfl; rw [h1] at e1; simp only [Option.some.injEq, Value.slice.injEq, true_and] at e1; obtain ⟨rfl, rfl⟩ := e1; obtain ⟨k1, k2, k3, k4⟩ := e2.2.2 ad rfl (.inr rfl); have hnO : ∀ a, adO = some a → a.block ≠ ad.block := fun a ha e => by
  have := (h.rowO.2.2 a ha (.inr rfl)).2.2.1.2.1; rw [e, k3] at this; simp at this
 have cO : ∀ n, cellAt W' adO n = cellAt W adO n := fun n => zV fun a ha => hk.2.2 _ (h.rowO.2.2 a ha (.inr rfl)).2.1 (hnO a ha)
 refine ⟨⟨Nat.le_trans h.keep.1 hk.1, h.keep.2.1.trans hk.2.1, fun b hb => (hk.2.2 b (Nat.lt_of_lt_of_le hb h.keep.1) (by have := (h.cnew _ _ _ k3).1; omega)).trans (h.keep.2.2 b hb)⟩, ?_, fun r y hy => ?_⟩
 · have := h.rowO.frame (own' := false) (ok' := fun b => w.heap.size ≤ b) (w' := W') (by simp) hk.1 (fun b hb hok => ⟨hok.1, hk.2.2 b hb (fun e => by rw [e, k3] at hok; simp at hok)⟩); simpa using this
 · match r with
   | 0 =>
    simp only [List.getElem?_cons_zero, Option.some.injEq] at hy; subst hy
    refine ⟨[.slice (some ad) ((B.getD j0 []).set 0 x).length cp], zDp ?_ (fun k u hu => ?_), fun k v hv => ?_⟩
    · rw [List.length_set]; refine ⟨e2.1, fun e => by simp at e, fun a ha _ => ?_⟩; simp only [Option.some.injEq] at ha; subst ha; exact ⟨k1, Nat.lt_of_lt_of_le k2 hk.1, (h.cnew _ _ _ k3).1, fun e => by simp at e⟩
    · simp only [cellAt, Option.bind_some]
      cases k with
      | zero =>
       rw [List.getElem?_set_self hlen] at hu; simp only [Option.some.injEq] at hu; subst hu; rw [Nat.add_zero]; exact hx
      | succ k =>
       rw [List.getElem?_set_ne (by omega)] at hu; have := e3 (k + 1) u hu; simp only [cellAt, Option.bind_some] at this; rw [ho _ (by omega)]; exact this
    · match k with
      | 0 =>
       simp only [List.getElem?_cons_zero, Option.some.injEq] at hv; subst hv; rw [cO, List.length_set]; simpa [Ty.cells] using h1
      | k + 1 => simp at hv
   | r + 1 =>
    simp only [List.getElem?_cons_succ] at hy; rw [List.getElem?_map, Option.map_eq_some_iff] at hy; obtain ⟨j, hj, rfl⟩ := hy; obtain ⟨a2, c2, f1, f2, f3⟩ := h.elem (r := r + 1) (j := j) (by simpa using hj); have hjj : j0 ≠ j := by
     have := List.rel_of_pairwise_cons h.inc (List.mem_of_getElem? hj); omega
    have hne : ∀ b, cB b = some (oB, j + 1) → b ≠ ad.block := fun b hb e => by
     rw [e, k3] at hb; simp only [Option.some.injEq, Prod.mk.injEq, true_and] at hb; omega
    refine ⟨[.slice a2 (B.getD j []).length c2], zDp (f2.frame (by simp) hk.1 (fun b hb hc => ⟨(h.cnew b _ _ hc).1, hk.2.2 b hb (hne b hc)⟩)) (fun k u hu => ?_), fun k v hv => ?_⟩
    · rw [zV (fun a ha => by
       obtain ⟨_, q2, q3, _⟩ := f2.2.2 a ha (.inr rfl); exact hk.2.2 _ q2 (hne _ q3))]
      exact f3 k u hu
    · match k with
      | 0 =>
       simp only [List.getElem?_cons_zero, Option.some.injEq] at hv; subst hv; rw [cO]; simpa [Ty.cells] using f1
      | k + 1 => simp at hv
theorem DpM.niled (h : DpM w W G bs s B cB oB adB cpB js adO cpO i) {j0 : Nat} {jr : List Nat} (hjs : js = j0 :: jr) {ad : Addr} (had : adO = some ad) {W' : World} (hk : KeepB ad.block W W') (hx : W'.cell? ⟨ad.block, ad.off, none⟩ = some (.slice none 0 0))
  (ho : ∀ q, q ≠ ad.off → W'.cell? ⟨ad.block, q, none⟩ = W.cell? ⟨ad.block, q, none⟩) : DpRes w W' ([] :: jr.map fun j => B.getD j []) adO cpO := by
 subst hjs; subst had; obtain ⟨k1, k2, k3, k4⟩ := h.rowO.2.2 ad rfl (.inr rfl); have hne : ∀ b, cB b ≠ none → b ≠ ad.block := fun b hb e => hb (e ▸ k3.2.1)
 refine ⟨⟨Nat.le_trans h.keep.1 hk.1, h.keep.2.1.trans hk.2.1, fun b hb => (hk.2.2 b (Nat.lt_of_lt_of_le hb h.keep.1) (by have := k3.1; omega)).trans (h.keep.2.2 b hb)⟩, ?_, fun r y hy => ?_⟩
 · refine ⟨by simpa using h.rowO.1, fun e => by simp at e, fun a ha _ => ?_⟩; simp only [Option.some.injEq] at ha; subst ha; exact ⟨k1, Nat.lt_of_lt_of_le k2 hk.1, k3.1, fun e => by simp at e⟩
 · match r with
   | 0 =>
    simp only [List.getElem?_cons_zero, Option.some.injEq] at hy; subst hy; refine ⟨[.slice none ([] : List Int).length 0], zDp ⟨Nat.le_refl _, fun _ => ⟨rfl, fun _ => rfl⟩, fun a ha => by simp at ha⟩ (fun k u hu => by simp at hu), fun k v hv => ?_⟩
    match k with
    | 0 =>
     simp only [List.getElem?_cons_zero, Option.some.injEq] at hv; subst hv; simpa [cellAt] using hx
    | k + 1 => simp at hv
   | r + 1 =>
    simp only [List.getElem?_cons_succ] at hy; rw [List.getElem?_map, Option.map_eq_some_iff] at hy; obtain ⟨j, hj, rfl⟩ := hy; obtain ⟨a2, c2, f1, f2, f3⟩ := h.elem (r := r + 1) (j := j) (by simpa using hj)
    refine ⟨[.slice a2 (B.getD j []).length c2], zDp (f2.frame (by simp) hk.1 (fun b hb hc => ⟨(h.cnew b _ _ hc).1, hk.2.2 b hb (hne b (by rw [hc]; simp))⟩)) (fun k u hu => ?_), fun k v hv => ?_⟩
    · rw [zV (fun a ha => by
       obtain ⟨_, q2, q3, _⟩ := f2.2.2 a ha (.inr rfl); exact hk.2.2 _ q2 (hne _ (by rw [q3]; simp)))]
      exact f3 k u hu
    · match k with
      | 0 =>
       simp only [List.getElem?_cons_zero, Option.some.injEq] at hv; subst hv; simp only [cellAt, Option.bind_some, Ty.cells, Nat.mul_one, Nat.add_zero] at f1 ⊢; rw [ho _ (by omega)]; exact f1
      | k + 1 => simp at hv
end
end Go.Ev
namespace Go.Ev
section
variable {P : Program} {E : Env}
theorem zHE {ops : Array Oper} {o oj : Oper} {a : Act} {j dj : Nat} {b c : Bool} (hg : o.guard = some (j, b)) (hj : ops[j]? = some oj) (hjd : oj.dst = some dj) (hv : a.eval (.tmp dj) = .bool c) (hlt : dj < a.tmps.size) :
  Region.wanted o (yielded ops a.tmps) = (c == b) := by
 have h2 : a.tmps[dj]? = some (.bool c) := by
  have h : a.tmps.getD dj undef = .bool c := hv; rw [Array.getD_eq_getD_getElem?, Array.getElem?_eq_getElem hlt] at h; rw [Array.getElem?_eq_getElem hlt]; simpa using h
 unfold Region.wanted yielded; simp [hg, hj, hjd, h2]
theorem zTb {ops : Array Oper} {Q : Exit → Act → World → Prop} {i : Nat} {rest : List Nat} {o : Oper} {a : Act} {w : World} {d : Nat} (ho : ops[i]? = some o) (hw : Region.wanted o (yielded ops a.tmps) = false) (hd : o.dst = some d)
  (h : wpOps P ops Q rest (a.put (some d) undef) w) : wpOps P ops Q (i :: rest) a w := by
 rw [wpOps_cons]; unfold wpOp; simp only [ho, hw, hd]; simpa using h
theorem w_on {ops : Array Oper} {Q : Exit → Act → World → Prop} {i : Nat} {rest : List Nat} {o : Oper} {a : Act} {w : World} (ho : ops[i]? = some o) (hw : Region.wanted o (yielded ops a.tmps) = true) (h : o.wp P a w (wpOps P ops Q rest) Q) :
  wpOps P ops Q (i :: rest) a w := by
 rw [wpOps_cons]; unfold wpOp; simp only [ho, hw, if_true]; exact .inl h
theorem zRg {ops : Array Oper} {Q : Exit → Act → World → Prop} {i : Nat} {rest : List Nat} {o : Oper} {a : Act} {w w' : World} {d : Nat} {v : Value} (ho : ops[i]? = some o) (hg : Region.wanted o (yielded ops a.tmps) = true) (hd : o.dst = some d)
  (hr : (execOp a.eval o).run P w = .ok (.value v) w') (h : wpOps P ops Q rest (a.put (some d) v) w') : wpOps P ops Q (i :: rest) a w := w_on ho hg (by unfold Oper.wp; rw [hr, Oper.upon_value, hd]; exact h)
theorem zQJ {ops : Array Oper} {Q : Exit → Act → World → Prop} {i : Nat} {rest : List Nat} {o : Oper} {a : Act} {w : World} {f : FuncId} {args : Array Value} {d : Nat} (ho : ops[i]? = some o) (hg : Region.wanted o (yielded ops a.tmps) = true) (hd : o.dst = some d)
  (hr : (execOp a.eval o).run P w = .ok (.enter f args) w) (h : Calls P f args w fun e w' => ∃ v, e = .returned v ∧ wpOps P ops Q rest (a.put (some d) v) w') : wpOps P ops Q (i :: rest) a w := by
 refine w_on ho hg ?_; unfold Oper.wp; rw [hr, Oper.upon_enter, hd]; refine h.mono ?_; rintro e w' ⟨v, rfl, h⟩; exact h
section
variable {ops : Array Oper} {Q : Exit → Act → World → Prop} {i : Nat} {rest : List Nat} {o oj : Oper} {a : Act} {w w' : World} {d j dj : Nat} {b c : Bool} {v : Value}
theorem zOW (ho : ops[i]? = some o) (hg : o.guard = some (j, b)) (hj : ops[j]? = some oj) (hjd : oj.dst = some dj) (hd : o.dst = some d) (c : Bool) (hv : a.eval (.tmp dj) = .bool c) (hlt : dj < a.tmps.size) (hcb : (c == b) = false)
  (h : wpOps P ops Q rest (a.put (some d) undef) w) : wpOps P ops Q (i :: rest) a w := zTb ho ((zHE hg hj hjd hv hlt).trans hcb) hd h
theorem zRB (ho : ops[i]? = some o) (hg : o.guard = some (j, b)) (hj : ops[j]? = some oj) (hjd : oj.dst = some dj) (hd : o.dst = some d) (c : Bool) (hv : a.eval (.tmp dj) = .bool c) (hlt : dj < a.tmps.size) (hcb : (c == b) = true)
  (hr : (execOp a.eval o).run P w = .ok (.value v) w') (h : wpOps P ops Q rest (a.put (some d) v) w') : wpOps P ops Q (i :: rest) a w := zRg ho ((zHE hg hj hjd hv hlt).trans hcb) hd hr h
theorem zRh {f : FuncId} {args : Array Value} (ho : ops[i]? = some o) (hg : o.guard = some (j, b)) (hj : ops[j]? = some oj) (hjd : oj.dst = some dj) (hd : o.dst = some d) (c : Bool) (hv : a.eval (.tmp dj) = .bool c) (hlt : dj < a.tmps.size) (hcb : (c == b) = true)
  (hr : (execOp a.eval o).run P w = .ok (.enter f args) w) (h : Calls P f args w fun e w' => ∃ v, e = .returned v ∧ wpOps P ops Q rest (a.put (some d) v) w') : wpOps P ops Q (i :: rest) a w := zQJ ho ((zHE hg hj hjd hv hlt).trans hcb) hd hr h
end
theorem zRI {o : Oper} {a : Act} {w : World} {c x y : Operand} {b : Bool} (hop : o.op = .pick c x y) (hc : a.eval c = .bool b) : (execOp a.eval o).run P w = .ok (.value (if b then a.eval x else a.eval y)) w := by
 cases b <;> simp [execOp, hop, hc, asBool]
theorem zRy {o : Oper} {a : Act} {w : World} {c x y : Operand} {v : Value} (hop : o.op = .pick c x y) (hc : a.eval c = .bool false) (hy : a.eval y = v) : (execOp a.eval o).run P w = .ok (.value v) w := by
 rw [zRI hop hc, ← hy]
 rfl
theorem zRx {o : Oper} {a : Act} {w : World} {c x y : Operand} {v : Value} (hop : o.op = .pick c x y) (hc : a.eval c = .bool true) (hx : a.eval x = v) : (execOp a.eval o).run P w = .ok (.value v) w := by
 rw [zRI hop hc, ← hx]
 rfl
theorem zKj {o : Oper} {a : Act} {w : World} {T e : TypeId} {i : TypeInfo} (hT : P.underlying T = some (.slice e)) (hi : P.info? e = some i) (h1 : i.size = 1) {x y : Operand} {b off len cap n : Nat} {k : IntKind} (hop : o.op = .indexAddr T x y) (hx : a.eval x = .slice (some ⟨b, off, none⟩) len cap)
  (hy : a.eval y = .int k (n : Int)) (hn : n < len) : (execOp a.eval o).run P w = .ok (.value (.pointer (some ⟨b, off + n, none⟩))) w := by
 have := zTf (P := P) (w := w) hT hi hop hx hy hn; rwa [h1, Nat.mul_one] at this
structure FnAs (P : Program) (E : Env) (call : Oracle) (v : Nat) (fd : FD) (ps : List PK) (rs : List (Mode × Bool × Ty)) : Prop where
 par : fd.sig.params = ps
 res : fd.sig.res = rs
 keeps : fd.keeps = []
 tmps : ps.length ≤ fd.fn.ntmps
 spec : ∀ tvs outs, call v tvs = some outs → FnSpec P E fd tvs outs
 ent : ∀ args w, (callFunc fd.id args).run P w = .ok (.enter fd.id args) w
theorem FnAs.of {call : Oracle} {v : Nat} {fd : FD} {ps : List PK} {rs : List (Mode × Bool × Ty)} (hcall : ∀ v fd tvs outs, E.fd v = some fd → call v tvs = some outs → FnSpec P E fd tvs outs) (h : E.fd v = some fd) (ok : FdOk P fd) (h1 : fd.sig.params = ps) (h2 : fd.sig.res = rs) (h3 : fd.keeps = []) :
  FnAs P E call v fd ps rs := by
 obtain ⟨o1, o2, o3, o4, o5⟩ := ok; refine ⟨h1, h2, h3, h1 ▸ o5, fun tvs outs => hcall v fd tvs outs h, ?_⟩; intro args w; have q2' : ¬ fd.fn.name = "runtime.NumGoroutine" := by simpa using o2
 have q3' : ¬ fd.fn.body = none := fun e => by rw [e] at o3; simp at o3
 simp [callFunc, o1, q2', q3']
theorem zJA {w W : World} {G : Nat → Prop} {bs : Nat} {s : SrcT.den} {B : List (List Int)} {cB : Col} {oB : Nat} {adB : Option Addr} {cpB : Nat} {js : List Nat} {adO : Option Addr} {cpO i : Nat} {call : Oracle} {v : Nat} {fd : FD}
  (q : FnAs P E call v fd [.boxr SrcT, .ro (.int .i64)] [(.own, false, .int .i64)]) (h : DpM w W G bs s B cB oB adB cpB js adO cpO i) {y : Int} {o : List TV} (ho : call v [⟨SrcT, s⟩, ⟨.int .i64, y⟩] = some o) :
  Calls P fd.id #[.pointer (some ⟨bs, 0, none⟩), .int .i64 y] W fun e W' => e = .returned (.int .i64 (getTV (.int .i64) o 0)) ∧ KeepB bs W W' ∧ ∃ G', DpM w W' G' bs (getTV SrcT o 1) B cB oB adB cpB js adO cpO i := by
 refine (zP0 q.par q.res q.keeps q.tmps (q.spec _ _ ho) h.src).mono ?_; rintro e W' ⟨rfl, hk, hs⟩; exact ⟨rfl, hk, _, h.drawn hk hs⟩
theorem zFt {w W : World} {G : Nat → Prop} {bs : Nat} {s : SrcT.den} {B : List (List Int)} {cB : Col} {oB : Nat} {adB : Option Addr} {cpB : Nat} {js : List Nat} {adO : Option Addr} {cpO i : Nat} {call : Oracle} {v : Nat} {fd : FD}
  (q : FnAs P E call v fd [.boxr SrcT, .ro LIT] [(.own, false, .int .i64)]) (h : DpM w W G bs s B cB oB adB cpB js adO cpO i) {W1 : World} (hk1 : KeepA W W1) (hsz : W1.heap.size = W.heap.size + 1) {ys : List Int} {nb : Nat} (hnb : nb = W.heap.size) (hr : Row W1 nb ys.length)
  (hc : ∀ j u, (ys.map (Value.int .i64))[j]? = some u → W1.cell? ⟨nb, j, none⟩ = some u) {o : List TV} (ho : call v [⟨SrcT, s⟩, ⟨LIT, ys⟩] = some o) :
  Calls P fd.id #[.pointer (some ⟨bs, 0, none⟩), .slice (some ⟨nb, 0, none⟩) ys.length ys.length] W1 fun e W' => e = .returned (.int .i64 (getTV (.int .i64) o 0)) ∧ KeepB bs W W' ∧ ∃ G', DpM w W' G' bs (getTV SrcT o 1) B cB oB adB cpB js adO cpO i := by
 subst hnb; have hs1 : SrcAt W1 (fun b => G b ∨ b = W.heap.size) bs s := h.src.keep hk1.1 (hk1.2.2 _ h.bsn.2.1) (fun b hb hg => ⟨.inl hg, hk1.2.2 b hb⟩) (fun hg => hg.elim h.src.1 (fun e => by have := h.bsn.2.1; omega)); have y1 : RowW W1 false (fun b => G b ∨ b = W.heap.size) 1 ys.length (some ⟨W.heap.size, 0, none⟩) ys.length := by
  refine ⟨Nat.le_refl _, fun e => by simp at e, fun a ha _ => ?_⟩; simp only [Option.some.injEq] at ha; subst ha; exact ⟨rfl, by simp only; omega, .inr rfl, fun e => by simp at e⟩
 have y2 : Elems W1 false (fun _ b => G b ∨ b = W.heap.size) (.int .i64) ys (some ⟨W.heap.size, 0, none⟩) := fun k x hx => by
  refine ⟨[.int .i64 x], rfl, fun j u hu => ?_⟩
  match j with
  | 0 =>
   simp only [List.getElem?_cons_zero, Option.some.injEq] at hu; subst hu; have := hc k (.int .i64 x) (by rw [List.getElem?_map, hx]; rfl); simpa [cellAt, Ty.cells] using this
  | j + 1 => simp at hu
 refine (zQx q.par q.res q.keeps q.tmps (q.spec _ _ ho) hs1 y1 y2).mono ?_; rintro e W' ⟨rfl, hk, hs⟩; have hkk : KeepB bs W W' := (hk1.b bs).trans hk; refine ⟨rfl, hkk, _, h.drawn hkk (hs.keep (Nat.le_refl _) rfl (fun b _ hg => ⟨?_, rfl⟩) (fun hg => hg.elim h.src.1 (fun e => by have := h.bsn.2.1; omega)))⟩
 rcases hg with (hg | hg) | hg
 · exact .inl hg
 · exact .inr (by omega)
 · exact .inr (by omega)
theorem DpM.cellO_same {w W : World} {G : Nat → Prop} {bs : Nat} {s : SrcT.den} {B : List (List Int)} {cB : Col} {oB : Nat} {adB : Option Addr} {cpB : Nat} {js : List Nat} {adO : Option Addr} {cpO i : Nat} (h : DpM w W G bs s B cB oB adB cpB js adO cpO i) {W' : World} (hk : KeepB bs W W') (n : Nat) :
  cellAt W' adO n = cellAt W adO n := zV fun a ha => by
 obtain ⟨_, k2, k3, _⟩ := h.rowO.2.2 a ha (.inr rfl); exact hk.2.2 _ k2 k3.2.2.1
def DpbWalk (P : Program) (E : Env) (f : FuncId) (frv nxv drv blv pkv : Nat) : Prop := ∀ {call : Oracle} (hcall : ∀ v fd tvs outs, E.fd v = some fd → call v tvs = some outs → FnSpec P E fd tvs outs) {code : List Int} {outs : List TV} (hx : dpbE call frv nxv drv blv pkv code = some outs)
 {w : World} {G : Nat → Prop} {ad : Option Addr} {cp : Nat} (y1 : RowW w false G 1 code.length ad cp) (y2 : Elems w false (fun _ => G) (.int .u8) code ad) (hGs : ∀ b, G b → b < w.heap.size),
 Calls P f #[.slice ad code.length cp] w fun e w' => ∃ (L : List (List Int)) (m : Int) (ad' : Option Addr) (cp' : Nat), outs = [⟨.slice (.slice (.int .i64)), L⟩, ⟨.int .i64, m⟩] ∧ e = .returned (.tuple #[.slice ad' L.length cp', .int .i64 m]) ∧ DpRes w w' L ad' cp'
theorem zTC {fd : FD} {frv nxv drv blv pkv : Nat} (hw : DpbWalk P E fd.id frv nxv drv blv pkv) (hp : fd.sig.params = [.ro (.slice (.int .u8))]) (hr : fd.sig.res = [(.ro, false, .slice (.slice (.int .i64))), (.own, false, .int .i64)])
  (hres : fd.fn.results = #[.tmp 2, .tmp 3]) (hn2 : 4 ≤ fd.fn.ntmps) (hkn : fd.keeps = []) : ExtOk P E fd (.dpb frv nxv drv blv pkv) := by
 intro call tvs outs hcall hx w0 X Y0 ρ col args hal _ hin; have hinit : fd.init tvs = ⟨[.w (.c (.sl 1000))] ++ List.replicate (fd.fn.ntmps - 1) .undef, Objs.none.upd 1000 (.row .ro (.int .u8) (getTV (.slice (.int .u8)) tvs 0))⟩ := by
  simp [FD.init, hp, initPs, PK.init, unpackW, Objs.upds, idOf]
 rw [hinit] at hin; simp only [extE] at hx; generalize hxs : getTV (.slice (.int .u8)) tvs 0 = xs at hx hin; have hal2 : args.length = 1 := by rw [hal, hp]; rfl
 obtain ⟨a0, rfl⟩ : ∃ a0, args = [a0] := by
  match args, hal2 with
  | [a0], _ => exact ⟨a0, rfl⟩
 have e0 : a0 = .slice (ρ 1000).addr (ρ 1000).len (ρ 1000).cap := by
  have := hin.tmps 0 (.w (.c (.sl 1000))) (by simp)
  rcases this with h | ⟨_, h⟩
  · simp at h
  · simpa [vval, wval, cval, Array.getD_eq_getD_getElem?, Array.getElem?_append] using h
 subst e0; obtain ⟨k1, k2, k3⟩ := hin.objs 1000 (.row .ro (.int .u8) xs) (by simp [Objs.upd]); have hlen : (ρ 1000).len = xs.length := k1; rw [hlen] at hin ⊢; generalize (ρ 1000).addr = addr at hin k2 k3 ⊢; generalize (ρ 1000).cap = cap at hin k2 ⊢
 refine (hw hcall hx (w := w0) (G := fun b => RO col (fun b => Y0 b ∨ w0.heap.size ≤ b ∨ X b) b ∧ b < w0.heap.size) (ad := addr) (cp := cap) ?_ ?_ (fun b hb => hb.2)).mono ?_
 · exact k2.frame id (Nat.le_refl _) (fun b hb hg => ⟨⟨hg, hb⟩, rfl⟩)
 · exact k3.frame id (Nat.le_refl _) (fun _ _ b hb hg => ⟨⟨hg, hb⟩, rfl⟩) (fun _ _ _ => rfl)
 rintro e w' ⟨L, m, ad', cp', rfl, rfl, ⟨hk, hrow, hel⟩⟩; obtain ⟨q1, q2, q3⟩ := hk; have hsz : (⟨[Value.slice addr xs.length cap].toArray ++ Array.replicate (fd.fn.ntmps - [Value.slice addr xs.length cap].length) undef, []⟩ : Act).tmps.size = fd.fn.ntmps := by
  simp; omega
 have hcolN : ∀ b, w0.heap.size ≤ b → col b = none := fun b hb => by
  cases hh : col b with
  | none => rfl
  | some y => have := (hin.cold b y.1 y.2 hh).2.1; omega
 refine ⟨⟨((List.replicate fd.fn.ntmps .undef).set 2 (.w (.c (.sl 1000)))).set 3 (.w (.c (.int .i64 m))), Objs.none.upd 1000 (.row .ro LIT L)⟩, fun _ => ⟨ad', L.length, cp'⟩, fun b => if b < w0.heap.size then none else col b,
  ((⟨[Value.slice addr xs.length cap].toArray ++ Array.replicate (fd.fn.ntmps - [Value.slice addr xs.length cap].length) undef, []⟩ : Act).put (some 2) (.slice ad' L.length cp')).put (some 3) (.int .i64 m), [.c (.sl 1000), .c (.int .i64 m)], rfl,
   ⟨hin.defers, ?_, fun i v hi => ?_, fun o y hy => ?_, fun b o c hb => ?_, fun b hb _ => q3 b hb, q1, fun q hq => ?_, q2⟩, ?_, ?_, fun x hx => ?_⟩
 · rw [zA, zA, hsz]; simp
 · rw [List.getElem?_set] at hi
   split at hi
   · rename_i e; subst e; rw [if_pos (by simp; omega)] at hi; simp only [Option.some.injEq] at hi; subst hi; exact .inr ⟨by simp [wfV, wfW, wfC, Objs.upd], (zC (by rw [zA, hsz]; omega) _).trans (if_pos rfl)⟩
   · rw [List.getElem?_set] at hi
     split at hi
     · rename_i e; subst e; rw [if_pos (by simp; omega)] at hi; simp only [Option.some.injEq] at hi; subst hi; refine .inr ⟨by simp [wfV, wfW, wfC, Objs.upd], (zC (by rw [zA, hsz]; omega) _).trans ?_⟩; rw [if_neg (by omega)]; exact (zC (by rw [hsz]; omega) _).trans (if_pos rfl)
     · rw [List.getElem?_replicate] at hi
       split at hi
       · simp only [Option.some.injEq] at hi; exact .inl hi.symm
       · simp at hi
 · have ho : o = 1000 := by
    simp only [Objs.upd, Objs.none] at hy
    split at hy
    · assumption
    · simp at hy
   subst ho; simp only [Objs.upd, if_true, Option.some.injEq] at hy; subst hy; have hnew : ∀ b, w0.heap.size ≤ b → RO (fun b => if b < w0.heap.size then none else col b) (fun b => Y0 b ∨ w0.heap.size ≤ b ∨ X b) b := fun b hb => ⟨.inl (by simp [hcolN b hb]), .inr (.inl hb)⟩
   exact ⟨rfl, hrow.frame id (Nat.le_refl _) (fun b _ hb => ⟨hnew b hb, rfl⟩), hel.frame id (Nat.le_refl _) (fun _ _ b _ hb => ⟨hnew b hb, rfl⟩) (fun _ _ _ => rfl)⟩
 · split at hb
   · simp at hb
   · rename_i h; rw [hcolN b (by omega)] at hb; simp at hb
 · simp [fixOf, FD.fixed, FD.kept, hkn, hp, fixedGo, PK.isFixed] at hq
 · unfold FD.finish; have h1 : resWs E ⟨((List.replicate fd.fn.ntmps .undef).set 2 (.w (.c (.sl 1000)))).set 3 (.w (.c (.int .i64 m))), Objs.none.upd 1000 (.row .ro LIT L)⟩ fd.fn.results.toList = some [.c (.sl 1000), .c (.int .i64 m)] := by
    rw [hres]; show resWs E _ [.tmp 2, .tmp 3] = _; have g2 : (((List.replicate fd.fn.ntmps V.undef).set 2 (.w (.c (.sl 1000)))).set 3 (.w (.c (.int .i64 m)))).getD 2 .undef = .w (.c (.sl 1000)) := by
     rw [List.getD_eq_getElem?_getD, List.getElem?_set_ne (by omega), List.getElem?_set_self (by simp; omega)]
     rfl
    have g3 : (((List.replicate fd.fn.ntmps V.undef).set 2 (.w (.c (.sl 1000)))).set 3 (.w (.c (.int .i64 m)))).getD 3 .undef = .w (.c (.int .i64 m)) := by
     rw [List.getD_eq_getElem?_getD, List.getElem?_set_self (by simp; omega)]
     rfl
    simp only [resWs, resW, g2, g3, V.one]
   rw [h1, hr, hp]; simp [packRes, packRes1, backPs, PK.back, packW, rowAs, Objs.upd, apart, Mode.le, Mode.mine]
 · rw [hres]; show resWs E _ [.tmp 2, .tmp 3] = _; have g2 : (((List.replicate fd.fn.ntmps V.undef).set 2 (.w (.c (.sl 1000)))).set 3 (.w (.c (.int .i64 m)))).getD 2 .undef = .w (.c (.sl 1000)) := by
    rw [List.getD_eq_getElem?_getD, List.getElem?_set_ne (by omega), List.getElem?_set_self (by simp; omega)]
    rfl
   have g3 : (((List.replicate fd.fn.ntmps V.undef).set 2 (.w (.c (.sl 1000)))).set 3 (.w (.c (.int .i64 m)))).getD 3 .undef = .w (.c (.int .i64 m)) := by
    rw [List.getD_eq_getElem?_getD, List.getElem?_set_self (by simp; omega)]
    rfl
   simp only [resWs, resW, g2, g3, V.one]
 · simp only [List.mem_cons, List.not_mem_nil, or_false] at hx; rcases hx with rfl | rfl <;> simp [wfW, wfC, Objs.upd]
end
end Go.Ev
